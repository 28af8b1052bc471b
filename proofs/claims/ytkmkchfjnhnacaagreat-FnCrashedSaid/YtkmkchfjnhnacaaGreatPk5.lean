/- A walk halted at an operation, to let go of how the world was made. No program in sight. -/
import Derived.Test.YtkmkchfjnhnacaaGreatPk1
import Derived.Laws.Tables
import Derived.Test.YtkmkchfjnhnacaaGreatPk0
import Derived.Laws.Rows
namespace Go.Proofs.YtkmkchfjnhnacaaGreat
open Go.ChangeShapes Go.WideShapes Go.ChangeAt Go.RowKit Go.Sort
set_option linter.unusedVariables false
def Stop (p : Prop) : Prop := p
theorem wl_stop {P : Program} {ops : Array Oper} {Q : Exit → Act → World → Prop} {l : List Oper} {a : Act} {w : World} (d : Nat) {op : Op} {ty : TypeId} {pos : String} {af : Array Edge} {gu : Option (Nat × Bool)} (h : Stop (wpList P ops Q ({ dst := some d, op := op, type := ty, pos := pos, after := af, guard := gu } :: l) a w)) :
  wpList P ops Q ({ dst := some d, op := op, type := ty, pos := pos, after := af, guard := gu } :: l) a w := h
theorem stop_go {P : Program} {ops : Array Oper} {Q : Exit → Act → World → Prop} {l : List Oper} {a : Act} {w : World} (F : World → Prop) (hF : F w) (h : ∀ W, F W → wpList P ops Q l a W) : Stop (wpList P ops Q l a w) := h w hF
theorem isAgg_struct {P : Program} {t : TypeId} {fs : Array Field} (h : P.underlying t = some (.struct fs)) (w : World) : (isAgg t).run P w = .ok true w := by
 simp_all [isAgg, run_underlying h]
theorem wl_stopS {P : Program} {ops : Array Oper} {Q : Exit → Act → World → Prop} {l : List Oper} {a : Act} {w : World} (T : TypeId) {x y : Operand} {ty : TypeId} {pos : String} {af : Array Edge} {gu : Option (Nat × Bool)} (h : Stop (wpList P ops Q ({ dst := none, op := .store T x y, type := ty, pos := pos, after := af, guard := gu } :: l) a w)) :
  wpList P ops Q ({ dst := none, op := .store T x y, type := ty, pos := pos, after := af, guard := gu } :: l) a w := h
theorem chg_setRow (w : World) (g : Nat) (cs : Array Value) : Chg w (w.setRow g cs) [g] := by
 refine ⟨rfl, rfl, rfl, ?_, fun k hk hn => ?_⟩
 ·simp [World.setRow]
 ·have hn' : ¬ g = k := fun e => hn (by simp [e])
  simp [World.setRow, Array.getElem?_modify, hn']
theorem stop_store {P : Program} {ops : Array Oper} {Q : Exit → Act → World → Prop} {l : List Oper} {a : Act} {w : World} {T t : TypeId} {x y : Operand} {ty : TypeId} {pos : String} {af : Array Edge} {old : Array Value} (g : Nat) (cells : Array Value)
  (hx : a.eval x = .pointer (some ⟨g, 0, none⟩)) (hy : a.eval y = .agg cells) (hg : w.heap[g]? = some (.cells old t (0, 0))) (hi : (P.info? T).map (·.size) = some cells.size) (hold : old.size = cells.size) (h1 : cells.all (·.oneCell') = true)
  (h : ∀ W, W.heap[g]? = some (.cells cells t (0, 0)) → Chg w W [g] → wpList P ops Q l (a.put none undef) W) : Stop (wpList P ops Q ({ dst := none, op := .store T x y, type := ty, pos := pos, after := af, guard := none } :: l) a w) :=
 wpList_store_row rfl T x y rfl g cells hx hy t old hg hi hold h1 (h _ (setRow_heap w g old cells t (0, 0) hg) (chg_setRow w g cells))
theorem chg_new {a b c : World} {g : Nat} (h : Ext a b) (k : Chg b c [g]) (hg : a.heap.size ≤ g) : Ext a c := ext_chg h k (fun x hx => by rw [Mi] at hx; omega)
theorem LgO.chg1 {w w' : World} {B T g : Nat} {a : LAd} {l : Lg} (h : LgO w B T a l) (hg : Chg w w' [g]) (hlt : g < B) : LgO w' B T a l := h.chg hg (fun k hk hm => by rw [Mi] at hm; have := h.low k hk; omega)
theorem box_chg {w w' : World} {g k : Nat} {o : Obj} (h : w.heap[k]? = some o) (hg : Chg w w' [g]) (hne : k ≠ g) : w'.heap[k]? = some o := (hg.block k (bx_lt h) (fun hm => hne (by simpa using hm))).trans h
theorem results_box {P : Program} {fn : Func} {tmps : Array Value} {w : World} {p k : Nat} {cs : Array Value} {t T : TypeId} {fs : Array Field} (hr : fn.results = #[.cell k t]) (ht : tmps[k]? = some (.pointer (some ⟨p, 0, none⟩)))
  (hu : P.underlying t = some (.struct fs)) (hie : (P.info? t).map (·.size) = some cs.size) (hb : w.heap[p]? = some (.cells cs T (0, 0))) : (results fn tmps).run P w = .ok (.agg cs) w := by
 have h1 := run_loadCells_list (P := P) w ⟨p, 0, none⟩ cs.toList (fun j v h => by rw [Addr.add_lit, Nat.zero_add, bx_cell hb j]; simpa using h)
 obtain ⟨ie, hie, hs⟩ := Option.map_eq_some_iff.1 hie
 rw [Array.length_toList] at h1
 have hagg := isAgg_struct hu w
 have hti : (typeInfo t).run P w = .ok ie w := by simp [typeInfo, hie, go_sem]
 have hload : (loadVar t ⟨p, 0, none⟩).run P w = .ok (.agg cs) w := by
  simp [loadVar, hagg, sizeOf, hti, hs, h1, Result.andThen]
 simp [results, hr, ht, asAddr, hload]
end Go.Proofs.YtkmkchfjnhnacaaGreat
namespace Go.Proofs.YtkmkchfjnhnacaaGreat
open Go.RowKit Go.Sort
set_option linter.unusedVariables false
section
variable {P : Program} {ops : Array Oper} {md : Region.Mode}
theorem waits_up : ∀ (f j i : Nat), waits md ops f j i = true → waits md ops (f + 1) j i = true
 | 0, _, _, h => by unfold waits at h; cases h
 | f + 1, j, i, h => by
  unfold waits at h ⊢
  cases ho : ops[j]? with
  | none => simp only [ho] at h; cases h
  | some o =>
   simp only [ho, Bool.or_eq_true, Array.any_eq_true'] at h ⊢
   rcases h with ⟨e, h1, h2⟩ | ⟨e, h1, h2⟩
   ·exact .inl ⟨e, h1, h2⟩
   ·rw [Bool.and_eq_true] at h2
    exact .inr ⟨e, h1, by rw [Bool.and_eq_true]; exact ⟨h2.1, waits_up f _ _ h2.2⟩⟩
theorem waits_le {f j i : Nat} (h : waits md ops f j i = true) : ∀ g, waits md ops (f + g) j i = true
 | 0 => h
 | g + 1 => waits_up _ _ _ (waits_le h g)
def mOf (md : Region.Mode) (ms : List Nat) : List Edge → Nat
 | [] => 0
 | e :: r => if Region.binds md e = true then (mOf md ms r ||| 2 ^ e.on) ||| ms.getD e.on 0 else mOf md ms r
def masks (md : Region.Mode) : List Oper → List Nat → List Nat
 | [], ms => ms
 | o :: r, ms => masks md r (ms ++ [mOf md ms o.after.toList])
def MsOk (md : Region.Mode) (ops : Array Oper) (ms : List Nat) : Prop := ∀ j m i, ms[j]? = some m → m.testBit i = true → waits md ops (j + 1) j i = true
theorem mOf_ok {ms : List Nat} (h : MsOk md ops ms) (i : Nat) : ∀ (es : List Edge), (mOf md ms es).testBit i = true → ∃ e ∈ es, Region.binds md e = true ∧ (e.on = i ∨ waits md ops ms.length e.on i = true)
 | [], hb => by simp [mOf] at hb
 | e :: r, hb => by
  unfold mOf at hb
  split at hb
  ·rename_i he
   rw [Nat.testBit_or, Nat.testBit_or, Bool.or_eq_true, Bool.or_eq_true] at hb
   rcases hb with (hb | hb) | hb
   ·obtain ⟨x, h1, h2⟩ := mOf_ok h i r hb
    exact ⟨x, List.mem_cons_of_mem _ h1, h2⟩
   ·rw [Nat.testBit_two_pow] at hb
    exact ⟨e, List.mem_cons_self, he, .inl (by simpa using hb)⟩
   ·refine ⟨e, List.mem_cons_self, he, .inr ?_⟩
    cases hm : ms[e.on]? with
    | none => rw [List.getD_eq_getElem?_getD, hm] at hb; simp at hb
    | some m =>
     rw [List.getD_eq_getElem?_getD, hm] at hb
     have h1 := h e.on m i hm hb
     have h2 : e.on < ms.length := (List.getElem?_eq_some_iff.1 hm).1
     have h3 := waits_le h1 (ms.length - (e.on + 1))
     rwa [show e.on + 1 + (ms.length - (e.on + 1)) = ms.length by omega] at h3
  ·obtain ⟨x, h1, h2⟩ := mOf_ok h i r hb
   exact ⟨x, List.mem_cons_of_mem _ h1, h2⟩
theorem masks_ok : ∀ (l : List Oper) (ms : List Nat), MsOk md ops ms → (∀ k o, l[k]? = some o → ops[ms.length + k]? = some o) → MsOk md ops (masks md l ms)
 | [], ms, h, _ => h
 | o :: r, ms, h, hl => by
  unfold masks
  refine masks_ok r _ ?_ ?_
  ·intro j m i hj hb
   by_cases hlt : j < ms.length
   ·rw [List.getElem?_append_left hlt] at hj
    exact h j m i hj hb
   ·rw [List.getElem?_append_right (by omega)] at hj
    by_cases he : j - ms.length = 0
    ·rw [he] at hj
     simp at hj
     subst hj
     obtain ⟨e, h1, h2, h3⟩ := mOf_ok h i _ hb
     have hj : j = ms.length := by omega
     subst hj
     have ho := hl 0 o rfl
     rw [Nat.add_zero] at ho
     unfold waits
     simp only [ho, Bool.or_eq_true, Array.any_eq_true', Bool.and_eq_true, beq_iff_eq]
     rcases h3 with h3 | h3
     ·exact .inl ⟨e, by simpa using h1, h3, h2⟩
     ·exact .inr ⟨e, by simpa using h1, h2, h3⟩
    ·rw [List.getElem?_eq_none (by simp; omega)] at hj
     cases hj
  ·intro k q hk
   have := hl (k + 1) q (by simpa using hk)
   rw [List.length_append]
   rw [show ms.length + [mOf md ms o.after.toList].length + k = ms.length + (k + 1) by simp; omega]
   exact this
def bitOf (mk : List Nat) (j i : Nat) : Bool := (mk.getD j 0).testBit i
theorem bit_waits {l : List Oper} (j i : Nat) (h : bitOf (masks md l []) j i = true) : waits md l.toArray l.toArray.size j i = true := by
 have hok : MsOk md l.toArray (masks md l []) := masks_ok l [] (fun j m i hj => by simp at hj) (fun k o hk => by simpa using hk)
 unfold bitOf at h
 cases hm : (masks md l [])[j]? with
 | none => rw [List.getD_eq_getElem?_getD, hm] at h; simp at h
 | some m =>
  rw [List.getD_eq_getElem?_getD, hm] at h
  have h1 := hok j m i hm h
  by_cases hj : j < l.toArray.size
  ·have := waits_le h1 (l.toArray.size - (j + 1))
   rwa [show j + 1 + (l.toArray.size - (j + 1)) = l.toArray.size by omega] at this
  ·unfold waits at h1
   rw [Array.getElem?_eq_none (by omega)] at h1
   cases h1
def mixFreeB (md : Region.Mode) (mk : List Nat) (ops : Array Oper) (n : Nat) (listed : Array Bool) (i : Nat) : Bool :=
 match ops[i]? with
 | none => false
 | some oi => (List.range ops.size).all fun j => j == i || listed.getD j true || match ops[j]? with
   | some oj => (bitOf mk j i || ((decide (j < n) || isLate oi) && oi.apart ops oj && !(isCall oi && isCall oj) && (!isAlloc oi || isAlloc oj))) && (!isLate oi || (oj.after.any fun e => Region.binds md e && e.on == i) || oi.apart ops oj)
   | none => true
theorem mixFreeB_ok {l : List Oper} {n : Nat} {listed : Array Bool} {i : Nat} (h : mixFreeB md (masks md l []) l.toArray n listed i = true) : mixFree md l.toArray n listed i = true := by
 unfold mixFreeB at h
 unfold mixFree
 cases ho : l.toArray[i]? with
 | none => simp only [ho] at h; cases h
 | some oi =>
  simp only [ho] at h ⊢
  rw [List.all_eq_true] at h ⊢
  intro j hj
  have h1 := h j hj
  rw [Bool.or_eq_true] at h1 ⊢
  rcases h1 with h1 | h1
  ·exact .inl h1
  ·refine .inr ?_
   cases hoj : l.toArray[j]? with
   | none => rfl
   | some oj =>
    simp only [hoj] at h1 ⊢
    rw [Bool.and_eq_true] at h1 ⊢
    refine ⟨?_, h1.2⟩
    have h2 := h1.1
    rw [Bool.or_eq_true] at h2 ⊢
    rcases h2 with h2 | h2
    ·exact .inr (bit_waits j i h2)
    ·exact .inl h2
def lexMixB (md : Region.Mode) (mk : List Nat) (ops : Array Oper) (n g : Nat) : List Nat → Array Bool → Bool
 | [], listed => Region.seqB md ops g n listed
 | i :: r, listed => (Region.ready md ops listed).contains i && decide (i < n) && mixFreeB md mk ops n listed i && lexMixB md mk ops n g r (listed.setIfInBounds i true)
theorem lexMixB_ok {l : List Oper} {n g : Nat} : ∀ (is : List Nat) (listed : Array Bool), lexMixB md (masks md l []) l.toArray n g is listed = true → lexMix md l.toArray n g is listed = true
 | [], listed, h => h
 | i :: r, listed, h => by
  unfold lexMixB at h
  unfold lexMix
  simp only [Bool.and_eq_true] at h ⊢
  exact ⟨⟨h.1.1, mixFreeB_ok h.1.2⟩, lexMixB_ok r _ h.2⟩
def mixBB (l : List Oper) (n : Nat) : Bool :=
 Region.noSelect l.toArray && decide (n ≤ l.toArray.size) && lexMixB .any (masks .any l []) l.toArray n (l.toArray.size - n) (headIdx l.toArray n) (Array.replicate l.toArray.size false)
theorem mixBB_ok {l : List Oper} {n : Nat} (h : mixBB l n = true) : mixB l.toArray n = true := by
 unfold mixBB at h
 unfold mixB
 simp only [Bool.and_eq_true] at h ⊢
 exact ⟨h.1, lexMixB_ok _ _ h.2⟩
end
theorem wp_region_mixb {P : Program} {id : Nat} {Q : Exit → Act → World → Prop} (hQ : ∀ (c : _) (a : Act) (d : Nat) (v : Value) (w : World), Q (.panic c) (a.put (some d) v) w → Q (.panic c) a w) {a : Act} {w : World} {l : List Oper} (n : Nat) (hm : P.follows .mixedOrders = true) (hB : mixBB l n = true)
  (h : (∀ (d : Nat) (os : Array Obj) (b o : Nat), b < w.heap.size → (grow (redrawn w d) os).cell? ⟨b, o, none⟩ = w.cell? ⟨b, o, none⟩) →
   Mx P l.toArray (Ext w) w.heap.size (fun C a' => ∀ w', C w' → wpList P l.toArray Q (l.drop n) a' w') (headOps l n) (Ext w) [] a) : (Code.region id l.toArray true).wp P Q a w :=
 wp_region_mix' hQ n hm (mixBB_ok hB) h
end Go.Proofs.YtkmkchfjnhnacaaGreat
namespace Go.Proofs.YtkmkchfjnhnacaaGreat
open Go.ChangeShapes Go.WideShapes Go.ChangeAt Go.RowKit Go.Sort
set_option linter.unusedVariables false
theorem stop_load {P : Program} {ops : Array Oper} {Q : Exit → Act → World → Prop} {l : List Oper} {a : Act} {w : World} {ty : TypeId} {x : Operand} {d : Nat} {rt : TypeId} {pos : String} {af : Array Edge} {g : Nat} {cs : Array Value} {t : TypeId} {fs : Array Field}
  (hg : w.heap[g]? = some (.cells cs t (0, 0))) (hx : a.eval x = .pointer (some ⟨g, 0, none⟩)) (hu : P.underlying ty = some (.struct fs)) (hi : (P.info? ty).map (·.size) = some cs.size)
  (h : wpList P ops Q l (a.put (some d) (.agg cs)) w) : Stop (wpList P ops Q ({ dst := some d, op := .load ty x, type := rt, pos := pos, after := af, guard := none } :: l) a w) :=
 wpList_load_row rfl ty x rfl g hx t cs (0, 0) _ hg hu rfl hi h
theorem run_loadAgg {P : Program} {W : World} {ty : TypeId} {g o : Nat} {cs : Array Value} {fs : Array Field} (hu : P.underlying ty = some (.struct fs)) (hi : (P.info? ty).map (·.size) = some cs.size) (hc : ∀ j v, cs.toList[j]? = some v → W.cell? ⟨g, o + j, none⟩ = some v) :
  (loadVar ty ⟨g, o, none⟩).run P W = .ok (.agg cs) W := by
 have h1 := run_loadCells_list (P := P) (w := W) ⟨g, o, none⟩ cs.toList (fun j v h => by
  have hadd : (⟨g, o, none⟩ : Addr).add j = ⟨g, o + j, none⟩ := by unfold Addr.add; split <;> simp_all
  rw [hadd]; exact hc j v h)
 obtain ⟨ie, hie, hs⟩ := Option.map_eq_some_iff.1 hi
 rw [Array.length_toList] at h1
 have hagg : (isAgg ty).run P W = .ok true W := by
  unfold isAgg
  rw [Sem.run_bind, run_underlying hu W]
  simp
 have hti : (typeInfo ty).run P W = .ok ie W := by simp [typeInfo, hie, go_sem]
 simp [loadVar, hagg, sizeOf, hti, hs, h1, Result.andThen]
theorem stop_loadAgg {P : Program} {ops : Array Oper} {Q : Exit → Act → World → Prop} {l : List Oper} {a : Act} {w : World} {ty : TypeId} {x : Operand} {d : Nat} {rt : TypeId} {pos : String} {af : Array Edge} {g k : Nat} {cs : Array Value} {fs : Array Field}
  (hc : ∀ j v, cs.toList[j]? = some v → w.cell? ⟨g, k + j, none⟩ = some v) (hx : a.eval x = .pointer (some ⟨g, k, none⟩)) (hu : P.underlying ty = some (.struct fs)) (hi : (P.info? ty).map (·.size) = some cs.size)
  (h : wpList P ops Q l (a.put (some d) (.agg cs)) w) : Stop (wpList P ops Q ({ dst := some d, op := .load ty x, type := rt, pos := pos, after := af, guard := none } :: l) a w) :=
 wpList_plain rfl fun _ hK => by
  unfold Oper.wp execOp
  simp only [hx, Instr.loadAt, Instr.sureAddr, Sem.run_bind, Sem.run_pure, Result.andThen_ok, run_loadAgg hu hi hc]
  exact hK _ _ h
theorem cells_mid {w : World} {g k : Nat} {CS cs : Array Value} {t : TypeId} (hg : w.heap[g]? = some (.cells CS t (0, 0))) (pre post : List Value) (he : CS.toList = pre ++ cs.toList ++ post) (hk : pre.length = k) : ∀ j v, cs.toList[j]? = some v → w.cell? ⟨g, k + j, none⟩ = some v := fun j v h => by
 rw [bx_cell hg, ← Array.getElem?_toList, he]
 subst hk
 have hj : j < cs.toList.length := (List.getElem?_eq_some_iff.1 h).1
 rw [List.append_assoc, List.getElem?_append_right (by omega), Nat.add_sub_cancel_left, List.getElem?_append_left hj]
 exact h
section
variable {P : Program} {ops : Array Oper} {w : World} {B : Nat} {L : (World → Prop) → Act → Prop} {o : Oper} {rest : List Oper} {C : World → Prop} {ps : List Nat} {a : Act}
theorem wpMix_loadAgg {ty : TypeId} {x : Operand} {g k : Nat} {cs : Array Value} {fs : Array Field} (hlt : g < w.heap.size) (hc : ∀ j v, cs.toList[j]? = some v → w.cell? ⟨g, k + j, none⟩ = some v) (hop : o.op = .load ty x) (hw : Region.wanted o (yielded ops a.tmps) = true)
  (hx : a.eval x = .pointer (some ⟨g, k, none⟩)) (hu : P.underlying ty = some (.struct fs)) (hi : (P.info? ty).map (·.size) = some cs.size)
  (h : Mx P ops (Ext w) B L rest C ps (a.put o.dst (.agg cs))) : Mx P ops (Ext w) B L (o :: rest) C ps a := by
 refine ⟨?_⟩
 unfold wpMix mixStep
 rw [if_neg (by unfold isAlloc; rw [hop]; exact Bool.false_ne_true), if_pos hw, if_neg (by unfold isCall isPlain isAlloc; rw [hop]; simp)]
 refine ⟨.agg cs, fun W hW => ?_, h.out⟩
 have hc' : ∀ j v, cs.toList[j]? = some v → W.cell? ⟨g, k + j, none⟩ = some v := fun j v hj => (Below.cell hW (p := ⟨g, k + j, none⟩) hlt).trans (hc j v hj)
 unfold execOp
 simp only [hop, hx, Instr.loadAt, Instr.sureAddr, Sem.run_bind, Sem.run_pure, Result.andThen_ok, run_loadAgg hu hi hc']
end
end Go.Proofs.YtkmkchfjnhnacaaGreat
