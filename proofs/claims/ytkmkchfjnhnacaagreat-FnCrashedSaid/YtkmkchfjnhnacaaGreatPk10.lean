/- Regions that draw their order and store a whole result beside reads. -/
import Derived.Test.YtkmkchfjnhnacaaGreatPk9
import Derived.Test.YtkmkchfjnhnacaaGreatPk5
import Derived.Test.YtkmkchfjnhnacaaGreatPk8
import Derived.Test.YtkmkchfjnhnacaaGreatPk6
namespace Go.Proofs.YtkmkchfjnhnacaaGreat
open Go.ChangeShapes Go.WideShapes Go.ChangeAt Go.RowKit Go.Sort
set_option linter.unusedVariables false
set_option linter.unusedSimpArgs false
def relE (B : Nat) : Rm.Rel where
 rel := Ext
 base := B
 refl := ext_refl
 trans _ _ _ h k := Ext.trans h k
 ext _ _ h := h
 size _ _ h := h.size
 keep _ _ h p _ hlt := h.block p hlt
def relS (p : Nat) (obj : Obj) (B : Nat) (hp : p < B) : Rm.Rel where
 rel a b := Chg a b [p] ∧ (p < a.heap.size → b.heap[p]? = a.heap[p]? ∨ b.heap[p]? = some obj)
 base := B
 refl w := ⟨Chg.refl w _, fun _ => .inl rfl⟩
 trans a b c h k := ⟨h.1.trans k.1, fun hlt => by
  rcases k.2 (Nat.lt_of_lt_of_le hlt h.1.size) with e | e
  ·rw [e]; exact h.2 hlt
  ·exact .inr e⟩
 ext a b h := ⟨chg_ext _ h, fun hlt => .inl (h.block p hlt)⟩
 size a b h := h.1.size
 keep a b h q hq hlt := h.1.block q hlt (by rw [Mi]; omega)
def stored (p : Nat) (obj : Obj) : Option Tmp → Value → World → Prop := fun d _ W => d = none → W.heap[p]? = some obj
theorem stored_mono (p : Nat) (obj : Obj) (B : Nat) (hp : p < B) (d : Option Tmp) : Rm.Mono (relS p obj B hp) (stored p obj d) := fun v w w' h hx hd => by
 have h1 := h hd
 rcases hx.2 (bx_lt h1) with e | e
 ·rw [e]; exact h1
 ·exact e
theorem relS_box {p g : Nat} {obj o : Obj} {B : Nat} {hp : p < B} {w : World} (h : w.heap[g]? = some o) (hne : g ≠ p) : ∀ W, (relS p obj B hp).rel w W → W.heap[g]? = some o := fun W hW => (hW.1.block g (bx_lt h) (by rw [Mi]; exact hne)).trans h
section
variable {P : Program} {ops : Array Oper} {w : World} {L : (World → Prop) → Act → Prop} {o : Oper} {rest : List Oper} {C : World → Prop} {ps : List Nat} {a : Act}
theorem wpMix_st {p : Nat} {cs old : Array Value} {T : TypeId} {B : Nat} {hp : p < B} {N : Nat} {ty : TypeId} {x y : Operand} (hg : w.heap[p]? = some (.cells old T (0, 0))) (hop : o.op = .store ty x y) (hd : o.dst = none) (hw : Region.wanted o (yielded ops a.tmps) = true)
  (hx : a.eval x = .pointer (some ⟨p, 0, none⟩)) (hy : a.eval y = .agg cs) (hi : (P.info? ty).map (·.size) = some cs.size) (hold : old.size = cs.size) (h1 : cs.all (·.oneCell') = true)
  (h : Rm.Mx (relS p (.cells cs T (0, 0)) B hp) P ops ((relS p (.cells cs T (0, 0)) B hp).rel w) (N, stored p (.cells cs T (0, 0))) L rest (fun W => C W ∧ W.heap[p]? = some (.cells cs T (0, 0))) ps (a.put none undef)) :
  Rm.Mx (relS p (.cells cs T (0, 0)) B hp) P ops ((relS p (.cells cs T (0, 0)) B hp).rel w) (N, stored p (.cells cs T (0, 0))) L (o :: rest) C ps a := by
 refine Rm.wpMix_store (by unfold isAlloc; rw [hop]) (by unfold Rm.isApp; rw [hop]) hw (stored_mono _ _ _ _ _) (fun W hW => ?_) (fun v hv => ?_)
 ·have hgW : ∃ old' : Array Value, W.heap[p]? = some (.cells old' T (0, 0)) ∧ old'.size = cs.size := by
   rcases hW.2 (bx_lt hg) with e | e
   ·exact ⟨old, by rw [e]; exact hg, hold⟩
   ·exact ⟨cs, e, rfl⟩
  obtain ⟨old', hg', hs'⟩ := hgW
  refine ⟨W.setRow p cs, ?_, fun _ => setRow_heap W p old' cs T (0, 0) hg', chg_setRow W p cs, fun _ => .inr (setRow_heap W p old' cs T (0, 0) hg')⟩
  unfold execOp
  simp only [hop, hx, hy, Instr.storeAt, Instr.sureAddr, Sem.run_bind, Sem.run_pure, Result.andThen_ok, run_storeVar_row W p T ty old' cs hg' hi hs' h1]
 ·rw [hd]
  have e : (fun W => C W ∧ stored p (.cells cs T (0, 0)) o.dst v W) = (fun W => C W ∧ W.heap[p]? = some (.cells cs T (0, 0))) := by
   funext W
   simp [stored, hd]
  show Rm.Mx _ P ops _ _ L rest (fun W => C W ∧ stored p (.cells cs T (0, 0)) none v W) ps (a.put none v)
  rw [hd] at e
  rw [e]
  exact h
end
theorem code_go {P : Program} {c : Code} {Q : Exit → Act → World → Prop} {a : Act} {w : World} (F : World → Prop) (hF : F w) (h : ∀ W, F W → c.wp P Q a W) : c.wp P Q a w := h w hF
theorem box_apart {α : Type} {enc : α → List Value} {e T : TypeId} {sz : Nat} {w : World} {B p : Nat} {cs : Array Value} {A : Option Addr} {n c : Nat} {l : List α} (h : w.heap[p]? = some (.cells cs T (0, 0))) (k : Ow enc e sz w B (.slice A n c) l) (hne : T ≠ e) : p ∉ blk A := fun hm => by
 rcases k.2 with ⟨h2, _⟩ | ⟨g, cap, cur, hv, hb, hh, r⟩
 ·simp only [Value.slice.injEq] at h2
  rw [h2.1] at hm
  simp [blk] at hm
 ·simp only [Value.slice.injEq] at hv
  rw [hv.1] at hm
  simp only [blk, Mi] at hm
  subst hm
  rw [h] at hh
  simp only [Option.some.injEq, Obj.cells.injEq] at hh
  exact hne hh.2.1
theorem lg_box_apart {w : World} {B T p : Nat} {a : LAd} {l : Lg} {cs : Array Value} {t : TypeId} (h : w.heap[p]? = some (.cells cs t (0, 0))) (k : LgO w B T a l) (h1 : t ≠ 101) (h2 : t ≠ 103) (h3 : t ≠ 70) : p ∉ a.fp := fun hm => by
 unfold LAd.fp at hm
 rw [List.mem_append, List.mem_append] at hm
 rcases hm with (hm | hm) | hm
 ·exact box_apart h k.c h1 hm
 ·exact box_apart h k.s h2 hm
 ·exact box_apart h k.e h3 hm
theorem stop_loadG {P : Program} {ops : Array Oper} {Q : Exit → Act → World → Prop} {l : List Oper} {a : Act} {w : World} {ty : TypeId} {x : Operand} {d : Nat} {rt : TypeId} {pos : String} {af : Array Edge} {gu : Option (Nat × Bool)} {g : Nat} {cs : Array Value} {t : TypeId} {fs : Array Field}
  (hg : w.heap[g]? = some (.cells cs t (0, 0))) (hw : Region.wanted ({ dst := some d, op := .load ty x, type := rt, pos := pos, after := af, guard := gu } : Oper) (yielded ops a.tmps) = true) (hx : a.eval x = .pointer (some ⟨g, 0, none⟩)) (hu : P.underlying ty = some (.struct fs)) (hi : (P.info? ty).map (·.size) = some cs.size)
  (h : wpList P ops Q l (a.put (some d) (.agg cs)) w) : Stop (wpList P ops Q ({ dst := some d, op := .load ty x, type := rt, pos := pos, after := af, guard := gu } :: l) a w) :=
 BigFrame.wpList_want hw fun _ hK => wp_load_row ty x rfl g hx t cs (0, 0) _ hg hu rfl hi (hK _ _ h)
instance : Inhabited Lg := ⟨Lg.none⟩
instance : Inhabited LAd := ⟨LAd.none⟩
instance : Inhabited Vt := ⟨⟨0, 0, 0, 0, 0, 0, Lg.none⟩⟩
theorem mixed_at {α : Type} (M : Nat → α) (l : List α) {j : Nat} (hj : j ≤ l.length) {i : Nat} (hi : i < (mixed M l j).length) : (mixed M l j)[i] = if i < j then M i else l[i]'(by rw [mixed_length M l hj] at hi; exact hi) := by
 have hil : i < l.length := by rw [mixed_length M l hj] at hi; exact hi
 have h2 : (mixed M l j)[i]? = some (if i < j then M i else l[i]) := by
  unfold mixed
  by_cases h : i < j
  ·rw [List.getElem?_append_left (by simpa using h), if_pos h]
   simp [h]
  ·rw [List.getElem?_append_right (by simp; omega), if_neg h, List.getElem?_drop, List.length_map, List.length_range, show j + (i - j) = i by omega, List.getElem?_eq_getElem hil]
 rw [List.getElem?_eq_getElem hi] at h2
 exact Option.some.inj h2
theorem flatMap_congr_at {α β : Type} {f : α → List β} {l m : List α} (hl : l.length = m.length) (h : ∀ (i : Nat) (h1 : i < l.length) (h2 : i < m.length), f l[i] = f m[i]) : l.flatMap f = m.flatMap f := by
 rw [List.flatMap_def, List.flatMap_def]
 congr 1
 exact List.ext_getElem (by simpa using hl) (fun i h1 h2 => by simpa using h i (by simpa using h1) (by simpa using h2))
theorem nodup_apart {α : Type} {f : α → List Nat} : ∀ {l : List α} (_ : (l.flatMap f).Nodup) {i j : Nat} (hi : i < l.length) (hj : j < l.length) (_ : i ≠ j), ∀ x ∈ f l[i], x ∉ f l[j]
 | [], _, i, _, hi, _, _ => absurd hi (by simp)
 | a :: l, h, 0, 0, _, _, hne => absurd rfl hne
 | a :: l, h, 0, j + 1, hi, hj, hne => fun x hx hy => by
  rw [List.flatMap_cons, List.nodup_append] at h
  simp only [List.getElem_cons_zero, List.getElem_cons_succ] at hx hy
  exact h.2.2 x hx x (List.mem_flatMap.2 ⟨_, List.getElem_mem _, hy⟩) rfl
 | a :: l, h, i + 1, 0, hi, hj, hne => fun x hx hy => by
  rw [List.flatMap_cons, List.nodup_append] at h
  simp only [List.getElem_cons_zero, List.getElem_cons_succ] at hx hy
  exact h.2.2 x hy x (List.mem_flatMap.2 ⟨_, List.getElem_mem _, hx⟩) rfl
 | a :: l, h, i + 1, j + 1, hi, hj, hne => fun x hx hy => by
  rw [List.flatMap_cons, List.nodup_append] at h
  simp only [List.getElem_cons_succ] at hx hy
  exact nodup_apart h.2.1 (by simpa using hi) (by simpa using hj) (by omega) x hx hy
theorem Ow.frozen {α : Type} {enc : α → List Value} {e : TypeId} {sz : Nat} {w : World} {B g n c : Nat} {l : List α} (h : Ow enc e sz w B (.slice (some ⟨g, 0, none⟩) n c) l) : ∀ y, w.frozen? ⟨g, y, none⟩ = false := fun y => by
 rcases h.2 with ⟨h2, _⟩ | ⟨g', cap, cur, hv, hb, hh, r⟩
 ·cases h2
 ·simp only [Value.slice.injEq, Option.some.injEq, Addr.mk.injEq] at hv
  obtain ⟨⟨rfl, _⟩, _⟩ := hv
  exact frozen_of_row w g y cur e hh
def Vt.mk' (k : Int) (v : Vt) : Vt := ⟨k, k + 1, k + 1 + 1, k + 1 + 1 + 1, k + 1 + 1 + 1 + 1, k + 1 + 1 + 1 + 1 + 1, v.log.mk' (k + 1 + 1 + 1 + 1 + 1 + 1 + 1) (k + 1 + 1 + 1 + 1 + 1 + 1)⟩
def Vt.mN (v : Vt) : Int := 7 + v.log.mN
def VtE.Ks (k : Int) (ps : List VtE) : Nat → Int
 | 0 => k
 | j + 1 => VtE.Ks k ps j + match ps[j]? with | some p => p.2.mN | none => 0
theorem VtE.Ks_next (k : Int) {ps : List VtE} {j : Nat} (h : j < ps.length) : VtE.Ks k ps (j + 1) = VtE.Ks k ps j + ps[j].2.mN := by simp [VtE.Ks, h]
def VtE.M (k : Int) (ps : List VtE) (i : Nat) : VtE := match ps[i]? with
 | some p => (p.1, p.2.mk' (VtE.Ks k ps i))
 | none => (LAd.none, (⟨LAd.none, default⟩ : VtE).2)
theorem VtE.M_at (k : Int) {ps : List VtE} {i : Nat} (h : i < ps.length) : VtE.M k ps i = (ps[i].1, ps[i].2.mk' (VtE.Ks k ps i)) := by simp [VtE.M, h]
def VtE.mks (k : Int) (ps : List VtE) : List VtE := (List.range ps.length).map (VtE.M k ps)
theorem VtE.mks_length (k : Int) (ps : List VtE) : (VtE.mks k ps).length = ps.length := by simp [VtE.mks]
theorem VtE.mks_at (k : Int) {ps : List VtE} {i : Nat} (h : i < ps.length) : (VtE.mks k ps)[i]'(by rw [VtE.mks_length]; exact h) = (ps[i].1, ps[i].2.mk' (VtE.Ks k ps i)) := by simp [VtE.mks, VtE.M_at k h]
theorem VtE.mixed_fp (k : Int) (ps : List VtE) (j : Nat) (hj : j ≤ ps.length) : (mixed (VtE.M k ps) ps j).flatMap (fun p => p.1.fp) = ps.flatMap (fun p => p.1.fp) := by
 refine flatMap_congr_at (mixed_length _ _ hj) fun i h1 h2 => ?_
 rw [mixed_at _ _ hj h1]
 split
 ·rw [VtE.M_at k h2]
 ·rfl
theorem VsO.step {wr w7 w3 : World} {B T : Nat} {A : Option Addr} {c : Nat} {ps : List VtE} {k : Int} {j : Nat} (hj : j < ps.length) (h : VsO wr B T A c (mixed (VtE.M k ps) ps j)) (c7 : Chg wr w7 (blk A)) (o7 : Ow VtE.enc 53 10 w7 B (.slice A ps.length c) (mixed (VtE.M k ps) ps (j + 1))) (hL : LgO w3 B T ps[j].1 (ps[j].2.mk' (VtE.Ks k ps j)).log) (c3 : Chg w7 w3 ps[j].1.fp) : VsO w3 B T A c (mixed (VtE.M k ps) ps (j + 1)) := by
 have hnd := h.nd
 have htop := h.top
 rw [VtE.mixed_fp k ps j (by omega)] at hnd htop
 refine ⟨?_, ?_, ?_, ?_⟩
 ·rw [mixed_length _ _ (by omega : j + 1 ≤ ps.length)]
  exact o7.chg c3 (fun x hx hm => by
   rw [List.nodup_append] at hnd
   exact hnd.2.2 x hx x (List.mem_flatMap.2 ⟨ps[j], List.getElem_mem hj, hm⟩) rfl)
 ·intro p hp
  obtain ⟨i, hi, rfl⟩ := List.mem_iff_getElem.1 hp
  have hi2 : i < ps.length := by rw [mixed_length _ _ (by omega : j + 1 ≤ ps.length)] at hi; exact hi
  by_cases he : i = j
  ·subst he
   rw [mixed_at _ _ (by omega) hi, if_pos (by omega), VtE.M_at k hi2]
   exact hL
  ·have hold := h.l ((mixed (VtE.M k ps) ps j)[i]'(by rw [mixed_length _ _ (by omega : j ≤ ps.length)]; exact hi2)) (List.getElem_mem _)
   have hsame : (mixed (VtE.M k ps) ps (j + 1))[i] = (mixed (VtE.M k ps) ps j)[i]'(by rw [mixed_length _ _ (by omega : j ≤ ps.length)]; exact hi2) := by
    rw [mixed_at _ _ (by omega) hi, mixed_at _ _ (by omega) _]
    by_cases h1 : i < j
    ·rw [if_pos (by omega), if_pos h1]
    ·rw [if_neg (by omega), if_neg h1]
   have hfp : ((mixed (VtE.M k ps) ps j)[i]'(by rw [mixed_length _ _ (by omega : j ≤ ps.length)]; exact hi2)).1.fp = ps[i].1.fp := by
    rw [mixed_at _ _ (by omega) _]
    split
    ·rw [VtE.M_at k hi2]
    ·rfl
   rw [hsame]
   refine (hold.chg c7 (fun x hx hm => ?_)).chg c3 (fun x hx hm => ?_)
   ·rw [hfp] at hx
    rw [List.nodup_append] at hnd
    exact hnd.2.2 x hm x (List.mem_flatMap.2 ⟨ps[i], List.getElem_mem hi2, hx⟩) rfl
   ·rw [hfp] at hx
    rw [List.nodup_append] at hnd
    exact nodup_apart hnd.2.1 hi2 hj he x hx hm
 ·rw [VtE.mixed_fp k ps (j + 1) (by omega)]; exact hnd
 ·rw [VtE.mixed_fp k ps (j + 1) (by omega)]; exact htop
theorem VsO.done {w : World} {B T : Nat} {A : Option Addr} {c : Nat} {ps : List VtE} {k : Int} (h : VsO w B T A c (mixed (VtE.M k ps) ps ps.length)) : VsO w B T A c (VtE.mks k ps) := by
 rw [mixed_all] at h
 exact h
instance : Inhabited Mg := ⟨⟨0, 0, 0, 0, 0, 0, 0, 0, 0, 0, 0, 0, 0, Lg.none⟩⟩
instance : Inhabited Ot := ⟨⟨0, default⟩⟩
theorem OtE.len (p : OtE) : (OtE.enc p).length = 18 := rfl
structure OsO (w : World) (B T : Nat) (A : Option Addr) (c : Nat) (ps : List OtE) : Prop where
 r : Ow OtE.enc 47 18 w B (.slice A ps.length c) ps
 l : ∀ p ∈ ps, LgO w B T p.1 p.2.msg.log
 nd : (blk A ++ ps.flatMap (fun p => p.1.fp)).Nodup
 top : ∀ k ∈ blk A ++ ps.flatMap (fun p => p.1.fp), k < T
theorem OsO.rd {w : World} {B T : Nat} {A : Option Addr} {c : Nat} {ps : List OtE} (h : OsO w B T A c ps) : OsR w A c ps := ⟨(h.r.rd OtE.len).2, fun p hp => (h.l p hp).rd⟩
theorem OsO.kept {w w' : World} {B T : Nat} {A : Option Addr} {c : Nat} {ps : List OtE} (h : OsO w B T A c ps) (hx : Ext w w') : OsO w' B T A c ps := ⟨h.r.kept hx, fun p hp => (h.l p hp).kept hx, h.nd, h.top⟩
def Ot.mk' (k : Int) (v : Ot) : Ot := ⟨k, ⟨k + 1, k + 1 + 1, k + 1 + 1 + 1, k + 1 + 1 + 1 + 1, k + 1 + 1 + 1 + 1 + 1, k + 1 + 1 + 1 + 1 + 1 + 1, k + 1 + 1 + 1 + 1 + 1 + 1 + 1, k + 1 + 1 + 1 + 1 + 1 + 1 + 1 + 1, k + 1 + 1 + 1 + 1 + 1 + 1 + 1 + 1 + 1, k + 1 + 1 + 1 + 1 + 1 + 1 + 1 + 1 + 1 + 1, k + 1 + 1 + 1 + 1 + 1 + 1 + 1 + 1 + 1 + 1 + 1, k + 1 + 1 + 1 + 1 + 1 + 1 + 1 + 1 + 1 + 1 + 1 + 1, k + 1 + 1 + 1 + 1 + 1 + 1 + 1 + 1 + 1 + 1 + 1 + 1 + 1, v.msg.log.mk' (k + 1 + 1 + 1 + 1 + 1 + 1 + 1 + 1 + 1 + 1 + 1 + 1 + 1 + 1 + 1) (k + 1 + 1 + 1 + 1 + 1 + 1 + 1 + 1 + 1 + 1 + 1 + 1 + 1 + 1)⟩⟩
def Ot.mN (v : Ot) : Int := 15 + v.msg.log.mN
def OtE.Ks (k : Int) (ps : List OtE) : Nat → Int
 | 0 => k
 | j + 1 => OtE.Ks k ps j + match ps[j]? with | some p => p.2.mN | none => 0
theorem OtE.Ks_next (k : Int) {ps : List OtE} {j : Nat} (h : j < ps.length) : OtE.Ks k ps (j + 1) = OtE.Ks k ps j + ps[j].2.mN := by simp [OtE.Ks, h]
def OtE.M (k : Int) (ps : List OtE) (i : Nat) : OtE := match ps[i]? with
 | some p => (p.1, p.2.mk' (OtE.Ks k ps i))
 | none => (LAd.none, (⟨LAd.none, default⟩ : OtE).2)
theorem OtE.M_at (k : Int) {ps : List OtE} {i : Nat} (h : i < ps.length) : OtE.M k ps i = (ps[i].1, ps[i].2.mk' (OtE.Ks k ps i)) := by simp [OtE.M, h]
def OtE.mks (k : Int) (ps : List OtE) : List OtE := (List.range ps.length).map (OtE.M k ps)
theorem OtE.mks_length (k : Int) (ps : List OtE) : (OtE.mks k ps).length = ps.length := by simp [OtE.mks]
theorem OtE.mks_at (k : Int) {ps : List OtE} {i : Nat} (h : i < ps.length) : (OtE.mks k ps)[i]'(by rw [OtE.mks_length]; exact h) = (ps[i].1, ps[i].2.mk' (OtE.Ks k ps i)) := by simp [OtE.mks, OtE.M_at k h]
theorem OtE.mixed_fp (k : Int) (ps : List OtE) (j : Nat) (hj : j ≤ ps.length) : (mixed (OtE.M k ps) ps j).flatMap (fun p => p.1.fp) = ps.flatMap (fun p => p.1.fp) := by
 refine flatMap_congr_at (mixed_length _ _ hj) fun i h1 h2 => ?_
 rw [mixed_at _ _ hj h1]
 split
 ·rw [OtE.M_at k h2]
 ·rfl
theorem OsO.step {wr w7 w3 : World} {B T : Nat} {A : Option Addr} {c : Nat} {ps : List OtE} {k : Int} {j : Nat} (hj : j < ps.length) (h : OsO wr B T A c (mixed (OtE.M k ps) ps j)) (c7 : Chg wr w7 (blk A)) (o7 : Ow OtE.enc 47 18 w7 B (.slice A ps.length c) (mixed (OtE.M k ps) ps (j + 1))) (hL : LgO w3 B T ps[j].1 (ps[j].2.mk' (OtE.Ks k ps j)).msg.log) (c3 : Chg w7 w3 ps[j].1.fp) : OsO w3 B T A c (mixed (OtE.M k ps) ps (j + 1)) := by
 have hnd := h.nd
 have htop := h.top
 rw [OtE.mixed_fp k ps j (by omega)] at hnd htop
 refine ⟨?_, ?_, ?_, ?_⟩
 ·rw [mixed_length _ _ (by omega : j + 1 ≤ ps.length)]
  exact o7.chg c3 (fun x hx hm => by
   rw [List.nodup_append] at hnd
   exact hnd.2.2 x hx x (List.mem_flatMap.2 ⟨ps[j], List.getElem_mem hj, hm⟩) rfl)
 ·intro p hp
  obtain ⟨i, hi, rfl⟩ := List.mem_iff_getElem.1 hp
  have hi2 : i < ps.length := by rw [mixed_length _ _ (by omega : j + 1 ≤ ps.length)] at hi; exact hi
  by_cases he : i = j
  ·subst he
   rw [mixed_at _ _ (by omega) hi, if_pos (by omega), OtE.M_at k hi2]
   exact hL
  ·have hold := h.l ((mixed (OtE.M k ps) ps j)[i]'(by rw [mixed_length _ _ (by omega : j ≤ ps.length)]; exact hi2)) (List.getElem_mem _)
   have hsame : (mixed (OtE.M k ps) ps (j + 1))[i] = (mixed (OtE.M k ps) ps j)[i]'(by rw [mixed_length _ _ (by omega : j ≤ ps.length)]; exact hi2) := by
    rw [mixed_at _ _ (by omega) hi, mixed_at _ _ (by omega) _]
    by_cases h1 : i < j
    ·rw [if_pos (by omega), if_pos h1]
    ·rw [if_neg (by omega), if_neg h1]
   have hfp : ((mixed (OtE.M k ps) ps j)[i]'(by rw [mixed_length _ _ (by omega : j ≤ ps.length)]; exact hi2)).1.fp = ps[i].1.fp := by
    rw [mixed_at _ _ (by omega) _]
    split
    ·rw [OtE.M_at k hi2]
    ·rfl
   rw [hsame]
   refine (hold.chg c7 (fun x hx hm => ?_)).chg c3 (fun x hx hm => ?_)
   ·rw [hfp] at hx
    rw [List.nodup_append] at hnd
    exact hnd.2.2 x hm x (List.mem_flatMap.2 ⟨ps[i], List.getElem_mem hi2, hx⟩) rfl
   ·rw [hfp] at hx
    rw [List.nodup_append] at hnd
    exact nodup_apart hnd.2.1 hi2 hj he x hx hm
 ·rw [OtE.mixed_fp k ps (j + 1) (by omega)]; exact hnd
 ·rw [OtE.mixed_fp k ps (j + 1) (by omega)]; exact htop
theorem OsO.done {w : World} {B T : Nat} {A : Option Addr} {c : Nat} {ps : List OtE} {k : Int} (h : OsO w B T A c (mixed (OtE.M k ps) ps ps.length)) : OsO w B T A c (OtE.mks k ps) := by
 rw [mixed_all] at h
 exact h
abbrev OtE.cells (a : LAd) (o : Ot) : Array Value := #[.int .i64 o.to, .int .i64 o.msg.kind, .int .i64 o.msg.frm, .int .i64 o.msg.view, .int .i64 o.msg.op, .int .i64 o.msg.commit, .int .i64 o.msg.normal, .int .i64 o.msg.nonce, .int .i64 o.msg.client, .int .i64 o.msg.req, .int .i64 o.msg.answer, .int .i64 o.msg.ck, .int .i64 o.msg.cx, .int .i64 o.msg.cv, .int .i64 o.msg.log.base, .slice a.cA o.msg.log.cells.length a.cc, .slice a.sA o.msg.log.seats.length a.sc, .slice a.eA o.msg.log.ents.length a.ec]
abbrev Mg.cs (a : LAd) (m : Mg) : Array Value := #[.int .i64 m.kind, .int .i64 m.frm, .int .i64 m.view, .int .i64 m.op, .int .i64 m.commit, .int .i64 m.normal, .int .i64 m.nonce, .int .i64 m.client, .int .i64 m.req, .int .i64 m.answer, .int .i64 m.ck, .int .i64 m.cx, .int .i64 m.cv, .int .i64 m.log.base, .slice a.cA m.log.cells.length a.cc, .slice a.sA m.log.seats.length a.sc, .slice a.eA m.log.ents.length a.ec]
end Go.Proofs.YtkmkchfjnhnacaaGreat
