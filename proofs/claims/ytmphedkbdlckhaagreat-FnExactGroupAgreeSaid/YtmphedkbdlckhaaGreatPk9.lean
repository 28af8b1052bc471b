/- A walk halted at an operation, to let go of how the world was made. No program in sight. -/
import Derived.Test.YtmphedkbdlckhaaGreatPk1
import Derived.Test.YtmphedkbdlckhaaGreatPk3
import Derived.Laws.Tables
import Derived.Test.YtmphedkbdlckhaaGreatPk0
import Derived.Laws.Rows
namespace Go.Proofs.YtmphedkbdlckhaaGreat
open Go.ChangeShapes Go.WideShapes Go.ChangeAt Go.RowKit Go.Sort
set_option linter.unusedVariables false
def Stop (p : Prop) : Prop := p
theorem wl_stop {P : Program} {ops : Array Oper} {Q : Exit → Act → World → Prop} {l : List Oper} {a : Act} {w : World} (d : Nat) {op : Op} {ty : TypeId} {pos : String} {af : Array Edge} {gu : Option (Nat × Bool)} (h : Stop (wpList P ops Q ({ dst := some d, op := op, type := ty, pos := pos, after := af, guard := gu } :: l) a w)) :
  wpList P ops Q ({ dst := some d, op := op, type := ty, pos := pos, after := af, guard := gu } :: l) a w := h
theorem stop_go {P : Program} {ops : Array Oper} {Q : Exit → Act → World → Prop} {l : List Oper} {a : Act} {w : World} (F : World → Prop) (hF : F w) (h : ∀ W, F W → wpList P ops Q l a W) : Stop (wpList P ops Q l a w) := h w hF
theorem isAgg_struct {P : Program} {t : TypeId} {fs : Array Field} (h : P.underlying t = some (.struct fs)) (w : World) : (isAgg t).run P w = .ok true w := by
 simp_all [isAgg, run_underlying h]
theorem wl_stopS {P : Program} {ops : Array Oper} {Q : Exit → Act → World → Prop} {l : List Oper} {a : Act} {w : World} (T : TypeId) {x y : Operand} {ty : TypeId} {pos : String} {af : Array Edge} {gu : Option (Nat × Bool)} (h : Stop (wpList P ops Q ({ dst := none, op := .store T x y, type := ty, pos := pos, after := af, guard := gu } :: l) a w)) :
  wpList P ops Q ({ dst := none, op := .store T x y, type := ty, pos := pos, after := af, guard := gu } :: l) a w := h
theorem chg_setRow (w : World) (g : Nat) (cs : Array Value) : Chg w (w.setRow g cs) [g] := by
 refine ⟨rfl, rfl, rfl, ?_, fun k hk hn => ?_⟩
 ·simp [World.setRow]
 ·have hn' : ¬ g = k := fun e => hn (by simp [e])
  simp [World.setRow, Array.getElem?_modify, hn']
theorem stop_store {P : Program} {ops : Array Oper} {Q : Exit → Act → World → Prop} {l : List Oper} {a : Act} {w : World} {T t : TypeId} {x y : Operand} {ty : TypeId} {pos : String} {af : Array Edge} {old : Array Value} (g : Nat) (cells : Array Value)
  (hx : a.eval x = .pointer (some ⟨g, 0, none⟩)) (hy : a.eval y = .agg cells) (hg : w.heap[g]? = some (.cells old t (0, 0))) (hi : (P.info? T).map (·.size) = some cells.size) (hold : old.size = cells.size) (h1 : cells.all (·.oneCell') = true)
  (h : ∀ W, W.heap[g]? = some (.cells cells t (0, 0)) → Chg w W [g] → wpList P ops Q l (a.put none undef) W) : Stop (wpList P ops Q ({ dst := none, op := .store T x y, type := ty, pos := pos, after := af, guard := none } :: l) a w) :=
 wpList_store_row rfl T x y rfl g cells hx hy t old hg hi hold h1 (h _ (setRow_heap w g old cells t (0, 0) hg) (chg_setRow w g cells))
theorem chg_new {a b c : World} {g : Nat} (h : Ext a b) (k : Chg b c [g]) (hg : a.heap.size ≤ g) : Ext a c := ext_chg h k (fun x hx => by rw [Mi] at hx; omega)
theorem LgO.chg1 {w w' : World} {B T g : Nat} {a : LAd} {l : Lg} (h : LgO w B T a l) (hg : Chg w w' [g]) (hlt : g < B) : LgO w' B T a l := h.chg hg (fun k hk hm => by rw [Mi] at hm; have := h.low k hk; omega)
theorem box_chg {w w' : World} {g k : Nat} {o : Obj} (h : w.heap[k]? = some o) (hg : Chg w w' [g]) (hne : k ≠ g) : w'.heap[k]? = some o := (hg.block k (bx_lt h) (fun hm => hne (by simpa using hm))).trans h
theorem results_box {P : Program} {fn : Func} {tmps : Array Value} {w : World} {p k : Nat} {cs : Array Value} {t T : TypeId} {fs : Array Field} (hr : fn.results = #[.cell k t]) (ht : tmps[k]? = some (.pointer (some ⟨p, 0, none⟩)))
  (hu : P.underlying t = some (.struct fs)) (hie : (P.info? t).map (·.size) = some cs.size) (hb : w.heap[p]? = some (.cells cs T (0, 0))) : (results fn tmps).run P w = .ok (.agg cs) w := by
 have h1 := run_loadCells_list (P := P) w ⟨p, 0, none⟩ cs.toList (fun j v h => by rw [Addr.add_lit, Nat.zero_add, bx_cell hb j]; simpa using h)
 obtain ⟨ie, hie, hs⟩ := Option.map_eq_some_iff.1 hie
 rw [Array.length_toList] at h1
 have hagg := isAgg_struct hu w
 have hti : (typeInfo t).run P w = .ok ie w := by simp [typeInfo, hie, go_sem]
 have hload : (loadVar t ⟨p, 0, none⟩).run P w = .ok (.agg cs) w := by
  simp [loadVar, hagg, sizeOf, hti, hs, h1, Result.andThen]
 simp [results, hr, ht, asAddr, hload]
end Go.Proofs.YtmphedkbdlckhaaGreat
namespace Go.Proofs.YtmphedkbdlckhaaGreat
open Go.RowKit Go.Sort
set_option linter.unusedVariables false
section
variable {P : Program} {ops : Array Oper} {md : Region.Mode}
end
end Go.Proofs.YtmphedkbdlckhaaGreat
namespace Go.Proofs.YtmphedkbdlckhaaGreat
open Go.ChangeShapes Go.WideShapes Go.ChangeAt Go.RowKit Go.Sort
set_option linter.unusedVariables false
theorem stop_load {P : Program} {ops : Array Oper} {Q : Exit → Act → World → Prop} {l : List Oper} {a : Act} {w : World} {ty : TypeId} {x : Operand} {d : Nat} {rt : TypeId} {pos : String} {af : Array Edge} {g : Nat} {cs : Array Value} {t : TypeId} {fs : Array Field}
  (hg : w.heap[g]? = some (.cells cs t (0, 0))) (hx : a.eval x = .pointer (some ⟨g, 0, none⟩)) (hu : P.underlying ty = some (.struct fs)) (hi : (P.info? ty).map (·.size) = some cs.size)
  (h : wpList P ops Q l (a.put (some d) (.agg cs)) w) : Stop (wpList P ops Q ({ dst := some d, op := .load ty x, type := rt, pos := pos, after := af, guard := none } :: l) a w) :=
 wpList_load_row rfl ty x rfl g hx t cs (0, 0) _ hg hu rfl hi h
theorem run_loadAgg {P : Program} {W : World} {ty : TypeId} {g o : Nat} {cs : Array Value} {fs : Array Field} (hu : P.underlying ty = some (.struct fs)) (hi : (P.info? ty).map (·.size) = some cs.size) (hc : ∀ j v, cs.toList[j]? = some v → W.cell? ⟨g, o + j, none⟩ = some v) :
  (loadVar ty ⟨g, o, none⟩).run P W = .ok (.agg cs) W := by
 have h1 := run_loadCells_list (P := P) (w := W) ⟨g, o, none⟩ cs.toList (fun j v h => by
  have hadd : (⟨g, o, none⟩ : Addr).add j = ⟨g, o + j, none⟩ := by unfold Addr.add; split <;> simp_all
  rw [hadd]; exact hc j v h)
 obtain ⟨ie, hie, hs⟩ := Option.map_eq_some_iff.1 hi
 rw [Array.length_toList] at h1
 have hagg : (isAgg ty).run P W = .ok true W := by
  unfold isAgg
  rw [Sem.run_bind, run_underlying hu W]
  simp
 have hti : (typeInfo ty).run P W = .ok ie W := by simp [typeInfo, hie, go_sem]
 simp [loadVar, hagg, sizeOf, hti, hs, h1, Result.andThen]
theorem stop_loadAgg {P : Program} {ops : Array Oper} {Q : Exit → Act → World → Prop} {l : List Oper} {a : Act} {w : World} {ty : TypeId} {x : Operand} {d : Nat} {rt : TypeId} {pos : String} {af : Array Edge} {g k : Nat} {cs : Array Value} {fs : Array Field}
  (hc : ∀ j v, cs.toList[j]? = some v → w.cell? ⟨g, k + j, none⟩ = some v) (hx : a.eval x = .pointer (some ⟨g, k, none⟩)) (hu : P.underlying ty = some (.struct fs)) (hi : (P.info? ty).map (·.size) = some cs.size)
  (h : wpList P ops Q l (a.put (some d) (.agg cs)) w) : Stop (wpList P ops Q ({ dst := some d, op := .load ty x, type := rt, pos := pos, after := af, guard := none } :: l) a w) :=
 wpList_plain rfl fun _ hK => by
  unfold Oper.wp execOp
  simp only [hx, Instr.loadAt, Instr.sureAddr, Sem.run_bind, Sem.run_pure, Result.andThen_ok, run_loadAgg hu hi hc]
  exact hK _ _ h
theorem cells_mid {w : World} {g k : Nat} {CS cs : Array Value} {t : TypeId} (hg : w.heap[g]? = some (.cells CS t (0, 0))) (pre post : List Value) (he : CS.toList = pre ++ cs.toList ++ post) (hk : pre.length = k) : ∀ j v, cs.toList[j]? = some v → w.cell? ⟨g, k + j, none⟩ = some v := fun j v h => by
 rw [bx_cell hg, ← Array.getElem?_toList, he]
 subst hk
 have hj : j < cs.toList.length := (List.getElem?_eq_some_iff.1 h).1
 rw [List.append_assoc, List.getElem?_append_right (by omega), Nat.add_sub_cancel_left, List.getElem?_append_left hj]
 exact h
section
variable {P : Program} {ops : Array Oper} {w : World} {B : Nat} {L : (World → Prop) → Act → Prop} {o : Oper} {rest : List Oper} {C : World → Prop} {ps : List Nat} {a : Act}
theorem wpMix_loadAgg {ty : TypeId} {x : Operand} {g k : Nat} {cs : Array Value} {fs : Array Field} (hlt : g < w.heap.size) (hc : ∀ j v, cs.toList[j]? = some v → w.cell? ⟨g, k + j, none⟩ = some v) (hop : o.op = .load ty x) (hw : Region.wanted o (yielded ops a.tmps) = true)
  (hx : a.eval x = .pointer (some ⟨g, k, none⟩)) (hu : P.underlying ty = some (.struct fs)) (hi : (P.info? ty).map (·.size) = some cs.size)
  (h : Mx P ops (Ext w) B L rest C ps (a.put o.dst (.agg cs))) : Mx P ops (Ext w) B L (o :: rest) C ps a := by
 refine ⟨?_⟩
 unfold wpMix mixStep
 rw [if_neg (by unfold isAlloc; rw [hop]; exact Bool.false_ne_true), if_pos hw, if_neg (by unfold isCall isPlain isAlloc; rw [hop]; simp)]
 refine ⟨.agg cs, fun W hW => ?_, h.out⟩
 have hc' : ∀ j v, cs.toList[j]? = some v → W.cell? ⟨g, k + j, none⟩ = some v := fun j v hj => (Below.cell hW (p := ⟨g, k + j, none⟩) hlt).trans (hc j v hj)
 unfold execOp
 simp only [hop, hx, Instr.loadAt, Instr.sureAddr, Sem.run_bind, Sem.run_pure, Result.andThen_ok, run_loadAgg hu hi hc']
end
end Go.Proofs.YtmphedkbdlckhaaGreat
