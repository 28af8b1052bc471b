/- Loads of whole structs by one rule: the walk's own rule doubles with each cell. -/
import Derived.Test.YtmpjokdidomafaaGreatStop
import Derived.Test.YtmpjokdidomafaaGreatMxb
import Derived.Laws.Rows
namespace Go.Proofs.YtmpjokdidomafaaGreat
open Go.ChangeShapes Go.WideShapes Go.ChangeAt Go.RowKit Go.Sort
set_option linter.unusedVariables false

theorem stop_load {P : Program} {ops : Array Oper} {Q : Exit → Act → World → Prop} {l : List Oper} {a : Act} {w : World} {ty : TypeId} {x : Operand} {d : Nat} {rt : TypeId} {pos : String} {af : Array Edge} {g : Nat} {cs : Array Value} {t : TypeId} {fs : Array Field}
    (hg : w.heap[g]? = some (.cells cs t (0, 0))) (hx : a.eval x = .pointer (some ⟨g, 0, none⟩)) (hu : P.underlying ty = some (.struct fs)) (hi : (P.info? ty).map (·.size) = some cs.size)
    (h : wpList P ops Q l (a.put (some d) (.agg cs)) w) : Stop (wpList P ops Q ({ dst := some d, op := .load ty x, type := rt, pos := pos, after := af, guard := none } :: l) a w) :=
  wpList_load_row rfl ty x rfl g hx t cs (0, 0) _ hg hu rfl hi h
theorem run_loadAgg {P : Program} {W : World} {ty : TypeId} {g o : Nat} {cs : Array Value} {fs : Array Field} (hu : P.underlying ty = some (.struct fs)) (hi : (P.info? ty).map (·.size) = some cs.size) (hc : ∀ j v, cs.toList[j]? = some v → W.cell? ⟨g, o + j, none⟩ = some v) :
    (loadVar ty ⟨g, o, none⟩).run P W = .ok (.agg cs) W := by
  have h1 := run_loadCells_list (P := P) (w := W) ⟨g, o, none⟩ cs.toList (fun j v h => by
    have hadd : (⟨g, o, none⟩ : Addr).add j = ⟨g, o + j, none⟩ := by unfold Addr.add; split <;> simp_all
    rw [hadd]; exact hc j v h)
  obtain ⟨ie, hie, hs⟩ := Option.map_eq_some_iff.1 hi
  rw [Array.length_toList] at h1
  have hagg : (isAgg ty).run P W = .ok true W := by
    unfold isAgg
    rw [Sem.run_bind, run_underlying hu W]
    simp
  have hti : (typeInfo ty).run P W = .ok ie W := by simp [typeInfo, hie, go_sem]
  simp [loadVar, hagg, sizeOf, hti, hs, h1, Result.andThen]
/-- the load of a whole struct that lies in the middle of a box or of a row -/
theorem stop_loadAgg {P : Program} {ops : Array Oper} {Q : Exit → Act → World → Prop} {l : List Oper} {a : Act} {w : World} {ty : TypeId} {x : Operand} {d : Nat} {rt : TypeId} {pos : String} {af : Array Edge} {g k : Nat} {cs : Array Value} {fs : Array Field}
    (hc : ∀ j v, cs.toList[j]? = some v → w.cell? ⟨g, k + j, none⟩ = some v) (hx : a.eval x = .pointer (some ⟨g, k, none⟩)) (hu : P.underlying ty = some (.struct fs)) (hi : (P.info? ty).map (·.size) = some cs.size)
    (h : wpList P ops Q l (a.put (some d) (.agg cs)) w) : Stop (wpList P ops Q ({ dst := some d, op := .load ty x, type := rt, pos := pos, after := af, guard := none } :: l) a w) :=
  wpList_plain rfl fun _ hK => by
    unfold Oper.wp execOp
    simp only [hx, Instr.loadAt, Instr.sureAddr, Sem.run_bind, Sem.run_pure, Result.andThen_ok, run_loadAgg hu hi hc]
    exact hK _ _ h
theorem cells_mid {w : World} {g k : Nat} {CS cs : Array Value} {t : TypeId} (hg : w.heap[g]? = some (.cells CS t (0, 0))) (pre post : List Value) (he : CS.toList = pre ++ cs.toList ++ post) (hk : pre.length = k) : ∀ j v, cs.toList[j]? = some v → w.cell? ⟨g, k + j, none⟩ = some v := fun j v h => by
  rw [bx_cell hg, ← Array.getElem?_toList, he]
  subst hk
  have hj : j < cs.toList.length := (List.getElem?_eq_some_iff.1 h).1
  rw [List.append_assoc, List.getElem?_append_right (by omega), Nat.add_sub_cancel_left, List.getElem?_append_left hj]
  exact h
section
variable {P : Program} {ops : Array Oper} {w : World} {B : Nat} {L : (World → Prop) → Act → Prop} {o : Oper} {rest : List Oper} {C : World → Prop} {ps : List Nat} {a : Act}
theorem wpMix_load {ty : TypeId} {x : Operand} {g : Nat} {cs : Array Value} {t : TypeId} {fs : Array Field} (hg : w.heap[g]? = some (.cells cs t (0, 0))) (hop : o.op = .load ty x) (hw : Region.wanted o (yielded ops a.tmps) = true)
    (hx : a.eval x = .pointer (some ⟨g, 0, none⟩)) (hu : P.underlying ty = some (.struct fs)) (hi : (P.info? ty).map (·.size) = some cs.size)
    (h : Mx P ops (Ext w) B L rest C ps (a.put o.dst (.agg cs))) : Mx P ops (Ext w) B L (o :: rest) C ps a := by
  refine ⟨?_⟩
  unfold wpMix mixStep
  rw [if_neg (by unfold isAlloc; rw [hop]; exact Bool.false_ne_true), if_pos hw, if_neg (by unfold isCall isPlain isAlloc; rw [hop]; simp)]
  refine ⟨.agg cs, fun W hW => ?_, h.out⟩
  have hW' : W.heap[g]? = some (.cells cs t (0, 0)) := (hW.block g (Array.getElem?_eq_some_iff.1 hg).1).trans hg
  unfold execOp
  simp only [hop, hx, Instr.loadAt, Instr.sureAddr, Sem.run_bind, Sem.run_pure, Result.andThen_ok, run_loadVar_row W g t ty cs (0, 0) _ hW' hu rfl hi]
theorem wpMix_loadAgg {ty : TypeId} {x : Operand} {g k : Nat} {cs : Array Value} {fs : Array Field} (hlt : g < w.heap.size) (hc : ∀ j v, cs.toList[j]? = some v → w.cell? ⟨g, k + j, none⟩ = some v) (hop : o.op = .load ty x) (hw : Region.wanted o (yielded ops a.tmps) = true)
    (hx : a.eval x = .pointer (some ⟨g, k, none⟩)) (hu : P.underlying ty = some (.struct fs)) (hi : (P.info? ty).map (·.size) = some cs.size)
    (h : Mx P ops (Ext w) B L rest C ps (a.put o.dst (.agg cs))) : Mx P ops (Ext w) B L (o :: rest) C ps a := by
  refine ⟨?_⟩
  unfold wpMix mixStep
  rw [if_neg (by unfold isAlloc; rw [hop]; exact Bool.false_ne_true), if_pos hw, if_neg (by unfold isCall isPlain isAlloc; rw [hop]; simp)]
  refine ⟨.agg cs, fun W hW => ?_, h.out⟩
  have hc' : ∀ j v, cs.toList[j]? = some v → W.cell? ⟨g, k + j, none⟩ = some v := fun j v hj => (Below.cell hW (p := ⟨g, k + j, none⟩) hlt).trans (hc j v hj)
  unfold execOp
  simp only [hop, hx, Instr.loadAt, Instr.sureAddr, Sem.run_bind, Sem.run_pure, Result.andThen_ok, run_loadAgg hu hi hc']
end
end Go.Proofs.YtmpjokdidomafaaGreat
