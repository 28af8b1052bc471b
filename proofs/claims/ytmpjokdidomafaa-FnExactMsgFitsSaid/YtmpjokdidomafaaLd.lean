/- Loads of whole structs by one rule: the walk's own rule doubles with each cell. -/
import Derived.Test.YtmpjokdidomafaaStop
import Derived.Test.YtmpjokdidomafaaMxb
import Derived.Laws.Rows
namespace Go.Proofs.Ytmpjokdidomafaa
open Go.ChangeShapes Go.WideShapes Go.ChangeAt Go.RowKit Go.Sort
set_option linter.unusedVariables false

theorem stop_load {P : Program} {ops : Array Oper} {Q : Exit → Act → World → Prop} {l : List Oper} {a : Act} {w : World} {ty : TypeId} {x : Operand} {d : Nat} {rt : TypeId} {pos : String} {af : Array Edge} {g : Nat} {cs : Array Value} {t : TypeId} {fs : Array Field}
    (hg : w.heap[g]? = some (.cells cs t (0, 0))) (hx : a.eval x = .pointer (some ⟨g, 0, none⟩)) (hu : P.underlying ty = some (.struct fs)) (hi : (P.info? ty).map (·.size) = some cs.size)
    (h : wpList P ops Q l (a.put (some d) (.agg cs)) w) : Stop (wpList P ops Q ({ dst := some d, op := .load ty x, type := rt, pos := pos, after := af, guard := none } :: l) a w) :=
  wpList_load_row rfl ty x rfl g hx t cs (0, 0) _ hg hu rfl hi h
section
variable {P : Program} {ops : Array Oper} {w : World} {B : Nat} {L : (World → Prop) → Act → Prop} {o : Oper} {rest : List Oper} {C : World → Prop} {ps : List Nat} {a : Act}
theorem wpMix_load {ty : TypeId} {x : Operand} {g : Nat} {cs : Array Value} {t : TypeId} {fs : Array Field} (hg : w.heap[g]? = some (.cells cs t (0, 0))) (hop : o.op = .load ty x) (hw : Region.wanted o (yielded ops a.tmps) = true)
    (hx : a.eval x = .pointer (some ⟨g, 0, none⟩)) (hu : P.underlying ty = some (.struct fs)) (hi : (P.info? ty).map (·.size) = some cs.size)
    (h : Mx P ops (Ext w) B L rest C ps (a.put o.dst (.agg cs))) : Mx P ops (Ext w) B L (o :: rest) C ps a := by
  refine ⟨?_⟩
  unfold wpMix mixStep
  rw [if_neg (by unfold isAlloc; rw [hop]; exact Bool.false_ne_true), if_pos hw, if_neg (by unfold isCall isPlain isAlloc; rw [hop]; simp)]
  refine ⟨.agg cs, fun W hW => ?_, h.out⟩
  have hW' : W.heap[g]? = some (.cells cs t (0, 0)) := (hW.block g (Array.getElem?_eq_some_iff.1 hg).1).trans hg
  unfold execOp
  simp only [hop, hx, Instr.loadAt, Instr.sureAddr, Sem.run_bind, Sem.run_pure, Result.andThen_ok, run_loadVar_row W g t ty cs (0, 0) _ hW' hu rfl hi]
end
end Go.Proofs.Ytmpjokdidomafaa
