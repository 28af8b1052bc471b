/- RunEntry of the program: an entry is run. -/
import Derived.Test.YtednimdklbmjgaaIb
import Derived.Test.YtednimdklbmjgaaRc
namespace Go.Proofs.Ytednimdklbmjgaa
open Go.ChangeShapes Go.WideShapes Go.ChangeAt Go.RowKit Go.Sort
set_option linter.unusedVariables false
set_option linter.unusedSimpArgs false

/-- an image of the call's own lies in the box -/
def ImO (p B : Nat) (cs : List Cel) (ss : List Sea) (W : World) : Prop := ∃ A c A' c', W.heap[p]? = some (Im.obj A cs.length c A' ss.length c') ∧ Ow Cel.enc 63 2 W (B) (.slice A cs.length c) cs ∧ Ow Sea.enc 65 3 W (B) (.slice A' ss.length c') ss
theorem ImO.ext {p B : Nat} {cs : List Cel} {ss : List Sea} : ∀ a b, ImO p B cs ss a → Ext a b → ImO p B cs ss b := fun a b ⟨A, c, A', c', h, h1, h2⟩ hx => ⟨A, c, A', c', hx.box h, h1.kept hx, h2.kept hx⟩
/-- an image of the call's own is the value -/
def ImW (B : Nat) (cs : List Cel) (ss : List Sea) (v : Value) (W : World) : Prop := ∃ A c A' c', v = Im.val A cs.length c A' ss.length c' ∧ Ow Cel.enc 63 2 W (B) (.slice A cs.length c) cs ∧ Ow Sea.enc 65 3 W (B) (.slice A' ss.length c') ss
theorem ImW.monoG {p k B B' : Nat} {T : TypeId} {G : World → Prop} {hG : ∀ a b, G a → Ext a b → G b} {hp : p < B} {cs : List Cel} {ss : List Sea} (hB : p < B') : Rc.Mono (relG p k T G hG B hp) (ImW B' cs ss) := fun v a b ⟨A, c, A', c', h, h1, h2⟩ hx => ⟨A, c, A', c', h, h1.chg1 hx.1 hB, h2.chg1 hx.1 hB⟩
theorem putS_has {l : List Sea} {s : Sea} {n : Nat} (hn : lbS l s.client = n) (h : hasS l s.client = true) : putS l s = l.set n s := by
  have hl := hasS_in h
  unfold putS
  have h1 : n < l.length := hn ▸ hl
  rw [h, hn, List.set_eq_take_append_cons_drop]
  simp [h1]
theorem putS_new {l : List Sea} {s : Sea} {n : Nat} (hn : lbS l s.client = n) (h : hasS l s.client = false) : putS l s = l.take n ++ ([s] ++ l.drop n) := by
  unfold putS
  rw [h, hn]
  rfl

end Go.Proofs.Ytednimdklbmjgaa
