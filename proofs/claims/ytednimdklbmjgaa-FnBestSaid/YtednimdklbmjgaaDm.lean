/- The laws' own functions on images, logs, votes: how great they are, and made anew. -/
import Derived.Test.YtednimdklbmjgaaDl
namespace Go.Proofs.Ytednimdklbmjgaa
open Go.ChangeShapes Go.WideShapes Go.ChangeAt Go.RowKit Go.Sort
set_option linter.unusedVariables false
set_option linter.unusedSimpArgs false

def szV (n : Nat) (left : Int) : Int := if (n : Int) ≤ left then left - n else -1
theorem szV_le {n : Nat} {left : Int} (h : (n : Int) ≤ left) : szV n left = left - n := by unfold szV; rw [if_pos h]
theorem szV_gt {n : Nat} {left : Int} (h : ¬ (n : Int) ≤ left) : szV n left = -1 := by unfold szV; rw [if_neg h]
/-! ### made anew -/
end Go.Proofs.Ytednimdklbmjgaa
