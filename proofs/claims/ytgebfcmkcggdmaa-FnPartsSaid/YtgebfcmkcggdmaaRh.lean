/- RangesHave of the reference and of the program. -/
import Derived.Test.YtgebfcmkcggdmaaRgs
import Derived.Test.YtgebfcmkcggdmaaGa
namespace Go.Proofs.Ytgebfcmkcggdmaa
open Go.ChangeShapes Go.WideShapes Go.ChangeAt Go.RowKit Go.Sort
set_option linter.unusedVariables false
set_option linter.unusedSimpArgs false

def atStep (b : Rng) (y : Int) : Int := if b.lo ≤ y ∧ y < b.hi then b.hi else y
def atF (l : List Rng) (x : Int) : Nat → Int
  | 0 => x
  | k + 1 => atStep (l.getD k ⟨0, 0⟩) (atF l x k)
def haveB (l : List Rng) (lo hi : Int) : Bool := decide (hi ≤ atF l lo l.length)
theorem atF_hit {l : List Rng} {x : Int} {k : Nat} (hk : k < l.length) {y : Int} (hy : atF l x k = y) (h1 : l[k].lo ≤ y) (h2 : y < l[k].hi) : atF l x (k + 1) = l[k].hi := by simp [atF, hk, hy, atStep, h1, h2]
theorem atF_miss {l : List Rng} {x : Int} {k : Nat} (hk : k < l.length) {y : Int} (hy : atF l x k = y) (h : ¬ (l[k].lo ≤ y ∧ y < l[k].hi)) : atF l x (k + 1) = y := by simp only [atF, hy, atStep]; simp [hk]; intro h1 h2; exact absurd ⟨h1, h2⟩ h

end Go.Proofs.Ytgebfcmkcggdmaa
