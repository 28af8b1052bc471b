/- Ranges with a range in them, or out: of the program. -/
import Derived.Test.YtgebfcmkcggdmaaRno
import Derived.Test.YtgebfcmkcggdmaaGd
import Derived.Test.YtgebfcmkcggdmaaInb
import Derived.WalkLawsBesides
namespace Go.Proofs.Ytgebfcmkcggdmaa
open Go.ChangeShapes Go.WideShapes Go.ChangeAt Go.RowKit Go.Sort
set_option linter.unusedVariables false
set_option linter.unusedSimpArgs false
def rhas (x : Int) (r : Rng) : Bool := inB x r.lo (r.hi - 1)
def isIn (l : List Rng) (a : Rng) (b : Bool) (k : Nat) : Bool := if rhas k a = true then b else l.any (rhas k)
def turnB (l : List Rng) (a : Rng) (b : Bool) : Bool := rangesOk l && a.ok && decide ((runsTo (isIn l a b) 1000).length ≤ 16)
def turnV (l : List Rng) (a : Rng) (b : Bool) : List Rng := if turnB l a b = true then runsTo (isIn l a b) 1000 else []

theorem rangesOk_at {l : List Rng} (h : rangesOk l = true) {k : Nat} (hk : k < l.length) : 0 ≤ l[k].lo ∧ l[k].lo < l[k].hi ∧ l[k].hi ≤ 1000 := by
  unfold rangesOk okTo at h
  simp only [Bool.and_eq_true, List.all_eq_true, List.mem_range] at h
  have h1 := h.2 k hk
  unfold stepOk at h1
  simp only [Bool.and_eq_true] at h1
  have h2 := h1.1
  simp only [List.getD_eq_getElem?_getD, hk, List.getElem?_eq_getElem, Option.getD_some] at h2
  unfold Rng.ok at h2
  simp only [Bool.and_eq_true, decide_eq_true_eq] at h2
  omega
theorem rangesOk_le {l : List Rng} (h : rangesOk l = true) : l.length ≤ 16 := by
  unfold rangesOk at h
  simp only [Bool.and_eq_true, decide_eq_true_eq] at h
  exact h.1
theorem Rng.ok_at {a : Rng} (h : a.ok = true) : 0 ≤ a.lo ∧ a.lo < a.hi ∧ a.hi ≤ 1000 := by
  unfold Rng.ok at h
  simp only [Bool.and_eq_true, decide_eq_true_eq] at h
  omega

end Go.Proofs.Ytgebfcmkcggdmaa
