/- RangesOk of the reference and of the program. -/
import Derived.Test.YtgebfcmkcggdmaaFlR
namespace Go.Proofs.Ytgebfcmkcggdmaa
open Go.ChangeShapes Go.WideShapes Go.ChangeAt Go.RowKit Go.Sort
set_option linter.unusedVariables false

def stepOk (l : List Rng) (i : Nat) : Bool := (l.getD i ⟨0, 0⟩).ok && (decide (i = 0) || decide ((l.getD (i - 1) ⟨0, 0⟩).hi ≤ (l.getD i ⟨0, 0⟩).lo))
def okTo (l : List Rng) (k : Nat) : Bool := (List.range k).all (stepOk l)
def rangesOk (l : List Rng) : Bool := decide (l.length ≤ 16) && okTo l l.length

theorem okTo_succ (l : List Rng) (k : Nat) : okTo l (k + 1) = (okTo l k && stepOk l k) := by simp [okTo, List.range_succ, List.all_append]
theorem okTo_bad {l : List Rng} {k n : Nat} (hk : k < n) (h : stepOk l k = false) : okTo l n = false := by
  unfold okTo
  rw [List.all_eq_false]
  exact ⟨k, List.mem_range.2 hk, by rw [h]; simp⟩
theorem rangesOk_bad {l : List Rng} {k : Nat} (hk : k < l.length) (h : stepOk l k = false) : rangesOk l = false := by unfold rangesOk; rw [okTo_bad hk h]; simp
theorem step_no {l : List Rng} {k : Nat} (hk : k < l.length) (h : Rng.ok ⟨l[k].lo, l[k].hi⟩ = false) : stepOk l k = false := by
  have h' : l[k].ok = false := h
  simp [stepOk, hk, h']
theorem step_zero {l : List Rng} (hk : 0 < l.length) (h : Rng.ok ⟨l[0].lo, l[0].hi⟩ = true) : stepOk l 0 = true := by
  have h' : l[0].ok = true := h
  simp [stepOk, hk, h']
theorem step_less {l : List Rng} {j : Nat} (hk : j + 1 < l.length) (h : l[j + 1].lo < l[j].hi) : stepOk l (j + 1) = false := by
  simp [stepOk, hk, show j < l.length by omega]; intro _; omega
theorem step_yes {l : List Rng} {j : Nat} (hk : j + 1 < l.length) (h0 : Rng.ok ⟨l[j + 1].lo, l[j + 1].hi⟩ = true) (h : ¬ l[j + 1].lo < l[j].hi) : stepOk l (j + 1) = true := by
  have h' : l[j + 1].ok = true := h0
  simp [stepOk, hk, show j < l.length by omega, h']; omega

end Go.Proofs.Ytgebfcmkcggdmaa
