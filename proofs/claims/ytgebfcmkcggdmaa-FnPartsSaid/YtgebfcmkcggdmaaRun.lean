/- The ranges of the keys for which something holds, key by key: plain lists, no program in sight. -/
import Derived.Test.YtgebfcmkcggdmaaRgs
namespace Go.Proofs.Ytgebfcmkcggdmaa
set_option linter.unusedVariables false

abbrev Rng.z : Rng := ⟨0, 0⟩
def lastR (l : List Rng) : Rng := l.getD (l.length - 1) Rng.z
/-- does the last range end at the key -/
def joins (l : List Rng) (k : Nat) : Bool := decide (0 < l.length) && decide ((lastR l).hi = k)
def longer (l : List Rng) : List Rng := l.set (l.length - 1) ⟨(lastR l).lo, (lastR l).hi + 1⟩
def runStep (is : Nat → Bool) (l : List Rng) (k : Nat) : List Rng := if is k = true then (if joins l k = true then longer l else l ++ [⟨k, k + 1⟩]) else l
def runsTo (is : Nat → Bool) : Nat → List Rng
  | 0 => []
  | k + 1 => runStep is (runsTo is k) k
theorem runsTo_no {is : Nat → Bool} {k : Nat} {l : List Rng} (hl : runsTo is k = l) (h : is k = false) : runsTo is (k + 1) = l := by simp [runsTo, runStep, hl, h]
theorem runsTo_join {is : Nat → Bool} {k : Nat} {l : List Rng} (hl : runsTo is k = l) (h : is k = true) (h2 : joins l k = true) : runsTo is (k + 1) = longer l := by simp [runsTo, runStep, hl, h, h2]
theorem runsTo_new {is : Nat → Bool} {k : Nat} {l : List Rng} (hl : runsTo is k = l) (h : is k = true) (h2 : joins l k = false) : runsTo is (k + 1) = l ++ [⟨k, k + 1⟩] := by simp [runsTo, runStep, hl, h, h2]
theorem runsTo_len (is : Nat → Bool) : ∀ k, (runsTo is k).length ≤ k
  | 0 => by simp [runsTo]
  | k + 1 => by
    have := runsTo_len is k
    unfold runsTo runStep
    split
    · split
      · simp [longer]; omega
      · simp; omega
    · omega
theorem runsTo_congr {is is' : Nat → Bool} : ∀ k, (∀ j, j < k → is j = is' j) → runsTo is k = runsTo is' k
  | 0, _ => rfl
  | k + 1, h => by
    unfold runsTo runStep
    rw [runsTo_congr k (fun j hj => h j (by omega)), h k (by omega)]
theorem joins_at {l : List Rng} {m k : Nat} (hm : l.length = m + 1) : joins l k = decide (l[m].hi = k) := by
  have e : l.length - 1 = m := by omega
  have hlt : m < l.length := by omega
  simp [joins, lastR, e, hlt, show 0 < l.length by omega]
theorem longer_at {l : List Rng} {m : Nat} (hm : l.length = m + 1) : longer l = l.set m ⟨l[m].lo, l[m].hi + 1⟩ := by
  have e : l.length - 1 = m := by omega
  have hlt : m < l.length := by omega
  simp [longer, lastR, e, hlt]
theorem joins_nil {l : List Rng} {k : Nat} (hm : l.length = 0) : joins l k = false := by simp [joins, hm]
end Go.Proofs.Ytgebfcmkcggdmaa
