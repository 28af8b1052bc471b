/- RangesOf of the reference. -/
import Derived.Test.YtgebfcmkcggdmaaRof
namespace Go.Proofs.Ytgebfcmkcggdmaa
open Go.ChangeShapes Go.WideShapes Go.ChangeAt Go.RowKit Go.Sort
set_option linter.unusedVariables false
set_option linter.unusedSimpArgs false

theorem merge_skip {l : List Prt} {ow : Int} {n : Nat} (hn : n < l.length) {o : List Rng} (h : mergeTo l ow n = o) (h1 : ¬ l[n].owner = ow) : mergeTo l ow (n + 1) = o := by
  unfold mergeTo mergeStep
  rw [h]; simp [hn, h1]
theorem merge_add {l : List Prt} {ow : Int} {n : Nat} (hn : n < l.length) {o : List Rng} (h : mergeTo l ow n = o) (h1 : l[n].owner = ow) (h2 : joins o l[n].lo.toNat = false) : mergeTo l ow (n + 1) = o ++ [⟨l[n].lo, l[n].hi⟩] := by
  unfold mergeTo mergeStep grow1
  rw [h]; simp [hn, h1, h2]
theorem merge_join {l : List Prt} {ow : Int} {n m : Nat} (hn : n < l.length) {o : List Rng} (h : mergeTo l ow n = o) (h1 : l[n].owner = ow) (h2 : joins o l[n].lo.toNat = true) (hm : o.length = m + 1) (hml : m < o.length) : mergeTo l ow (n + 1) = o.set m ⟨o[m].lo, l[n].hi⟩ := by
  unfold mergeTo mergeStep grow1
  rw [h]
  have e : o.length - 1 = m := by omega
  simp [hn, h1, h2, lastR, e, hml]
theorem merge_len (l : List Prt) (ow : Int) : ∀ n, (mergeTo l ow n).length ≤ n
  | 0 => by simp [mergeTo]
  | n + 1 => by
    have := merge_len l ow n
    unfold mergeTo mergeStep grow1
    split
    · split
      · simp; omega
      · simp; omega
    · omega

def Seen (l : List Prt) (n : Nat) : Prop := 0 < n → partsOk l = true
end Go.Proofs.Ytgebfcmkcggdmaa
