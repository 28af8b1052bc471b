/- l10Turn of the reference. -/
import Derived.Test.YtgebfcmkcggdmaaTurn
namespace Go.Proofs.Ytgebfcmkcggdmaa
open Go.ChangeShapes Go.WideShapes Go.ChangeAt Go.RowKit Go.Sort
set_option linter.unusedVariables false
set_option linter.unusedSimpArgs false

/-! ### the row of marks -/
abbrev bEnc (b : Bool) : List Value := [.bool b]
theorem bEnc_len (b : Bool) : (bEnc b).length = 1 := rfl
def rowOf (n : Nat) (f : Nat → Bool) : List Bool := (List.range n).map f
def upd (f : Nat → Bool) (k : Nat) (b : Bool) (x : Nat) : Bool := if x = k then b else f x
theorem rowOf_set (n : Nat) (f : Nat → Bool) (k : Nat) (b : Bool) : (rowOf n f).set k b = rowOf n (upd f k b) := by
  apply List.ext_getElem?
  intro i
  simp only [rowOf, List.getElem?_set, List.length_map, List.length_range, List.getElem?_map, List.getElem?_range']
  by_cases h : k = i
  · subst h
    by_cases hk : k < n
    · simp [hk, upd]
    · simp [hk]
  · by_cases hi : i < n
    · simp [h, hi, upd]
      intro e; omega
    · simp [h, hi]
theorem rowOf_congr {n : Nat} {f g : Nat → Bool} (h : ∀ x, f x = g x) : rowOf n f = rowOf n g := by
  have : f = g := funext h
  rw [this]
theorem rowOf_len (n : Nat) (f : Nat → Bool) : (rowOf n f).length = n := by simp [rowOf]
theorem rowOf_at {n k : Nat} (f : Nat → Bool) (h : k < n) : (rowOf n f)[k]'(by rw [rowOf_len]; exact h) = f k := by simp [rowOf]

/-- what is marked behind i ranges -/
def cov (l : List Rng) (i : Nat) (x : Nat) : Bool := (l.take i).any (rhas x)
theorem cov_next {l : List Rng} {i : Nat} (h : i < l.length) (x : Nat) : cov l (i + 1) x = (cov l i x || rhas x l[i]) := by
  unfold cov
  rw [List.take_succ_eq_append_getElem h, List.any_append]
  simp
theorem cov_all (l : List Rng) (x : Nat) : cov l l.length x = l.any (rhas x) := by unfold cov; rw [List.take_length]
def mid (l : List Rng) (i : Nat) (lo k : Int) (x : Nat) : Bool := cov l i x || inB x lo (k - 1)
theorem mid_start (l : List Rng) (i : Nat) (lo : Int) (x : Nat) : mid l i lo lo x = cov l i x := by
  unfold mid
  rw [(inB_no (x : Int) lo (lo - 1)).2 (by omega)]
  simp
theorem mid_step (l : List Rng) (i : Nat) (lo : Int) (k : Nat) (h : lo ≤ k) (x : Nat) : upd (mid l i lo k) k true x = mid l i lo (k + 1) x := by
  unfold upd mid
  by_cases hx : x = k
  · subst hx
    rw [if_pos rfl, (inB_yes (x : Int) lo (x + 1 - 1)).2 (by omega)]
    simp
  · rw [if_neg hx]
    congr 1
    unfold inB
    rw [Bool.eq_iff_iff]
    simp
    omega
theorem mid_end {l : List Rng} {i : Nat} (h : i < l.length) (x : Nat) : mid l i l[i].lo l[i].hi x = cov l (i + 1) x := by
  rw [cov_next h]; rfl
def fin (l : List Rng) (b : Bool) (lo k : Int) (x : Nat) : Bool := if inB x lo (k - 1) = true then b else l.any (rhas x)
theorem fin_start (l : List Rng) (b : Bool) (lo : Int) (x : Nat) : fin l b lo lo x = cov l l.length x := by
  unfold fin
  rw [(inB_no (x : Int) lo (lo - 1)).2 (by omega), cov_all]
  simp
theorem fin_step (l : List Rng) (b : Bool) (lo : Int) (k : Nat) (h : lo ≤ k) (x : Nat) : upd (fin l b lo k) k b x = fin l b lo (k + 1) x := by
  unfold upd fin
  by_cases hx : x = k
  · subst hx
    rw [if_pos rfl, (inB_yes (x : Int) lo (x + 1 - 1)).2 (by omega)]
    simp
  · rw [if_neg hx]
    have : inB x lo (k - 1) = inB x lo (k + 1 - 1) := by
      unfold inB
      rw [Bool.eq_iff_iff]
      simp
      omega
    rw [this]
theorem fin_end (l : List Rng) (b : Bool) (lo hi : Int) (x : Nat) : fin l b lo hi x = isIn l ⟨lo, hi⟩ b x := rfl

/-! ### the scan -/
theorem runs_hi (is : Nat → Bool) : ∀ k, ∀ r ∈ runsTo is k, r.hi ≤ k
  | 0, r, h => by simp [runsTo] at h
  | k + 1, r, h => by
    have ih := runs_hi is k
    unfold runsTo runStep at h
    split at h
    · split at h
      · rename_i h1 h2
        have hpos : 0 < (runsTo is k).length := by
          rcases Nat.eq_zero_or_pos (runsTo is k).length with e | e
          · rw [joins_nil e] at h2; cases h2
          · exact e
        obtain ⟨m, hm⟩ : ∃ m, (runsTo is k).length = m + 1 := ⟨(runsTo is k).length - 1, by omega⟩
        rw [joins_at hm, decide_eq_true_eq] at h2
        rw [longer_at hm] at h
        rcases List.mem_or_eq_of_mem_set h with h | h
        · have := ih r h; omega
        · subst h; simp; omega
      · rw [List.mem_append] at h
        rcases h with h | h
        · have := ih r h; omega
        · simp at h; subst h; simp
    · have := ih r h; omega
theorem joins_next (is : Nat → Bool) (k : Nat) : joins (runsTo is k) (k + 1) = false := by
  rcases Nat.eq_zero_or_pos (runsTo is k).length with e | e
  · exact joins_nil e
  · obtain ⟨m, hm⟩ : ∃ m, (runsTo is k).length = m + 1 := ⟨(runsTo is k).length - 1, by omega⟩
    rw [joins_at hm, decide_eq_false_iff_not]
    have := runs_hi is k _ (List.getElem_mem (show m < (runsTo is k).length by omega))
    omega
/-- the state of the scan ahead of key k: closed ranges, the open one's start or -1 -/
def scan (is : Nat → Bool) (k : Nat) (out : List Rng) (fr : Int) : Prop :=
  (fr = -1 ∧ out = runsTo is k ∧ joins out k = false) ∨ (∃ s : Nat, fr = s ∧ s < k ∧ runsTo is k = out ++ [⟨s, k⟩])
theorem scan_zero (is : Nat → Bool) : scan is 0 [] (-1) := .inl ⟨rfl, rfl, rfl⟩
theorem scan_open {is : Nat → Bool} {k : Nat} {out : List Rng} {fr : Int} (h : scan is k out fr) (hf : fr < 0) (hk : is k = true) : scan is (k + 1) out k := by
  rcases h with ⟨_, h2, h3⟩ | ⟨s, rfl, _⟩
  · exact .inr ⟨k, rfl, by omega, by rw [runsTo_new h2.symm hk h3]; simp⟩
  · omega
theorem scan_idle {is : Nat → Bool} {k : Nat} {out : List Rng} {fr : Int} (h : scan is k out fr) (hf : fr < 0) (hk : is k = false) : scan is (k + 1) out fr := by
  rcases h with ⟨h1, h2, h3⟩ | ⟨s, rfl, _⟩
  · exact .inl ⟨h1, by rw [runsTo_no h2.symm hk], by rw [h2]; exact joins_next is k⟩
  · omega
theorem scan_go {is : Nat → Bool} {k : Nat} {out : List Rng} {fr : Int} (h : scan is k out fr) (hf : 0 ≤ fr) (hk : is k = true) : scan is (k + 1) out fr := by
  rcases h with ⟨h1, _⟩ | ⟨s, h1, hs, h2⟩
  · omega
  · refine .inr ⟨s, h1, by omega, ?_⟩
    have hm : (out ++ [(⟨s, k⟩ : Rng)]).length = out.length + 1 := by simp
    rw [runsTo_join h2 hk (by rw [joins_at hm]; simp), longer_at hm]
    simp
theorem scan_close {is : Nat → Bool} {k : Nat} {out : List Rng} {fr : Int} (h : scan is k out fr) (hf : 0 ≤ fr) (hk : is k = false) : scan is (k + 1) (out ++ [⟨fr, k⟩]) (-1) := by
  rcases h with ⟨h1, _⟩ | ⟨s, h1, hs, h2⟩
  · omega
  · subst h1
    refine .inl ⟨rfl, by rw [runsTo_no h2 hk], ?_⟩
    rw [← h2]; exact joins_next is k
theorem scan_end {is : Nat → Bool} {k : Nat} {out : List Rng} {fr : Int} (h : scan is k out fr) (h0 : is k = false) (hk : ∀ o f, scan is (k + 1) o f → f < 0 → o = runsTo is k) : True := trivial
theorem scan_last {is : Nat → Bool} {k : Nat} {out : List Rng} {fr : Int} (h : scan is (k + 1) out fr) (h0 : is k = false) : out = runsTo is k := by
  rcases h with ⟨_, h2, _⟩ | ⟨s, _, hs, h2⟩
  · rw [h2, runsTo_no rfl h0]
  · exfalso
    rw [runsTo_no rfl h0] at h2
    have := runs_hi is k ⟨s, (k + 1 : Nat)⟩ (by rw [h2]; simp)
    simp at this
    omega
theorem scan_len {is : Nat → Bool} {k : Nat} {out : List Rng} {fr : Int} (h : scan is k out fr) : out.length ≤ k ∧ -1 ≤ fr ∧ fr ≤ k := by
  have := runsTo_len is k
  rcases h with ⟨h1, h2, _⟩ | ⟨s, h1, hs, h2⟩
  · rw [h2]; omega
  · rw [h2] at this; simp at this; omega
end Go.Proofs.Ytgebfcmkcggdmaa
