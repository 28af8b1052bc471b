/- The keys of the runs, and what 'have' says of them: plain lists, no program in sight. -/
import Derived.Test.YtgebfcmkcggdmaaSTurn
import Derived.Test.YtgebfcmkcggdmaaRof
import Derived.Test.YtgebfcmkcggdmaaRh
namespace Go.Proofs.Ytgebfcmkcggdmaa
set_option linter.unusedVariables false
set_option linter.unusedSimpArgs false

theorem atStep_ge (b : Rng) (y : Int) : y ≤ atStep b y := by unfold atStep; split <;> omega
theorem atF_up (l : List Rng) (x : Int) (n : Nat) : ∀ d, atF l x n ≤ atF l x (n + d)
  | 0 => by simp
  | d + 1 => by
    have := atF_up l x n d
    have h2 := atStep_ge (l.getD (n + d) ⟨0, 0⟩) (atF l x (n + d))
    show _ ≤ atStep (l.getD (n + d) ⟨0, 0⟩) (atF l x (n + d))
    omega
theorem atF_le (l : List Rng) (x : Int) {n m : Nat} (h : n ≤ m) : atF l x n ≤ atF l x m := by
  have := atF_up l x n (m - n)
  rwa [show n + (m - n) = m by omega] at this
theorem atF_none (l : List Rng) (x : Int) : ∀ n, n ≤ l.length → (∀ j (hj : j < l.length), j < n → rhas x l[j] = false) → atF l x n = x
  | 0, _, _ => rfl
  | n + 1, hn, h => by
    have ih := atF_none l x n (by omega) (fun j hj hjn => h j hj (by omega))
    have h1 := h n (by omega) (by omega)
    show atStep _ _ = _
    rw [ih, List.getD_eq_getElem?_getD, List.getElem?_eq_getElem (by omega), Option.getD_some]
    unfold rhas at h1
    rw [inB_no] at h1
    unfold atStep
    rw [if_neg (by omega)]
theorem atF_some (l : List Rng) (x : Int) {j : Nat} (hj : j < l.length) (h : rhas x l[j] = true) : x + 1 ≤ atF l x l.length := by
  have h0 : x ≤ atF l x j := atF_le l x (Nat.zero_le j)
  refine Int.le_trans ?_ (atF_le l x (show j + 1 ≤ l.length by omega))
  unfold rhas at h
  rw [inB_yes] at h
  show _ ≤ atStep _ _
  rw [List.getD_eq_getElem?_getD, List.getElem?_eq_getElem hj, Option.getD_some]
  unfold atStep
  split <;> omega
theorem have_one (l : List Rng) (k : Int) : haveB l k (k + 1) = l.any (rhas k) := by
  unfold haveB
  cases h : l.any (rhas k)
  · rw [List.any_eq_false] at h
    have := atF_none l k l.length (Nat.le_refl _) (fun j hj _ => by simpa using h l[j] (List.getElem_mem hj))
    rw [this, decide_eq_false_iff_not]
    omega
  · rw [List.any_eq_true] at h
    obtain ⟨r, hr, hx⟩ := h
    obtain ⟨j, hj, rfl⟩ := List.getElem_of_mem hr
    rw [decide_eq_true_eq]
    exact atF_some l k hj hx

/-- ascending, apart, within n -/
def Asc (l : List Rng) (n : Nat) : Prop := l.Pairwise (fun a b => a.hi ≤ b.lo) ∧ ∀ r ∈ l, 0 ≤ r.lo ∧ r.lo < r.hi ∧ r.hi ≤ n
theorem Asc.up {l : List Rng} {n m : Nat} (h : Asc l n) (hm : n ≤ m) : Asc l m := ⟨h.1, fun r hr => by have := h.2 r hr; omega⟩
theorem joins_last {l : List Rng} {k : Nat} (h : joins l k = true) : ∃ (l' : List Rng) (r : Rng), l = l' ++ [r] ∧ r.hi = (k : Int) := by
  obtain ⟨hp, hh⟩ := joins_pos h
  have hne : l ≠ [] := List.ne_nil_of_length_pos hp
  refine ⟨l.dropLast, l.getLast hne, (List.dropLast_concat_getLast hne).symm, ?_⟩
  rw [← hh]
  unfold lastR
  rw [List.getLast_eq_getElem, List.getD_eq_getElem?_getD, List.getElem?_eq_getElem (by omega), Option.getD_some]
theorem longer_snoc (l : List Rng) (r : Rng) : longer (l ++ [r]) = l ++ [⟨r.lo, r.hi + 1⟩] := by
  unfold longer
  rw [lastR_snoc]
  simp
theorem runs_asc (is : Nat → Bool) : ∀ n, Asc (runsTo is n) n
  | 0 => ⟨List.Pairwise.nil, fun r hr => by simp [runsTo] at hr⟩
  | n + 1 => by
    have ih := runs_asc is n
    unfold runsTo runStep
    split
    · split
      · rename_i h1 h2
        obtain ⟨l', r, hl, hr⟩ := joins_last h2
        rw [hl] at ih ⊢
        rw [longer_snoc]
        obtain ⟨h3, h4⟩ := ih
        rw [List.pairwise_append] at h3
        refine ⟨List.pairwise_append.2 ⟨h3.1, List.pairwise_singleton _ _, fun a ha b hb => ?_⟩, fun q hq => ?_⟩
        · simp at hb; subst hb
          exact h3.2.2 a ha r (by simp)
        · rw [List.mem_append] at hq
          rcases hq with hq | hq
          · have := h4 q (by simp [hq]); omega
          · simp at hq; subst hq
            have := h4 r (by simp)
            simp only
            omega
      · obtain ⟨h3, h4⟩ := ih
        refine ⟨List.pairwise_append.2 ⟨h3, List.pairwise_singleton _ _, fun a ha b hb => ?_⟩, fun q hq => ?_⟩
        · simp at hb; subst hb
          have := h4 a ha; simp only; omega
        · rw [List.mem_append] at hq
          rcases hq with hq | hq
          · have := h4 q hq; omega
          · simp at hq; subst hq; simp only; omega
    · exact ih.up (by omega)
theorem runs_any (is : Nat → Bool) (x : Nat) : ∀ n, (runsTo is n).any (rhas x) = (decide (x < n) && is x)
  | 0 => by simp [runsTo]
  | n + 1 => by
    have ih := runs_any is x n
    have ha := runs_asc is n
    have hone : ∀ b : Bool, (∀ (a : Int) (c : Int), a ≤ n → c = n + 1 → rhas x ⟨a, c⟩ = (rhas x ⟨a, n⟩ || decide (x = n))) := fun _ a c h1 h2 => by
      unfold rhas inB
      rw [Bool.eq_iff_iff]
      simp
      omega
    unfold runsTo runStep
    cases hq : is n
    · rw [if_neg (by simp), ih]
      by_cases hx : x = n
      · subst hx; simp [hq]
      · congr 1
        rw [Bool.eq_iff_iff]; simp; omega
    · rw [if_pos rfl]
      split
      · rename_i h2
        obtain ⟨l', r, hl, hr⟩ := joins_last h2
        rw [hl] at ih ha ⊢
        rw [longer_snoc, List.any_append]
        rw [List.any_append] at ih
        simp only [List.any_cons, List.any_nil, Bool.or_false] at ih ⊢
        have h5 := ha.2 r (by simp)
        rw [hone true r.lo (r.hi + 1) (by omega) (by omega), ← Bool.or_assoc, ← show r.hi = n from hr]
        rw [ih]
        by_cases hx : x = n
        · subst hx; simp [hq]
        · simp [hx]
          congr 1
          rw [Bool.eq_iff_iff]; simp; omega
      · rw [List.any_append, ih]
        simp only [List.any_cons, List.any_nil, Bool.or_false]
        by_cases hx : x = n
        · subst hx
          simp [hq, rhas, inB]
        · have : rhas x ⟨n, n + 1⟩ = false := by unfold rhas; rw [inB_no]; simp only; omega
          rw [this, Bool.or_false]
          congr 1
          rw [Bool.eq_iff_iff]; simp; omega

theorem asc_ok {l : List Rng} (h : Asc l 1000) (h16 : l.length ≤ 16) : rangesOk l = true := by
  unfold rangesOk okTo
  simp only [Bool.and_eq_true, decide_eq_true_eq, List.all_eq_true, List.mem_range]
  refine ⟨h16, fun i hi => ?_⟩
  unfold stepOk
  have h1 := h.2 l[i] (List.getElem_mem hi)
  have e : l.getD i ⟨0, 0⟩ = l[i] := by simp [hi]
  rw [e, Bool.and_eq_true, Bool.or_eq_true, decide_eq_true_eq, decide_eq_true_eq]
  refine ⟨by unfold Rng.ok; simp; omega, ?_⟩
  rcases Nat.eq_zero_or_pos i with h0 | h0
  · exact .inl h0
  · right
    have e2 : l.getD (i - 1) ⟨0, 0⟩ = l[i - 1]'(by omega) := by simp [show i - 1 < l.length by omega]
    rw [e2]
    exact (List.pairwise_iff_getElem.1 h.1) (i - 1) i (by omega) hi (by omega)
theorem have_all {l : List Rng} {n : Nat} (h : Asc l n) {lo hi : Int} (hk : ∀ x : Int, lo ≤ x → x < hi → l.any (rhas x) = true) : haveB l lo hi = true := by
  unfold haveB
  rw [decide_eq_true_eq]
  apply Classical.byContradiction
  intro hc
  obtain ⟨y, hy⟩ : ∃ y, atF l lo l.length = y := ⟨_, rfl⟩
  rw [hy] at hc
  have h0 : lo ≤ y := by rw [← hy]; exact atF_le l lo (Nat.zero_le _)
  have h1 := hk y h0 (by omega)
  rw [List.any_eq_true] at h1
  obtain ⟨r, hr, hx⟩ := h1
  obtain ⟨j, hj, rfl⟩ := List.getElem_of_mem hr
  unfold rhas at hx
  rw [inB_yes] at hx
  have hjy : atF l lo j ≤ y := by rw [← hy]; exact atF_le l lo (by omega)
  have hnext : atF l lo (j + 1) = atStep l[j] (atF l lo j) := by
    show atStep (l.getD j ⟨0, 0⟩) _ = _
    rw [List.getD_eq_getElem?_getD, List.getElem?_eq_getElem hj, Option.getD_some]
  by_cases hin : l[j].lo ≤ atF l lo j
  · have h2 : atF l lo (j + 1) = l[j].hi := by rw [hnext]; unfold atStep; rw [if_pos (by omega)]
    have h3 := atF_le l lo (show j + 1 ≤ l.length by omega)
    omega
  · have stay : ∀ d, j + 1 + d ≤ l.length → atF l lo (j + 1 + d) = atF l lo j := by
      intro d
      induction d with
      | zero =>
        intro _
        rw [Nat.add_zero, hnext]
        unfold atStep
        rw [if_neg (by omega)]
      | succ d ih =>
        intro hd
        have ih := ih (by omega)
        have hlt : j + 1 + d < l.length := by omega
        have hp := (List.pairwise_iff_getElem.1 h.1) j (j + 1 + d) hj hlt (by omega)
        have hrj := h.2 l[j] (List.getElem_mem hj)
        show atStep (l.getD (j + 1 + d) ⟨0, 0⟩) (atF l lo (j + 1 + d)) = _
        rw [ih, List.getD_eq_getElem?_getD, List.getElem?_eq_getElem hlt, Option.getD_some]
        unfold atStep
        rw [if_neg (by omega)]
    have := stay (l.length - (j + 1)) (by omega)
    rw [show j + 1 + (l.length - (j + 1)) = l.length by omega] at this
    omega

/-! ### what the law asks -/
theorem turn_parts {l : List Rng} {a : Rng} {b : Bool} (h : turnB l a b = true) : rangesOk l = true ∧ a.ok = true ∧ (runsTo (isIn l a b) 1000).length ≤ 16 ∧ turnV l a b = runsTo (isIn l a b) 1000 := by
  have h2 := h
  unfold turnB at h
  simp only [Bool.and_eq_true, decide_eq_true_eq] at h
  exact ⟨h.1.1, h.1.2, h.2, by unfold turnV; rw [h2]; simp⟩
def haveV (l : List Rng) (lo hi : Int) : Bool := rangesOk l && Rng.ok ⟨lo, hi⟩ && haveB l lo hi
theorem one_ok {k : Nat} (h : k < 60) : Rng.ok ⟨k, k + 1⟩ = true := by unfold Rng.ok; simp; omega
theorem turn_have {l : List Rng} {a : Rng} {b : Bool} (h : turnB l a b = true) {k : Nat} (hk : k < 60) : haveV (turnV l a b) k (k + 1) = isIn l a b k ∧ haveV l k (k + 1) = l.any (rhas k) := by
  obtain ⟨h1, h2, h3, h4⟩ := turn_parts h
  refine ⟨?_, ?_⟩
  · unfold haveV
    rw [h4, asc_ok (runs_asc _ _) h3, one_ok hk, have_one, runs_any]
    simp
    omega
  · unfold haveV
    rw [h1, one_ok hk, have_one]
    simp
theorem turn_ok {l : List Rng} {a : Rng} {b : Bool} (h : turnB l a b = true) : rangesOk (turnV l a b) = true := by
  obtain ⟨h1, h2, h3, h4⟩ := turn_parts h
  rw [h4]; exact asc_ok (runs_asc _ _) h3
theorem turn_plus {l : List Rng} {lo hi : Int} (h : turnB l ⟨lo, hi⟩ true = true) : haveV (turnV l ⟨lo, hi⟩ true) lo hi = true := by
  obtain ⟨h1, h2, h3, h4⟩ := turn_parts h
  unfold haveV
  have h5 := Rng.ok_at h2
  simp only at h5
  rw [h4, asc_ok (runs_asc _ _) h3, h2]
  simp only [Bool.true_and]
  refine have_all (runs_asc _ 1000) (fun x hx1 hx2 => ?_)
  obtain ⟨k, rfl⟩ : ∃ k : Nat, x = k := ⟨x.toNat, by omega⟩
  rw [runs_any]
  simp only [Bool.and_eq_true, decide_eq_true_eq]
  refine ⟨by omega, ?_⟩
  unfold isIn
  rw [if_pos (by unfold rhas; rw [inB_yes]; simp only; omega)]
theorem turn_have_plus {l : List Rng} {lo hi : Int} (h : turnB l ⟨lo, hi⟩ true = true) {k : Nat} (hk : k < 60) : haveV (turnV l ⟨lo, hi⟩ true) k (k + 1) = (rhas k ⟨lo, hi⟩ || haveV l k (k + 1)) := by
  rw [(turn_have h hk).1, (turn_have h hk).2]
  unfold isIn
  cases rhas k ⟨lo, hi⟩ <;> simp
theorem turn_have_less {l : List Rng} {lo hi : Int} (h : turnB l ⟨lo, hi⟩ false = true) {k : Nat} (hk : k < 60) : haveV (turnV l ⟨lo, hi⟩ false) k (k + 1) = (!rhas k ⟨lo, hi⟩ && haveV l k (k + 1)) := by
  rw [(turn_have h hk).1, (turn_have h hk).2]
  unfold isIn
  cases rhas k ⟨lo, hi⟩ <;> simp
theorem rhas_if (k lo hi : Int) : rhas k ⟨lo, hi⟩ = (decide (lo ≤ k) && decide (k < hi)) := by
  unfold rhas inB
  rw [Bool.eq_iff_iff]
  simp
  omega
theorem meet_law (lo hi : Int) : meetB ⟨lo, hi⟩ ⟨3, 20⟩ = (Rng.ok ⟨lo, hi⟩ && decide (lo < 20) && decide (3 < hi)) := by
  rw [meetB_meets]
  unfold meetsB
  rw [show Rng.ok ⟨3, 20⟩ = true from rfl, Bool.and_true, Bool.and_assoc]
theorem meet_in {lo hi : Int} (h : meetB ⟨lo, hi⟩ ⟨3, 20⟩ = true) : (Rng.ok (meetV ⟨lo, hi⟩ ⟨3, 20⟩) && Rng.ok ⟨lo, hi⟩ && decide (lo ≤ (meetV ⟨lo, hi⟩ ⟨3, 20⟩).lo) && decide ((meetV ⟨lo, hi⟩ ⟨3, 20⟩).hi ≤ hi)) = true := by
  unfold meetV
  rw [if_pos h]
  unfold meetB at h
  simp only [Bool.and_eq_true] at h
  simp only [Bool.and_eq_true, decide_eq_true_eq]
  refine ⟨⟨⟨h.2, h.1.1⟩, ?_⟩, ?_⟩
  · show lo ≤ max lo 3; omega
  · show min hi 20 ≤ hi; omega
end Go.Proofs.Ytgebfcmkcggdmaa
