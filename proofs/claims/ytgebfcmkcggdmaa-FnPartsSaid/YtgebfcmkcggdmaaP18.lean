/- Parts split and given, and whose each key is: plain lists, no program in sight. -/
import Derived.Test.YtgebfcmkcggdmaaSpl
import Derived.Test.YtgebfcmkcggdmaaR10
namespace Go.Proofs.Ytgebfcmkcggdmaa
open Go.ChangeShapes Go.WideShapes Go.ChangeAt Go.RowKit Go.Sort
set_option linter.unusedVariables false
set_option linter.unusedSimpArgs false

/-! ### parts as a chain -/
def seg (a b : Int) : List Prt → Prop
  | [] => a = b
  | p :: r => p.lo = a ∧ p.lo < p.hi ∧ 0 ≤ p.owner ∧ p.owner ≤ 3 ∧ seg p.hi b r
theorem seg_append {b : Int} {m : List Prt} : ∀ {l : List Prt} {a : Int}, seg a b (l ++ m) ↔ ∃ c, seg a c l ∧ seg c b m
  | [], a => ⟨fun h => ⟨a, rfl, h⟩, fun ⟨c, h1, h2⟩ => by cases h1; exact h2⟩
  | p :: r, a => by
    show (p.lo = a ∧ p.lo < p.hi ∧ 0 ≤ p.owner ∧ p.owner ≤ 3 ∧ seg p.hi b (r ++ m)) ↔ ∃ c, (p.lo = a ∧ p.lo < p.hi ∧ 0 ≤ p.owner ∧ p.owner ≤ 3 ∧ seg p.hi c r) ∧ seg c b m
    rw [seg_append (a := p.hi) (b := b)]
    constructor
    · rintro ⟨h1, h2, h3, h4, c, h5, h6⟩
      exact ⟨c, ⟨h1, h2, h3, h4, h5⟩, h6⟩
    · rintro ⟨c, ⟨h1, h2, h3, h4, h5⟩, h6⟩
      exact ⟨h1, h2, h3, h4, c, h5, h6⟩
def pEndA (a : Int) (l : List Prt) : Nat → Int
  | 0 => a
  | i + 1 => (l.getD i Prt.z).hi
def stepA (a : Int) (l : List Prt) (i : Nat) : Prop := (l.getD i Prt.z).lo = pEndA a l i ∧ (l.getD i Prt.z).lo < (l.getD i Prt.z).hi ∧ 0 ≤ (l.getD i Prt.z).owner ∧ (l.getD i Prt.z).owner ≤ 3
theorem pEndA_cons (a : Int) (p : Prt) (r : List Prt) (i : Nat) : pEndA a (p :: r) (i + 1) = pEndA p.hi r i := by
  cases i <;> rfl
theorem stepA_cons (a : Int) (p : Prt) (r : List Prt) (i : Nat) : stepA a (p :: r) (i + 1) ↔ stepA p.hi r i := by
  unfold stepA
  rw [pEndA_cons]
  rfl
theorem seg_iff {b : Int} : ∀ {l : List Prt} {a : Int}, seg a b l ↔ (∀ i, i < l.length → stepA a l i) ∧ pEndA a l l.length = b
  | [], a => ⟨fun h => ⟨fun i hi => absurd hi (by simp), h⟩, fun h => h.2⟩
  | p :: r, a => by
    show (p.lo = a ∧ p.lo < p.hi ∧ 0 ≤ p.owner ∧ p.owner ≤ 3 ∧ seg p.hi b r) ↔ _
    rw [seg_iff (l := r), List.length_cons, pEndA_cons]
    constructor
    · rintro ⟨h1, h2, h3, h4, h5, h6⟩
      refine ⟨fun i hi => ?_, h6⟩
      cases i with
      | zero => exact ⟨h1, h2, h3, h4⟩
      | succ i => exact (stepA_cons a p r i).2 (h5 i (by omega))
    · rintro ⟨h, h6⟩
      obtain ⟨h1, h2, h3, h4⟩ := h 0 (by omega)
      exact ⟨h1, h2, h3, h4, fun i hi => (stepA_cons a p r i).1 (h (i + 1) (by omega)), h6⟩
theorem partsOk_seg (l : List Prt) : PartsOk l ↔ 1 ≤ l.length ∧ l.length ≤ 16 ∧ seg 0 1000 l := by
  have e : ∀ i, pEnd l i = pEndA 0 l i := fun i => by cases i <;> rfl
  rw [seg_iff]
  unfold PartsOk
  rw [e]
  have e2 : ∀ i, pStep l i ↔ stepA 0 l i := fun i => by unfold pStep stepA; rw [e]
  constructor
  · rintro ⟨h1, h2, h3, h4⟩
    exact ⟨h1, h2, fun i hi => (e2 i).1 (h4 i hi), h3⟩
  · rintro ⟨h1, h2, h3, h4⟩
    exact ⟨h1, h2, h4, fun i hi => (e2 i).2 (h3 i hi)⟩
theorem cut_at {l : List Prt} {k : Nat} (hk : k < l.length) : l = l.take k ++ l[k] :: l.drop (k + 1) := by
  rw [← List.drop_eq_getElem_cons hk, List.take_append_drop]
theorem getD_in {l : List Prt} {k : Nat} (hk : k < l.length) : l.getD k Prt.z = l[k] := by simp [hk]
/-- a key's part -/
theorem own_eq {l : List Prt} (h : PartsOk l) {n : Nat} (hn : n < l.length) {k : Nat} (h1 : l[n].lo ≤ k) (h2 : (k : Int) < l[n].hi) : ownerAt l k = l[n].owner := by
  unfold ownerAt
  rw [part_of h hn h1 h2]
  simp [hn]
theorem own_some {l : List Prt} (h : PartsOk l) {k : Nat} (hk : k < 1000) : ∃ n, ∃ hn : n < l.length, idxOf (hasKey k) l = n ∧ ownerAt l k = l[n].owner ∧ l[n].lo ≤ k ∧ (k : Int) < l[n].hi := by
  obtain ⟨n, hn, he⟩ := part_has h hk
  obtain ⟨_, h2, _⟩ := idxOf_at he
  have h3 := (inB_iff _ _ _).1 h2
  exact ⟨n, hn, he, own_eq h hn (by omega) (by omega), by omega, by omega⟩
theorem at_val {l : List Prt} (h : partsOk l = true) (k : Int) : partAtV l k = idxOf (hasKey k) l := if_pos h
/-- split parts -/
theorem sp_facts {l : List Prt} {key : Int} (h : spB l key = true) : ∃ k, ∃ hk : k < l.length, partAtV l key = k ∧ PartsOk l ∧ l.length < 16 ∧ l[k].lo < key ∧ key < l[k].hi ∧ spV l key = l.take k ++ ⟨l[k].lo, key, l[k].owner⟩ :: ⟨key, l[k].hi, l[k].owner⟩ :: l.drop (k + 1) := by
  have hv : spV l key = spL l (partAtV l key).toNat key := if_pos h
  unfold spB at h
  simp only [Bool.and_eq_true, decide_eq_true_eq, Bool.not_eq_true', decide_eq_false_iff_not] at h
  obtain ⟨⟨h0, h1⟩, h2⟩ := h
  obtain ⟨k, hk, hkl, hok⟩ := partAtV_lt h0
  have hp : PartsOk l := of_decide_eq_true hok
  rw [at_val hok] at hk
  obtain ⟨_, h3, _⟩ := idxOf_at hk
  have h4 := (inB_iff _ _ _).1 h3
  rw [at_val hok, hk] at h1 hv
  have e : ((k : Int)).toNat = k := by omega
  rw [e, getD_in hkl] at h1
  rw [e] at hv
  unfold spL at hv
  rw [getD_in hkl] at hv
  have := hp.2.1
  exact ⟨k, hkl, by rw [at_val hok, hk], hp, by omega, by omega, by omega, hv⟩
theorem sp_ok {l : List Prt} {key : Int} (h : spB l key = true) : PartsOk (spV l key) ∧ (spV l key).length = l.length + 1 := by
  obtain ⟨k, hk, _, hp, h16, h1, h2, hv⟩ := sp_facts h
  have hs := ((partsOk_seg l).1 hp).2.2
  have hlen : (spV l key).length = l.length + 1 := by
    rw [hv]; simp; omega
  refine ⟨(partsOk_seg _).2 ⟨by omega, by omega, ?_⟩, hlen⟩
  rw [cut_at hk, seg_append] at hs
  obtain ⟨c, h3, h4⟩ := hs
  obtain ⟨h5, h6, h7, h8, h9⟩ := h4
  rw [hv, seg_append]
  exact ⟨c, h3, h5, h1, h7, h8, rfl, h2, h7, h8, h9⟩
theorem sp_own {l : List Prt} {key : Int} (h : spB l key = true) {k : Nat} (hk : k < 1000) : ∃ j, ∃ hj : j < (spV l key).length, partAtV (spV l key) k = j ∧ (spV l key)[j].owner = ownerAt l k := by
  obtain ⟨m, hm, _, hp, h16, h1, h2, hv⟩ := sp_facts h
  have hc := (sp_ok h).1
  obtain ⟨j, hj, he, _, h3, h4⟩ := own_some hc hk
  refine ⟨j, hj, by rw [at_val (decide_eq_true hc), he], ?_⟩
  have hmem : ∀ p ∈ spV l key, ∃ n, ∃ hn : n < l.length, p.owner = l[n].owner ∧ l[n].lo ≤ p.lo ∧ p.hi ≤ l[n].hi := by
    rw [hv]
    have old : ∀ p ∈ l, ∃ n, ∃ hn : n < l.length, p.owner = l[n].owner ∧ l[n].lo ≤ p.lo ∧ p.hi ≤ l[n].hi := fun p hp => by
      obtain ⟨n, hn, rfl⟩ := List.mem_iff_getElem.1 hp
      exact ⟨n, hn, rfl, Int.le_refl _, Int.le_refl _⟩
    intro p hp
    rcases List.mem_append.1 hp with hp | hp
    · exact old p (List.mem_of_mem_take hp)
    · rcases List.mem_cons.1 hp with rfl | hp
      · exact ⟨m, hm, rfl, Int.le_refl _, by show key ≤ _; omega⟩
      · rcases List.mem_cons.1 hp with rfl | hp
        · exact ⟨m, hm, rfl, by show _ ≤ key; omega, Int.le_refl _⟩
        · exact old p (List.mem_of_mem_drop hp)
  obtain ⟨n, hn, e1, e2, e3⟩ := hmem _ (List.getElem_mem hj)
  rw [e1]
  exact (own_eq hp hn (by omega) (by omega)).symm
/-- given parts -/
theorem give_facts {l : List Prt} {key ow : Int} (h : giveB l key ow = true) : ∃ k, ∃ hk : k < l.length, partAtV l key = k ∧ PartsOk l ∧ 0 ≤ ow ∧ ow ≤ 3 ∧ giveV l key ow = l.set k ⟨l[k].lo, l[k].hi, ow⟩ := by
  have hv : giveV l key ow = giveL l (partAtV l key).toNat ow := if_pos h
  unfold giveB at h
  simp only [Bool.and_eq_true, decide_eq_true_eq] at h
  obtain ⟨k, hk, hkl, hok⟩ := partAtV_lt h.1
  have h2 := (inB_iff _ _ _).1 h.2
  rw [hk, show ((k : Int)).toNat = k by omega] at hv
  unfold giveL at hv
  rw [getD_in hkl] at hv
  exact ⟨k, hkl, hk, of_decide_eq_true hok, h2.1, h2.2, hv⟩
theorem set_cut {l : List Prt} {k : Nat} (hk : k < l.length) (x : Prt) : l.set k x = l.take k ++ x :: l.drop (k + 1) := by
  rw [List.set_eq_take_append_cons_drop, if_pos hk]
theorem give_ok {l : List Prt} {key ow : Int} (h : giveB l key ow = true) : PartsOk (giveV l key ow) ∧ (giveV l key ow).length = l.length := by
  obtain ⟨k, hk, _, hp, h0, h3, hv⟩ := give_facts h
  have hb := (partsOk_seg l).1 hp
  have hlen : (giveV l key ow).length = l.length := by rw [hv]; simp
  refine ⟨(partsOk_seg _).2 ⟨by omega, by omega, ?_⟩, hlen⟩
  have hs := hb.2.2
  rw [cut_at hk, seg_append] at hs
  obtain ⟨c, h4, h5, h6, h7, h8, h9⟩ := hs
  rw [hv, set_cut hk, seg_append]
  exact ⟨c, h4, h5, h6, h0, h3, h9⟩
theorem give_own {l : List Prt} {key ow : Int} (h : giveB l key ow = true) {k : Nat} (hk : k < 1000) : ∃ n, ∃ hn : n < l.length, partAtV l k = n ∧ partAtV (giveV l key ow) k = n ∧ ∃ hn2 : n < (giveV l key ow).length, (giveV l key ow)[n].owner = if (n : Int) = partAtV l key then ow else l[n].owner := by
  obtain ⟨m, hm, ha, hp, h0, h3, hv⟩ := give_facts h
  obtain ⟨hg, hl⟩ := give_ok h
  obtain ⟨n, hn, he, _, h5, h6⟩ := own_some hp hk
  have hn2 : n < (giveV l key ow).length := by omega
  have hlo : (giveV l key ow)[n].lo = l[n].lo ∧ (giveV l key ow)[n].hi = l[n].hi ∧ (giveV l key ow)[n].owner = if (n : Int) = partAtV l key then ow else l[n].owner := by
    simp only [hv, List.getElem_set]
    by_cases e : m = n
    · subst e; simp [ha]
    · rw [if_neg e, ha, if_neg (by omega)]; exact ⟨rfl, rfl, rfl⟩
  refine ⟨n, hn, by rw [at_val (decide_eq_true hp), he], ?_, hn2, hlo.2.2⟩
  rw [at_val (decide_eq_true hg)]
  exact part_of hg hn2 (by rw [hlo.1]; exact h5) (by rw [hlo.2.1]; exact h6)
/-! ### the sum of all owners' ranges -/
def sumR : List Rng → Int
  | [] => 0
  | r :: t => r.hi - r.lo + sumR t
theorem sumR_append (a b : List Rng) : sumR (a ++ b) = sumR a + sumR b := by
  induction a with
  | nil => simp [sumR]
  | cons x r ih => simp only [List.cons_append, sumR, ih]; omega
def cntR (is : Nat → Bool) : Nat → Int
  | 0 => 0
  | n + 1 => cntR is n + if is n = true then 1 else 0
theorem runs_sum (is : Nat → Bool) : ∀ n, sumR (runsTo is n) = cntR is n
  | 0 => rfl
  | n + 1 => by
    have ih := runs_sum is n
    cases h : is n
    · rw [runsTo_no rfl h, ih]
      simp [cntR, h]
    · cases hj : joins (runsTo is n) n
      · rw [runsTo_new rfl h hj, sumR_append, ih]
        simp only [cntR, h, sumR, if_true]; omega
      · obtain ⟨l', r, e, e2⟩ := joins_last hj
        rw [runsTo_join rfl h hj, e, longer_snoc, sumR_append]
        rw [e, sumR_append] at ih
        simp only [sumR] at ih ⊢
        simp only [cntR, h, if_true]; omega
theorem own_sum {l : List Prt} (h : PartsOk l) : ∀ n, n ≤ 1000 → cntR (isOwn l 0) n + cntR (isOwn l 1) n + cntR (isOwn l 2) n + cntR (isOwn l 3) n = n
  | 0, _ => rfl
  | n + 1, hn => by
    have ih := own_sum h n (by omega)
    obtain ⟨m, hm, _, e, _, _⟩ := own_some h (show n < 1000 by omega)
    have hb := h.at hm
    have e4 : l[m].owner = 0 ∨ l[m].owner = 1 ∨ l[m].owner = 2 ∨ l[m].owner = 3 := by omega
    have e0 : isOwn l 0 n = (l[m].owner == 0) := by unfold isOwn; rw [e]
    have e1 : isOwn l 1 n = (l[m].owner == 1) := by unfold isOwn; rw [e]
    have e2 : isOwn l 2 n = (l[m].owner == 2) := by unfold isOwn; rw [e]
    have e3 : isOwn l 3 n = (l[m].owner == 3) := by unfold isOwn; rw [e]
    simp only [cntR, e0, e1, e2, e3]
    rcases e4 with e4 | e4 | e4 | e4 <;> simp [e4] <;> omega
theorem sum_all {l : List Prt} (h : partsOk l = true) : sumR (rangesOfV l 0) + sumR (rangesOfV l 1) + sumR (rangesOfV l 2) + sumR (rangesOfV l 3) = 1000 := by
  have hp : PartsOk l := of_decide_eq_true h
  have e : ∀ g, rangesOfV l g = runsTo (isOwn l g) 1000 := fun g => if_pos h
  rw [e, e, e, e, runs_sum, runs_sum, runs_sum, runs_sum]
  exact own_sum hp 1000 (by omega)
theorem ranges_b (l : List Prt) (g : Int) : (rangesOfV l g).length ≤ 1000 ∧ ∀ r ∈ rangesOfV l g, 0 ≤ r.lo ∧ r.lo < r.hi ∧ r.hi ≤ 1000 := by
  unfold rangesOfV
  split
  · exact ⟨runsTo_len _ _, fun r hr => by have := (runs_asc (isOwn l g) 1000).2 r hr; omega⟩
  · exact ⟨by simp, by simp⟩
/-- the sum so far -/
theorem sumR_next {l : List Rng} {k : Nat} (h : k < l.length) : sumR (l.take (k + 1)) = sumR (l.take k) + l[k].hi - l[k].lo := by
  rw [List.take_add_one, List.getElem?_eq_getElem h, sumR_append]
  simp only [Option.toList_some, sumR]
  omega
theorem sumR_b {l : List Rng} (h : ∀ r ∈ l, 0 ≤ r.lo ∧ r.lo < r.hi ∧ r.hi ≤ 1000) : ∀ k, 0 ≤ sumR (l.take k) ∧ sumR (l.take k) ≤ 1000 * l.length := by
  intro k
  have h2 : ∀ r ∈ l.take k, 0 ≤ r.lo ∧ r.lo < r.hi ∧ r.hi ≤ 1000 := fun r hr => h r (List.mem_of_mem_take hr)
  have h3 : ∀ m : List Rng, (∀ r ∈ m, 0 ≤ r.lo ∧ r.lo < r.hi ∧ r.hi ≤ 1000) → 0 ≤ sumR m ∧ sumR m ≤ 1000 * m.length := by
    intro m
    induction m with
    | nil => intro _; simp [sumR]
    | cons x r ih =>
      intro hm
      have h1 := hm x (by simp)
      have h4 := ih fun y hy => hm y (by simp [hy])
      simp only [sumR, List.length_cons]
      omega
  have h5 := h3 _ h2
  have h6 : (l.take k).length ≤ l.length := by simp; omega
  omega
end Go.Proofs.Ytgebfcmkcggdmaa
