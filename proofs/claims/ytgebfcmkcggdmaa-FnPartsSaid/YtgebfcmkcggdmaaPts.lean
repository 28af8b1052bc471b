/- PartsOk of the reference and of the program. -/
import Derived.Test.YtgebfcmkcggdmaaFlP
import Derived.Test.YtgebfcmkcggdmaaInb
namespace Go.Proofs.Ytgebfcmkcggdmaa
open Go.ChangeShapes Go.WideShapes Go.ChangeAt Go.RowKit Go.Sort
set_option linter.unusedVariables false
set_option linter.unusedSimpArgs false

abbrev Prt.z : Prt := ⟨0, 0, 0⟩
/-- where the part before the i-th ends -/
def pEnd (l : List Prt) : Nat → Int
  | 0 => 0
  | i + 1 => (l.getD i Prt.z).hi
def pStep (l : List Prt) (i : Nat) : Prop := (l.getD i Prt.z).lo = pEnd l i ∧ (l.getD i Prt.z).lo < (l.getD i Prt.z).hi ∧ 0 ≤ (l.getD i Prt.z).owner ∧ (l.getD i Prt.z).owner ≤ 3
def PartsOk (l : List Prt) : Prop := 1 ≤ l.length ∧ l.length ≤ 16 ∧ pEnd l l.length = 1000 ∧ ∀ i, i < l.length → pStep l i
instance (l : List Prt) (i : Nat) : Decidable (pStep l i) := inferInstanceAs (Decidable (_ ∧ _))
instance (l : List Prt) : Decidable (PartsOk l) := inferInstanceAs (Decidable (_ ∧ _))
def partsOk (l : List Prt) : Bool := decide (PartsOk l)

theorem pEnd_up {l : List Prt} (h : ∀ i, i < l.length → pStep l i) : ∀ k, k ≤ l.length → ∀ j, j ≤ k → pEnd l j ≤ pEnd l k
  | 0, _, j, hj => by obtain rfl : j = 0 := by omega
                      exact Int.le_refl _
  | k + 1, hk, j, hj => by
    by_cases he : j = k + 1
    · subst he; exact Int.le_refl _
    · have := pEnd_up h k (by omega) j (by omega)
      obtain ⟨h1, h2, _⟩ := h k (by omega)
      show _ ≤ (l.getD k Prt.z).hi
      omega
/-- of parts that are right each part lies where keys lie -/
theorem PartsOk.at {l : List Prt} (h : PartsOk l) {k : Nat} (hk : k < l.length) : 0 ≤ l[k].lo ∧ l[k].lo < l[k].hi ∧ l[k].hi ≤ 1000 ∧ 0 ≤ l[k].owner ∧ l[k].owner ≤ 3 ∧ l[k].lo = pEnd l k := by
  obtain ⟨h1, h2, h3, h4⟩ := h
  obtain ⟨p1, p2, p3, p4⟩ := h4 k hk
  have e : l.getD k Prt.z = l[k] := by simp [hk]
  have u1 := pEnd_up h4 k (by omega) 0 (by omega)
  have u2 := pEnd_up h4 l.length (by omega) (k + 1) (by omega)
  rw [e] at p1 p2 p3 p4
  have u3 : pEnd l (k + 1) = l[k].hi := by show (l.getD k Prt.z).hi = _; rw [e]
  have u4 : pEnd l 0 = 0 := rfl
  refine ⟨?_, ?_, ?_, ?_, ?_, ?_⟩ <;> omega

theorem pEnd_next {l : List Prt} {k : Nat} (hk : k < l.length) : pEnd l (k + 1) = l[k].hi := by show (l.getD k Prt.z).hi = _; simp [hk]
theorem pStep_iff {l : List Prt} {k : Nat} (hk : k < l.length) : pStep l k ↔ l[k].lo = pEnd l k ∧ l[k].lo < l[k].hi ∧ 0 ≤ l[k].owner ∧ l[k].owner ≤ 3 := by simp [pStep, hk]
theorem partsOk_no {l : List Prt} {k : Nat} (hk : k < l.length) (h : ¬ pStep l k) : false = partsOk l := (decide_eq_false fun hp => h (hp.2.2.2 k hk)).symm
theorem pTo_next {l : List Prt} {k : Nat} (h : ∀ j, j < k → pStep l j) (hs : pStep l k) : ∀ j, j < k + 1 → pStep l j := fun j hj => by
  by_cases he : j = k
  · rw [he]; exact hs
  · exact h j (by omega)

theorem c_isGroup (x : Int) (w : World) : Calls Try.prog 21 #[.int .i64 x] w fun e w' => e = .returned (.bool (inB x 0 3)) ∧ Ext w w' := by
  go_enter Try.func21, Try.ntmps21
  go_wp2_with (go_at_call 23; refine (c_from _ _ _ _).mono ?_; rintro e w1 ⟨rfl, hx⟩)
  go_ret
  exact ⟨rfl, hx⟩

set_option maxRecDepth 100000 in
set_option maxHeartbeats 4000000 in
theorem c_iPartsOk (A : Option Addr) (c : Nat) (l : List Prt) (w : World) (ha : Rd Prt.enc 3 w A c l) (hn : l.length ≤ 1099511627776) :
    Calls Try.prog 11 #[.slice A l.length c] w fun e w' => e = .returned (.bool (partsOk l)) ∧ Ext w w' := by
  go_enter Try.func11, Try.ntmps11
  go_wp2
  go_loopw [3, 8] (fun e i wr => ∃ k : Nat, k ≤ l.length ∧ e = .int .i64 (pEnd l k) ∧ i = .int .i64 k ∧ (∀ j, j < k → pStep l j) ∧ Ext w wr) (fun _ i _ => l.length - (intOf i).toNat)
  case atStart => exact ⟨0, Nat.zero_le _, rfl, rfl, fun j hj => absurd hj (by omega), ext_refl _⟩
  case round =>
    obtain ⟨k, hk, rfl, rfl, ht, hx0⟩ := hrel
    have HT := Lib.hid ht
    clear ht
    by_cases hlt : k < l.length
    · obtain ⟨ab, ao, rfl, hab, a0, a1, a2⟩ := (ha.keep hx0).atPrt hlt
      have hab1 : ¬ ab = wr.heap.size := by omega
      have hab2 : ab < wr.heap.size + 1 := by omega
      obtain ⟨E, hE⟩ : ∃ E, pEnd l k = E := ⟨_, rfl⟩
      rw [hE]
      have HE := Lib.hid hE
      clear hE
      go_wp2_with (go_at_call 21; refine (c_isGroup _ _).mono ?_; rintro e w1 ⟨rfl, hx⟩; obtain ⟨hc1, hf1, hs1⟩ := hx.rules; (try simp at hs1); have z0 : wr.heap.size < w1.heap.size := (by omega))
      all_goals first
        | (go_ret; refine ⟨ret_bool ?_, ?_⟩)
        | (go_roundw)
      case rel =>
        exact ⟨k + 1, by omega, by rw [pEnd_next hlt], by go_num, pTo_next HT.out ((pStep_iff hlt).2 (by rw [HE.out]; (try simp only [inB, Bool.and_eq_true, Bool.or_eq_true, Bool.not_eq_true, Bool.not_eq_true', Bool.not_eq_false', Bool.not_eq_false, Bool.not_not, beq_iff_eq, bne_iff_ne, ne_eq, beq_eq_false_iff_ne, bne_eq_false_iff_eq, decide_eq_true_eq, decide_eq_false_iff_not, Bool.and_eq_false_imp, Bool.false_eq_true, reduceCtorEq, iff_true, iff_false, true_iff, false_iff, not_and, not_or] at *) <;> omega)), by (repeat (first | with_reducible exact ext_refl _ | with_reducible refine ext_to ?_ _ | with_reducible refine ext_set ?_ (by first | (simp; done) | (simp; omega) | omega) _ | with_reducible refine ext_drew ?_ | with_reducible refine Ext.trans ?_ (by assumption)))⟩
      case measure => simp [intOf] <;> omega
      all_goals first
        | (refine partsOk_no hlt (fun hp => ?_); rw [pStep_iff hlt, HE.out] at hp; (try simp only [inB, Bool.and_eq_true, Bool.or_eq_true, Bool.not_eq_true, Bool.not_eq_true', Bool.not_eq_false', Bool.not_eq_false, Bool.not_not, beq_iff_eq, bne_iff_ne, ne_eq, beq_eq_false_iff_ne, bne_eq_false_iff_eq, decide_eq_true_eq, decide_eq_false_iff_not, Bool.and_eq_false_imp, Bool.false_eq_true, reduceCtorEq, iff_true, iff_false, true_iff, false_iff, not_and, not_or] at *) <;> omega)
        | (repeat (first | with_reducible exact ext_refl _ | with_reducible refine ext_to ?_ _ | with_reducible refine ext_set ?_ (by first | (simp; done) | (simp; omega) | omega) _ | with_reducible refine ext_drew ?_ | with_reducible refine Ext.trans ?_ (by assumption)))
    · have hkl : k = l.length := by omega
      subst hkl
      go_wp2_with (go_at_call 23; refine (c_from _ _ _ _).mono ?_; rintro e w1 ⟨rfl, hx⟩; obtain ⟨hc1, hf1, hs1⟩ := hx.rules; (try simp at hs1))
      all_goals
        go_ret
        refine ⟨?_, by (repeat (first | with_reducible exact ext_refl _ | with_reducible refine ext_to ?_ _ | with_reducible refine ext_set ?_ (by first | (simp; done) | (simp; omega) | omega) _ | with_reducible refine ext_drew ?_ | with_reducible refine Ext.trans ?_ (by assumption)))⟩
        refine ret_bool ?_
        have ht := HT.out
        unfold partsOk
        rw [Bool.eq_iff_iff]
        simp only [inB, Bool.and_eq_true, Bool.or_eq_true, Bool.not_eq_true, Bool.not_eq_true', Bool.not_eq_false', Bool.not_eq_false, Bool.not_not, beq_iff_eq, bne_iff_ne, ne_eq, beq_eq_false_iff_ne, bne_eq_false_iff_eq, decide_eq_true_eq, decide_eq_false_iff_not, Bool.and_eq_false_imp, Bool.false_eq_true, reduceCtorEq, iff_true, iff_false, true_iff, false_iff, not_and, not_or] at *
        unfold PartsOk
        first
          | (constructor
             · intro h; exact ⟨by omega, by omega, by omega, ht⟩
             · rintro ⟨h1, h2, h3, h4⟩; omega)
          | (rintro ⟨h1, h2, h3, h4⟩; omega)
          | (intro h; omega)

theorem inB_iff (x a b : Int) : inB x a b = true ↔ a ≤ x ∧ x ≤ b := by simp [inB]
theorem inB_false (x a b : Int) : inB x a b = false ↔ ¬ (a ≤ x ∧ x ≤ b) := by rw [← inB_iff]; simp
theorem partsOk_bad {l : List Prt} {k : Nat} (hk : k < l.length) (h : ¬ (0 ≤ l[k].lo ∧ l[k].lo < l[k].hi ∧ l[k].hi ≤ 1000 ∧ 0 ≤ l[k].owner ∧ l[k].owner ≤ 3 ∧ l[k].lo = pEnd l k)) : partsOk l = false := decide_eq_false fun hp => h (hp.at hk)

theorem partsOk_last {l : List Prt} {m : Nat} (hm : l.length = m + 1) (h : ¬ l[m].hi = 1000) : partsOk l = false := decide_eq_false fun hp => h (by have := hp.2.2.1; rw [hm, pEnd_next (by omega)] at this; exact this)
set_option maxRecDepth 100000 in
set_option maxHeartbeats 8000000 in
theorem c_sPartsOk (A : Option Addr) (c : Nat) (l : List Prt) (w : World) (ha : Rd Prt.enc 3 w A c l) (hn : l.length ≤ 1099511627776) :
    Calls Try.prog 10 #[.slice A l.length c] w fun e w' => e = .returned (.bool (partsOk l)) ∧ Ext w w' := by
  by_cases h16 : 1 ≤ l.length ∧ l.length ≤ 16
  · obtain ⟨m, hm⟩ : ∃ m, l.length = m + 1 := ⟨l.length - 1, by omega⟩
    have hin : inB ((m : Int) + 1) 1 16 = true := by rw [inB_iff]; omega
    have hin' : inB ((m + 1 : Nat) : Int) 1 16 = true := by rw [inB_iff]; omega
    have hlt0 : 0 < l.length := by omega
    have hltm : m < l.length := by omega
    obtain ⟨ab, ao, rfl, hab, a0, a1, a2⟩ := ha.atPrt hlt0
    obtain ⟨_, _, e1, _, b0, b1, b2⟩ := ha.atPrt hltm
    obtain ⟨rfl, rfl⟩ : ab = _ ∧ ao = _ := by simpa using e1
    clear e1
    simp only [Nat.zero_mul, Nat.add_zero] at a0 a1 a2
    rw [hm]
    go_enter Try.func10, Try.ntmps10
    go_wp2_with (go_at_call 22; refine (c_l1In _ _ _ _).mono ?_; rintro e w1 ⟨rfl, hx⟩; obtain ⟨hc1, hf1, hs1⟩ := hx.rules; (try simp at hs1))
    · go_ret
      rename_i g0 g1
      exact ⟨ret_bool (partsOk_last hm (by simpa using g1)).symm, by (repeat (first | with_reducible exact ext_refl _ | with_reducible refine ext_to ?_ _ | with_reducible refine ext_set ?_ (by first | (simp; done) | (simp; omega) | omega) _ | with_reducible refine ext_drew ?_ | with_reducible refine Ext.trans ?_ (by assumption)))⟩
    rotate_left
    · go_ret
      rename_i g0
      exact ⟨ret_bool (partsOk_bad hlt0 (fun h => g0 h.2.2.2.2.2)).symm, by (repeat (first | with_reducible exact ext_refl _ | with_reducible refine ext_to ?_ _ | with_reducible refine ext_set ?_ (by first | (simp; done) | (simp; omega) | omega) _ | with_reducible refine ext_drew ?_ | with_reducible refine Ext.trans ?_ (by assumption)))⟩
    rename_i g0 g1 K0 ka
    have G0 := Lib.hid g0
    have G1 := Lib.hid g1
    clear g0 g1
    go_loopw [4] (fun i wr => ∃ k : Nat, k ≤ m + 1 ∧ i = .int .i64 k ∧ (∀ j, j < k → pStep l j) ∧ Ext w wr) (fun i _ => m + 1 - (intOf i).toNat)
    case atStart => exact ⟨0, Nat.zero_le _, rfl, fun j hj => absurd hj (by omega), by (repeat (first | with_reducible exact ext_refl _ | with_reducible refine ext_to ?_ _ | with_reducible refine ext_set ?_ (by first | (simp; done) | (simp; omega) | omega) _ | with_reducible refine ext_drew ?_ | with_reducible refine Ext.trans ?_ (by assumption)))⟩
    case round =>
      obtain ⟨k, hk, rfl, ht, hx0⟩ := hrel
      have HT := Lib.hid ht
      clear ht
      by_cases hlt : k < m + 1
      · have hltl : k < l.length := by omega
        obtain ⟨_, _, e1, hab', d0, d1, d2⟩ := (ha.keep hx0).atPrt hltl
        obtain ⟨rfl, rfl⟩ : ab = _ ∧ ao = _ := by simpa using e1
        clear e1
        have hab1 : ¬ ab = wr.heap.size := by omega
        have hab2 : ab < wr.heap.size + 1 := by omega
        by_cases q1 : l[k].hi ≤ l[k].lo
        · have HN := Lib.hid (partsOk_bad hltl (fun h => by omega))
          (go_wp2; (refine wp_region_mix' (fun _ _ _ _ _ hq => hq) 36 (by kernel_rfl) (by kernel_rfl) (fun hg => ?_); simp only [headOps, List.take_succ_cons, List.take_zero, List.filter_cons, List.filter_nil, isAlloc, Bool.not_false, Bool.false_eq_true, if_true, if_false, List.append_nil, List.drop_succ_cons, List.drop_zero]); (repeat (first | (refine wpMix_plain rfl rfl ?_; go_big_quiet_step (fail); refine wpQuiet_nil ?_) | (refine wpMix_skip rfl rfl ?_; simp only [Act.put, List.setIfInBounds_toArray, List.set_cons_zero, List.set_cons_succ]) | (refine wpMix_det rfl rfl rfl (enters Try.func22 (by kernel_rfl) rfl) (fun W hW => c_l1In _ _ _ W) rfl ?_; simp only [Act.put, List.setIfInBounds_toArray, List.set_cons_zero, List.set_cons_succ]))); (refine wpMix_nil ?_; intro w2 hw2); go_wp2; go_ret; exact ⟨ret_bool (by rw [HN.out]), Ext.trans (ext_to hx0 _) hw2⟩)
        have q1' : decide (l[k].hi ≤ l[k].lo) = false := by simpa using q1
        clear q1
        by_cases q2 : l[k].lo < 0
        · have HN := Lib.hid (partsOk_bad hltl (fun h => by omega))
          (go_wp2; (refine wp_region_mix' (fun _ _ _ _ _ hq => hq) 36 (by kernel_rfl) (by kernel_rfl) (fun hg => ?_); simp only [headOps, List.take_succ_cons, List.take_zero, List.filter_cons, List.filter_nil, isAlloc, Bool.not_false, Bool.false_eq_true, if_true, if_false, List.append_nil, List.drop_succ_cons, List.drop_zero]); (repeat (first | (refine wpMix_plain rfl rfl ?_; go_big_quiet_step (fail); refine wpQuiet_nil ?_) | (refine wpMix_skip rfl rfl ?_; simp only [Act.put, List.setIfInBounds_toArray, List.set_cons_zero, List.set_cons_succ]) | (refine wpMix_det rfl rfl rfl (enters Try.func22 (by kernel_rfl) rfl) (fun W hW => c_l1In _ _ _ W) rfl ?_; simp only [Act.put, List.setIfInBounds_toArray, List.set_cons_zero, List.set_cons_succ]))); (refine wpMix_nil ?_; intro w2 hw2); go_wp2; go_ret; exact ⟨ret_bool (by rw [HN.out]), Ext.trans (ext_to hx0 _) hw2⟩)
        have q2' : decide (l[k].lo < 0) = false := by simpa using q2
        clear q2
        by_cases q3 : 1000 < l[k].hi
        · have HN := Lib.hid (partsOk_bad hltl (fun h => by omega))
          (go_wp2; (refine wp_region_mix' (fun _ _ _ _ _ hq => hq) 36 (by kernel_rfl) (by kernel_rfl) (fun hg => ?_); simp only [headOps, List.take_succ_cons, List.take_zero, List.filter_cons, List.filter_nil, isAlloc, Bool.not_false, Bool.false_eq_true, if_true, if_false, List.append_nil, List.drop_succ_cons, List.drop_zero]); (repeat (first | (refine wpMix_plain rfl rfl ?_; go_big_quiet_step (fail); refine wpQuiet_nil ?_) | (refine wpMix_skip rfl rfl ?_; simp only [Act.put, List.setIfInBounds_toArray, List.set_cons_zero, List.set_cons_succ]) | (refine wpMix_det rfl rfl rfl (enters Try.func22 (by kernel_rfl) rfl) (fun W hW => c_l1In _ _ _ W) rfl ?_; simp only [Act.put, List.setIfInBounds_toArray, List.set_cons_zero, List.set_cons_succ]))); (refine wpMix_nil ?_; intro w2 hw2); go_wp2; go_ret; exact ⟨ret_bool (by rw [HN.out]), Ext.trans (ext_to hx0 _) hw2⟩)
        have q3' : decide (1000 < l[k].hi) = false := by simpa using q3
        clear q3
        cases q4 : inB l[k].owner 0 3
        · have HN := Lib.hid (partsOk_bad hltl (fun h => by rw [inB_false] at q4; omega))
          (go_wp2; (refine wp_region_mix' (fun _ _ _ _ _ hq => hq) 36 (by kernel_rfl) (by kernel_rfl) (fun hg => ?_); simp only [headOps, List.take_succ_cons, List.take_zero, List.filter_cons, List.filter_nil, isAlloc, Bool.not_false, Bool.false_eq_true, if_true, if_false, List.append_nil, List.drop_succ_cons, List.drop_zero]); (repeat (first | (refine wpMix_plain rfl rfl ?_; go_big_quiet_step (fail); refine wpQuiet_nil ?_) | (refine wpMix_skip rfl rfl ?_; simp only [Act.put, List.setIfInBounds_toArray, List.set_cons_zero, List.set_cons_succ]) | (refine wpMix_det rfl rfl rfl (enters Try.func22 (by kernel_rfl) rfl) (fun W hW => c_l1In _ _ _ W) rfl ?_; simp only [Act.put, List.setIfInBounds_toArray, List.set_cons_zero, List.set_cons_succ]))); (refine wpMix_nil ?_; intro w2 hw2); go_wp2; go_ret; exact ⟨ret_bool (by rw [HN.out]), Ext.trans (ext_to hx0 _) hw2⟩)
        match k, hk, hlt, hltl, HT, d0, d1, d2, q1', q2', q3', q4 with
        | 0, hk, hlt, hltl, HT, d0, d1, d2, q1', q2', q3', q4 =>
          have HS := Lib.hid ((pStep_iff hltl).2 (by rw [inB_iff] at q4; simp only [decide_eq_false_iff_not] at q1'; exact ⟨G0.out, by omega, q4.1, q4.2⟩))
          simp only [Nat.zero_mul, Nat.add_zero] at d0 d1 d2
          (go_wp2; (refine wp_region_mix' (fun _ _ _ _ _ hq => hq) 36 (by kernel_rfl) (by kernel_rfl) (fun hg => ?_); simp only [headOps, List.take_succ_cons, List.take_zero, List.filter_cons, List.filter_nil, isAlloc, Bool.not_false, Bool.false_eq_true, if_true, if_false, List.append_nil, List.drop_succ_cons, List.drop_zero]); (repeat (first | (refine wpMix_plain rfl rfl ?_; go_big_quiet_step (fail); refine wpQuiet_nil ?_) | (refine wpMix_skip rfl rfl ?_; simp only [Act.put, List.setIfInBounds_toArray, List.set_cons_zero, List.set_cons_succ]) | (refine wpMix_det rfl rfl rfl (enters Try.func22 (by kernel_rfl) rfl) (fun W hW => c_l1In _ _ _ W) rfl ?_; simp only [Act.put, List.setIfInBounds_toArray, List.set_cons_zero, List.set_cons_succ]))); (refine wpMix_nil ?_; intro w2 hw2); go_wp2; go_roundw)
          case rel => exact ⟨1, by omega, by go_num, pTo_next HT.out HS.out, Ext.trans (ext_to hx0 _) hw2⟩
          case measure => simp [intOf] <;> omega
        | j + 1, hk, hlt, hltl, HT, d0, d1, d2, q1', q2', q3', q4 =>
          obtain ⟨_, _, e1, _, f0, f1, f2⟩ := (ha.keep hx0).atPrt (show j < l.length by omega)
          obtain ⟨rfl, rfl⟩ : ab = _ ∧ ao = _ := by simpa using e1
          clear e1
          cases q5 : l[j].hi != l[j + 1].lo
          · have HS := Lib.hid ((pStep_iff hltl).2 (by rw [inB_iff] at q4; rw [pEnd_next (by omega)]; simp only [decide_eq_false_iff_not] at q1'; simp at q5; exact ⟨q5.symm, by omega, q4⟩))
            (go_wp2; (refine wp_region_mix' (fun _ _ _ _ _ hq => hq) 36 (by kernel_rfl) (by kernel_rfl) (fun hg => ?_); simp only [headOps, List.take_succ_cons, List.take_zero, List.filter_cons, List.filter_nil, isAlloc, Bool.not_false, Bool.false_eq_true, if_true, if_false, List.append_nil, List.drop_succ_cons, List.drop_zero]); (repeat (first | (refine wpMix_plain rfl rfl ?_; go_big_quiet_step (fail); refine wpQuiet_nil ?_) | (refine wpMix_skip rfl rfl ?_; simp only [Act.put, List.setIfInBounds_toArray, List.set_cons_zero, List.set_cons_succ]) | (refine wpMix_det rfl rfl rfl (enters Try.func22 (by kernel_rfl) rfl) (fun W hW => c_l1In _ _ _ W) rfl ?_; simp only [Act.put, List.setIfInBounds_toArray, List.set_cons_zero, List.set_cons_succ]))); (refine wpMix_nil ?_; intro w2 hw2); go_wp2; go_roundw)
            case rel => exact ⟨j + 1 + 1, by omega, by go_num, pTo_next HT.out HS.out, Ext.trans (ext_to hx0 _) hw2⟩
            case measure => simp [intOf] <;> omega
          · have HN := Lib.hid (partsOk_bad hltl (fun h => by rw [pEnd_next (show j < l.length by omega)] at h; simp at q5; omega))
            (go_wp2; (refine wp_region_mix' (fun _ _ _ _ _ hq => hq) 36 (by kernel_rfl) (by kernel_rfl) (fun hg => ?_); simp only [headOps, List.take_succ_cons, List.take_zero, List.filter_cons, List.filter_nil, isAlloc, Bool.not_false, Bool.false_eq_true, if_true, if_false, List.append_nil, List.drop_succ_cons, List.drop_zero]); (repeat (first | (refine wpMix_plain rfl rfl ?_; go_big_quiet_step (fail); refine wpQuiet_nil ?_) | (refine wpMix_skip rfl rfl ?_; simp only [Act.put, List.setIfInBounds_toArray, List.set_cons_zero, List.set_cons_succ]) | (refine wpMix_det rfl rfl rfl (enters Try.func22 (by kernel_rfl) rfl) (fun W hW => c_l1In _ _ _ W) rfl ?_; simp only [Act.put, List.setIfInBounds_toArray, List.set_cons_zero, List.set_cons_succ]))); (refine wpMix_nil ?_; intro w2 hw2); go_wp2; go_ret; exact ⟨ret_bool (by rw [HN.out]), Ext.trans (ext_to hx0 _) hw2⟩)
      · have hkl : k = l.length := by omega
        have HP : partsOk l = true := decide_eq_true ⟨h16.1, h16.2, by rw [hm, pEnd_next hltm]; simpa using G1.out, by rw [← hkl]; exact HT.out⟩
        go_wp2
        go_ret
        exact ⟨ret_bool HP.symm, hx0⟩
  · have hin : inB (l.length : Int) 1 16 = false := by rw [inB_false]; omega
    go_enter Try.func10, Try.ntmps10
    go_wp2_with (go_at_call 22; refine (c_l1In _ _ _ _).mono ?_; rintro e w1 ⟨rfl, hx⟩; obtain ⟨hc1, hf1, hs1⟩ := hx.rules; (try simp at hs1))
    go_ret
    exact ⟨ret_bool (decide_eq_false fun h => h16 ⟨h.1, h.2.1⟩).symm, by (repeat (first | with_reducible exact ext_refl _ | with_reducible refine ext_to ?_ _ | with_reducible refine ext_set ?_ (by first | (simp; done) | (simp; omega) | omega) _ | with_reducible refine ext_drew ?_ | with_reducible refine Ext.trans ?_ (by assumption)))⟩
end Go.Proofs.Ytgebfcmkcggdmaa
