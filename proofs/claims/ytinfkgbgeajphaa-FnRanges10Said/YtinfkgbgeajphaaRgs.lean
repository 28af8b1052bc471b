/- RangesOk of the reference and of the program. -/
import Derived.Test.YtinfkgbgeajphaaFlR
namespace Go.Proofs.Ytinfkgbgeajphaa
open Go.ChangeShapes Go.WideShapes Go.ChangeAt Go.RowKit Go.Sort
set_option linter.unusedVariables false

def stepOk (l : List Rng) (i : Nat) : Bool := (l.getD i ⟨0, 0⟩).ok && (decide (i = 0) || decide ((l.getD (i - 1) ⟨0, 0⟩).hi ≤ (l.getD i ⟨0, 0⟩).lo))
def okTo (l : List Rng) (k : Nat) : Bool := (List.range k).all (stepOk l)
def rangesOk (l : List Rng) : Bool := decide (l.length ≤ 16) && okTo l l.length

theorem okTo_succ (l : List Rng) (k : Nat) : okTo l (k + 1) = (okTo l k && stepOk l k) := by simp [okTo, List.range_succ, List.all_append]
theorem okTo_bad {l : List Rng} {k n : Nat} (hk : k < n) (h : stepOk l k = false) : okTo l n = false := by
  unfold okTo
  rw [List.all_eq_false]
  exact ⟨k, List.mem_range.2 hk, by rw [h]; simp⟩
theorem rangesOk_bad {l : List Rng} {k : Nat} (hk : k < l.length) (h : stepOk l k = false) : rangesOk l = false := by unfold rangesOk; rw [okTo_bad hk h]; simp
theorem step_no {l : List Rng} {k : Nat} (hk : k < l.length) (h : Rng.ok ⟨l[k].lo, l[k].hi⟩ = false) : stepOk l k = false := by
  have h' : l[k].ok = false := h
  simp [stepOk, hk, h']
theorem step_zero {l : List Rng} (hk : 0 < l.length) (h : Rng.ok ⟨l[0].lo, l[0].hi⟩ = true) : stepOk l 0 = true := by
  have h' : l[0].ok = true := h
  simp [stepOk, hk, h']
theorem step_less {l : List Rng} {j : Nat} (hk : j + 1 < l.length) (h : l[j + 1].lo < l[j].hi) : stepOk l (j + 1) = false := by
  simp [stepOk, hk, show j < l.length by omega]; intro _; omega
theorem step_yes {l : List Rng} {j : Nat} (hk : j + 1 < l.length) (h0 : Rng.ok ⟨l[j + 1].lo, l[j + 1].hi⟩ = true) (h : ¬ l[j + 1].lo < l[j].hi) : stepOk l (j + 1) = true := by
  have h' : l[j + 1].ok = true := h0
  simp [stepOk, hk, show j < l.length by omega, h']; omega

set_option maxHeartbeats 2000000 in
theorem c_sRangesOk (A : Option Addr) (c : Nat) (l : List Rng) (w : World) (ha : Rd Rng.enc 2 w A c l) (hn : l.length ≤ 1099511627776) :
    Calls Try.prog 28 #[.slice A l.length c] w fun e w' => e = .returned (.bool (rangesOk l)) ∧ Ext w w' := by
  by_cases h16 : l.length ≤ 16
  · have h16' : decide ((16 : Int) < (l.length : Int)) = false := by simp; omega
    go_enter Try.func28, Try.ntmps28
    go_wp2
    go_loopw [3] (fun i wr => ∃ k : Nat, k ≤ l.length ∧ i = .int .i64 k ∧ okTo l k = true ∧ Ext w wr) (fun i _ => l.length - (intOf i).toNat)
    case atStart => exact ⟨0, Nat.zero_le _, rfl, rfl, ext_refl _⟩
    case round =>
      obtain ⟨k, hk, rfl, ht, hx⟩ := hrel
      have HT := Lib.hid ht
      clear ht
      by_cases hlt : k < l.length
      · obtain ⟨ab, ao, rfl, hab, a0, a1⟩ := (ha.keep hx).atRng hlt
        cases hok : Rng.ok ⟨l[k].lo, l[k].hi⟩
        · have HN := Lib.hid (rangesOk_bad hlt (step_no hlt hok))
          go_wp2
          (refine wp_region_mix' (fun _ _ _ _ _ hq => hq) 24 (by kernel_rfl) (by kernel_rfl) (fun hg => ?_); simp only [headOps, List.take_succ_cons, List.take_zero, List.filter_cons, List.filter_nil, isAlloc, Bool.not_false, Bool.false_eq_true, if_true, if_false, List.append_nil, List.drop_succ_cons, List.drop_zero])
          (repeat (refine wpMix_plain rfl rfl ?_; go_big_quiet_step (fail); refine wpQuiet_nil ?_))
          (refine wpMix_det rfl rfl rfl (enters Try.func19 (by kernel_rfl) rfl) (fun W hW => c_sRangeOk _ _ W) rfl ?_; simp only [Act.put, List.setIfInBounds_toArray, List.set_cons_zero, List.set_cons_succ])
          (repeat (refine wpMix_plain rfl rfl ?_; go_big_quiet_step (fail); refine wpQuiet_nil ?_))
          (refine wpMix_nil ?_; intro w2 hw2)
          go_wp2
          go_ret
          exact ⟨ret_bool (by rw [HN.out]), Ext.trans hx hw2⟩
        · match k, hk, hlt, HT, a0, a1, hok with
          | 0, hk, hlt, HT, a0, a1, hok =>
            have HS := Lib.hid (step_zero hlt hok)
            simp only [Nat.zero_mul, Nat.add_zero] at a0 a1
            go_wp2
            (refine wp_region_mix' (fun _ _ _ _ _ hq => hq) 24 (by kernel_rfl) (by kernel_rfl) (fun hg => ?_); simp only [headOps, List.take_succ_cons, List.take_zero, List.filter_cons, List.filter_nil, isAlloc, Bool.not_false, Bool.false_eq_true, if_true, if_false, List.append_nil, List.drop_succ_cons, List.drop_zero])
            (repeat (refine wpMix_plain rfl rfl ?_; go_big_quiet_step (fail); refine wpQuiet_nil ?_))
            (refine wpMix_det rfl rfl rfl (enters Try.func19 (by kernel_rfl) rfl) (fun W hW => c_sRangeOk _ _ W) rfl ?_; simp only [Act.put, List.setIfInBounds_toArray, List.set_cons_zero, List.set_cons_succ])
            (repeat (refine wpMix_plain rfl rfl ?_; go_big_quiet_step (fail); refine wpQuiet_nil ?_))
            (refine wpMix_nil ?_; intro w2 hw2)
            go_wp2
            go_roundw
            case rel => exact ⟨1, by omega, by go_num, by rw [okTo_succ, HT.out, HS.out]; rfl, Ext.trans hx hw2⟩
            case measure => simp [intOf]; omega
          | j + 1, hk, hlt, HT, a0, a1, hok =>
            obtain ⟨_, _, e1, _, b0, b1⟩ := (ha.keep hx).atRng (show j < l.length by omega)
            obtain ⟨rfl, rfl⟩ : ab = _ ∧ ao = _ := by simpa using e1
            clear e1
            by_cases hless : l[j + 1].lo < l[j].hi
            · have HN := Lib.hid (rangesOk_bad hlt (step_less hlt hless))
              go_wp2
              (refine wp_region_mix' (fun _ _ _ _ _ hq => hq) 24 (by kernel_rfl) (by kernel_rfl) (fun hg => ?_); simp only [headOps, List.take_succ_cons, List.take_zero, List.filter_cons, List.filter_nil, isAlloc, Bool.not_false, Bool.false_eq_true, if_true, if_false, List.append_nil, List.drop_succ_cons, List.drop_zero])
              (repeat (refine wpMix_plain rfl rfl ?_; go_big_quiet_step (fail); refine wpQuiet_nil ?_))
              (refine wpMix_det rfl rfl rfl (enters Try.func19 (by kernel_rfl) rfl) (fun W hW => c_sRangeOk _ _ W) rfl ?_; simp only [Act.put, List.setIfInBounds_toArray, List.set_cons_zero, List.set_cons_succ])
              (repeat (refine wpMix_plain rfl rfl ?_; go_big_quiet_step (fail); refine wpQuiet_nil ?_))
              (refine wpMix_nil ?_; intro w2 hw2)
              go_wp2
              go_ret
              exact ⟨ret_bool (by rw [HN.out]), Ext.trans hx hw2⟩
            · have HS := Lib.hid (step_yes hlt hok hless)
              have hless' : decide (l[j + 1].lo < l[j].hi) = false := by simpa using hless
              clear hless
              go_wp2
              (refine wp_region_mix' (fun _ _ _ _ _ hq => hq) 24 (by kernel_rfl) (by kernel_rfl) (fun hg => ?_); simp only [headOps, List.take_succ_cons, List.take_zero, List.filter_cons, List.filter_nil, isAlloc, Bool.not_false, Bool.false_eq_true, if_true, if_false, List.append_nil, List.drop_succ_cons, List.drop_zero])
              (repeat (refine wpMix_plain rfl rfl ?_; go_big_quiet_step (fail); refine wpQuiet_nil ?_))
              (refine wpMix_det rfl rfl rfl (enters Try.func19 (by kernel_rfl) rfl) (fun W hW => c_sRangeOk _ _ W) rfl ?_; simp only [Act.put, List.setIfInBounds_toArray, List.set_cons_zero, List.set_cons_succ])
              (repeat (refine wpMix_plain rfl rfl ?_; go_big_quiet_step (fail); refine wpQuiet_nil ?_))
              (refine wpMix_nil ?_; intro w2 hw2)
              go_wp2
              go_roundw
              case rel => exact ⟨j + 1 + 1, by omega, by go_num, by rw [okTo_succ, HT.out, HS.out]; rfl, Ext.trans hx hw2⟩
              case measure => simp [intOf]; omega
      · have hkl : k = l.length := by omega
        go_wp2
        go_ret
        refine ⟨ret_bool ?_, hx⟩
        unfold rangesOk
        rw [← hkl, HT.out, hkl]
        simp [h16]
  · have h16' : decide ((16 : Int) < (l.length : Int)) = true := by simp; omega
    go_enter Try.func28, Try.ntmps28
    go_wp2
    go_ret
    exact ⟨ret_bool (by simp [rangesOk, h16]), ext_refl _⟩

set_option maxHeartbeats 2000000 in
theorem c_iRangesOk (A : Option Addr) (c : Nat) (l : List Rng) (w : World) (ha : Rd Rng.enc 2 w A c l) (hn : l.length ≤ 1099511627776) :
    Calls Try.prog 30 #[.slice A l.length c] w fun e w' => e = .returned (.bool (rangesOk l)) ∧ Ext w w' := by
  go_enter Try.func30, Try.ntmps30
  go_wp2
  go_loopw [7] (fun i wr => ∃ k : Nat, k ≤ l.length ∧ i = .int .i64 k ∧ okTo l k = true ∧ Ext w wr) (fun i _ => l.length - (intOf i).toNat)
  case atStart => exact ⟨0, Nat.zero_le _, rfl, rfl, ext_refl _⟩
  case round =>
    obtain ⟨k, hk, rfl, ht, hx⟩ := hrel
    have HT := Lib.hid ht
    clear ht
    by_cases hlt : k < l.length
    · obtain ⟨ab, ao, rfl, hab, a0, a1⟩ := (ha.keep hx).atRng hlt
      have hab1 : ¬ ab = wr.heap.size := by omega
      have hab2 : ab < wr.heap.size + 1 := by omega
      cases hok : Rng.ok ⟨l[k].lo, l[k].hi⟩
      · have HN := Lib.hid (rangesOk_bad hlt (step_no hlt hok))
        go_wp2
        (refine wp_region_mix' (fun _ _ _ _ _ hq => hq) 18 (by kernel_rfl) (by kernel_rfl) (fun hg => ?_); simp only [headOps, List.take_succ_cons, List.take_zero, List.filter_cons, List.filter_nil, isAlloc, Bool.not_false, Bool.false_eq_true, if_true, if_false, List.append_nil, List.drop_succ_cons, List.drop_zero])
        (repeat (refine wpMix_plain rfl rfl ?_; go_big_quiet_step (fail); refine wpQuiet_nil ?_))
        (refine wpMix_det rfl rfl rfl (enters Try.func21 (by kernel_rfl) rfl) (fun W hW => c_iRangeOk _ _ W) rfl ?_; simp only [Act.put, List.setIfInBounds_toArray, List.set_cons_zero, List.set_cons_succ])
        (repeat (refine wpMix_plain rfl rfl ?_; go_big_quiet_step (fail); refine wpQuiet_nil ?_))
        (refine wpMix_nil ?_; intro w2 hw2)
        go_wp2
        go_ret
        exact ⟨ret_bool (by rw [HN.out]), Ext.trans (ext_to hx _) hw2⟩
      · match k, hk, hlt, HT, a0, a1, hok with
        | 0, hk, hlt, HT, a0, a1, hok =>
          have HS := Lib.hid (step_zero hlt hok)
          simp only [Nat.zero_mul, Nat.add_zero] at a0 a1
          go_wp2
          (refine wp_region_mix' (fun _ _ _ _ _ hq => hq) 18 (by kernel_rfl) (by kernel_rfl) (fun hg => ?_); simp only [headOps, List.take_succ_cons, List.take_zero, List.filter_cons, List.filter_nil, isAlloc, Bool.not_false, Bool.false_eq_true, if_true, if_false, List.append_nil, List.drop_succ_cons, List.drop_zero])
          (repeat (refine wpMix_plain rfl rfl ?_; go_big_quiet_step (fail); refine wpQuiet_nil ?_))
          (refine wpMix_det rfl rfl rfl (enters Try.func21 (by kernel_rfl) rfl) (fun W hW => c_iRangeOk _ _ W) rfl ?_; simp only [Act.put, List.setIfInBounds_toArray, List.set_cons_zero, List.set_cons_succ])
          (repeat (refine wpMix_plain rfl rfl ?_; go_big_quiet_step (fail); refine wpQuiet_nil ?_))
          (refine wpMix_nil ?_; intro w2 hw2)
          go_wp2
          go_roundw
          case rel => exact ⟨1, by omega, by go_num, by rw [okTo_succ, HT.out, HS.out]; rfl, Ext.trans (ext_to hx _) hw2⟩
          case measure => simp [intOf]; omega
        | j + 1, hk, hlt, HT, a0, a1, hok =>
          obtain ⟨_, _, e1, _, b0, b1⟩ := (ha.keep hx).atRng (show j < l.length by omega)
          obtain ⟨rfl, rfl⟩ : ab = _ ∧ ao = _ := by simpa using e1
          clear e1
          by_cases hless : l[j + 1].lo < l[j].hi
          · have HN := Lib.hid (rangesOk_bad hlt (step_less hlt hless))
            go_wp2
            (refine wp_region_mix' (fun _ _ _ _ _ hq => hq) 18 (by kernel_rfl) (by kernel_rfl) (fun hg => ?_); simp only [headOps, List.take_succ_cons, List.take_zero, List.filter_cons, List.filter_nil, isAlloc, Bool.not_false, Bool.false_eq_true, if_true, if_false, List.append_nil, List.drop_succ_cons, List.drop_zero])
            (repeat (refine wpMix_plain rfl rfl ?_; go_big_quiet_step (fail); refine wpQuiet_nil ?_))
            (refine wpMix_det rfl rfl rfl (enters Try.func21 (by kernel_rfl) rfl) (fun W hW => c_iRangeOk _ _ W) rfl ?_; simp only [Act.put, List.setIfInBounds_toArray, List.set_cons_zero, List.set_cons_succ])
            (repeat (refine wpMix_plain rfl rfl ?_; go_big_quiet_step (fail); refine wpQuiet_nil ?_))
            (refine wpMix_nil ?_; intro w2 hw2)
            go_wp2
            go_ret
            exact ⟨ret_bool (by rw [HN.out]), Ext.trans (ext_to hx _) hw2⟩
          · have HS := Lib.hid (step_yes hlt hok hless)
            have hless' : decide (l[j + 1].lo < l[j].hi) = false := by simpa using hless
            clear hless
            go_wp2
            (refine wp_region_mix' (fun _ _ _ _ _ hq => hq) 18 (by kernel_rfl) (by kernel_rfl) (fun hg => ?_); simp only [headOps, List.take_succ_cons, List.take_zero, List.filter_cons, List.filter_nil, isAlloc, Bool.not_false, Bool.false_eq_true, if_true, if_false, List.append_nil, List.drop_succ_cons, List.drop_zero])
            (repeat (refine wpMix_plain rfl rfl ?_; go_big_quiet_step (fail); refine wpQuiet_nil ?_))
            (refine wpMix_det rfl rfl rfl (enters Try.func21 (by kernel_rfl) rfl) (fun W hW => c_iRangeOk _ _ W) rfl ?_; simp only [Act.put, List.setIfInBounds_toArray, List.set_cons_zero, List.set_cons_succ])
            (repeat (refine wpMix_plain rfl rfl ?_; go_big_quiet_step (fail); refine wpQuiet_nil ?_))
            (refine wpMix_nil ?_; intro w2 hw2)
            go_wp2
            go_roundw
            case rel => exact ⟨j + 1 + 1, by omega, by go_num, by rw [okTo_succ, HT.out, HS.out]; rfl, Ext.trans (ext_to hx _) hw2⟩
            case measure => simp [intOf]; omega
    · have hkl : k = l.length := by omega
      go_wp2
      go_ret
      refine ⟨ret_bool ?_, hx⟩
      unfold rangesOk
      rw [← hkl, HT.out, hkl]
      simp
      omega
end Go.Proofs.Ytinfkgbgeajphaa
