/- WritesOk of the reference and of the program. -/
import Derived.Test.YtinfkgbgeajphaaFlW
namespace Go.Proofs.Ytinfkgbgeajphaa
open Go.ChangeShapes Go.WideShapes Go.ChangeAt Go.RowKit Go.Sort
set_option linter.unusedVariables false

def inB (x lo hi : Int) : Bool := decide (lo ≤ x) && decide (x ≤ hi)
theorem c_l1In (x lo hi : Int) (w : World) : Calls Try.prog 70 #[.int .i64 x, .int .i64 lo, .int .i64 hi] w fun e w' => e = .returned (.bool (inB x lo hi)) ∧ Ext w w' := by
  go_enter Try.func70, Try.ntmps70
  go_wp2
  all_goals
    go_ret
    exact ⟨ret_bool (by simp [inB, *] <;> omega), ext_refl _⟩
theorem c_from (x lo hi : Int) (w : World) : Calls Try.prog 78 #[.int .i64 x, .int .i64 lo, .int .i64 hi] w fun e w' => e = .returned (.bool (inB x lo hi)) ∧ Ext w w' := by
  go_enter Try.func78, Try.ntmps78
  go_wp2
  all_goals
    go_ret
    exact ⟨ret_bool (by simp [inB, *] <;> omega), ext_refl _⟩
theorem c_l10Key (x : Int) (w : World) : Calls Try.prog 69 #[.int .i64 x] w fun e w' => e = .returned (.bool (inB x 0 999)) ∧ Ext w w' := by
  go_enter Try.func69, Try.ntmps69
  go_wp2_with (go_at_call 70; refine (c_l1In _ _ _ _).mono ?_; rintro e w1 ⟨rfl, hx⟩)
  go_ret
  exact ⟨rfl, hx⟩
theorem c_isKey (x : Int) (w : World) : Calls Try.prog 72 #[.int .i64 x] w fun e w' => e = .returned (.bool (inB x 0 999)) ∧ Ext w w' := by
  go_enter Try.func72, Try.ntmps72
  go_wp2_with (go_at_call 78; refine (c_from _ _ _ _).mono ?_; rintro e w1 ⟨rfl, hx⟩)
  go_ret
  exact ⟨rfl, hx⟩
theorem c_isAnswer (x : Int) (w : World) : Calls Try.prog 73 #[.int .i64 x] w fun e w' => e = .returned (.bool (inB x (-1) 1000000000)) ∧ Ext w w' := by
  go_enter Try.func73, Try.ntmps73
  go_wp2_with (go_at_call 78; refine (c_from _ _ _ _).mono ?_; rintro e w1 ⟨rfl, hx⟩)
  go_ret
  exact ⟨rfl, hx⟩

def Wrt.ok (x : Wrt) : Bool := inB x.key 0 999 && inB x.value (-1) 1000000000
def wStep (l : List Wrt) (i : Nat) : Bool := (l.getD i ⟨0, 0⟩).ok && (decide (i = 0) || decide ((l.getD (i - 1) ⟨0, 0⟩).key < (l.getD i ⟨0, 0⟩).key))
def wTo (l : List Wrt) (k : Nat) : Bool := (List.range k).all (wStep l)
def writesOk (l : List Wrt) : Bool := decide (l.length ≤ 60) && wTo l l.length
theorem wTo_succ (l : List Wrt) (k : Nat) : wTo l (k + 1) = (wTo l k && wStep l k) := by simp [wTo, List.range_succ, List.all_append]
theorem writesOk_bad {l : List Wrt} {k : Nat} (hk : k < l.length) (h : wStep l k = false) : writesOk l = false := by
  have : wTo l l.length = false := by
    unfold wTo
    rw [List.all_eq_false]
    exact ⟨k, List.mem_range.2 hk, by rw [h]; simp⟩
  unfold writesOk; rw [this]; simp
theorem wStep_no1 {l : List Wrt} {k : Nat} (hk : k < l.length) (h : inB l[k].key 0 999 = false) : wStep l k = false := by simp [wStep, hk, Wrt.ok, h]
theorem wStep_no2 {l : List Wrt} {k : Nat} (hk : k < l.length) (h : inB l[k].value (-1) 1000000000 = false) : wStep l k = false := by simp [wStep, hk, Wrt.ok, h]
theorem wStep_zero {l : List Wrt} (hk : 0 < l.length) (h : inB l[0].key 0 999 = true) (h2 : inB l[0].value (-1) 1000000000 = true) : wStep l 0 = true := by simp [wStep, hk, Wrt.ok, h, h2]
theorem wStep_less {l : List Wrt} {j : Nat} (hk : j + 1 < l.length) (h : l[j + 1].key ≤ l[j].key) : wStep l (j + 1) = false := by
  simp [wStep, hk, show j < l.length by omega]; intro _; omega
theorem wStep_yes {l : List Wrt} {j : Nat} (hk : j + 1 < l.length) (h1 : inB l[j + 1].key 0 999 = true) (h2 : inB l[j + 1].value (-1) 1000000000 = true) (h : ¬ l[j + 1].key ≤ l[j].key) : wStep l (j + 1) = true := by
  simp [wStep, hk, show j < l.length by omega, Wrt.ok, h1, h2]; omega

set_option maxRecDepth 100000 in
set_option maxHeartbeats 2000000 in
theorem c_sWritesOk (A : Option Addr) (c : Nat) (l : List Wrt) (w : World) (ha : Rd Wrt.enc 2 w A c l) (hn : l.length ≤ 1099511627776) :
    Calls Try.prog 33 #[.slice A l.length c] w fun e w' => e = .returned (.bool (writesOk l)) ∧ Ext w w' := by
  by_cases h60 : l.length ≤ 60
  · have h60' : decide ((60 : Int) < (l.length : Int)) = false := by simp; omega
    go_enter Try.func33, Try.ntmps33
    go_wp2
    go_loopw [3] (fun i wr => ∃ k : Nat, k ≤ l.length ∧ i = .int .i64 k ∧ wTo l k = true ∧ Ext w wr) (fun i _ => l.length - (intOf i).toNat)
    case atStart => exact ⟨0, Nat.zero_le _, rfl, rfl, ext_refl _⟩
    case round =>
      obtain ⟨k, hk, rfl, ht, hx⟩ := hrel
      have HT := Lib.hid ht
      clear ht
      by_cases hlt : k < l.length
      · obtain ⟨ab, ao, rfl, hab, a0, a1⟩ := (ha.keep hx).atWrt hlt
        cases hok : inB l[k].key 0 999
        · have HN := Lib.hid (writesOk_bad hlt (wStep_no1 hlt hok))
          go_wp2
          (refine wp_region_mix' (fun _ _ _ _ _ hq => hq) 34 (by kernel_rfl) (by kernel_rfl) (fun hg => ?_); simp only [headOps, List.take_succ_cons, List.take_zero, List.filter_cons, List.filter_nil, isAlloc, Bool.not_false, Bool.false_eq_true, if_true, if_false, List.append_nil, List.drop_succ_cons, List.drop_zero])
          (repeat (first | (refine wpMix_plain rfl rfl ?_; go_big_quiet_step (fail); refine wpQuiet_nil ?_) | (refine wpMix_skip rfl rfl ?_; simp only [Act.put, List.setIfInBounds_toArray, List.set_cons_zero, List.set_cons_succ]) | (refine wpMix_det rfl rfl rfl (enters Try.func69 (by kernel_rfl) rfl) (fun W hW => c_l10Key _ W) rfl ?_; simp only [Act.put, List.setIfInBounds_toArray, List.set_cons_zero, List.set_cons_succ]) | (refine wpMix_det rfl rfl rfl (enters Try.func70 (by kernel_rfl) rfl) (fun W hW => c_l1In _ _ _ W) rfl ?_; simp only [Act.put, List.setIfInBounds_toArray, List.set_cons_zero, List.set_cons_succ])))
          (refine wpMix_nil ?_; intro w2 hw2)
          go_wp2
          go_ret
          exact ⟨ret_bool (by rw [HN.out]), Ext.trans hx hw2⟩
        cases hok2 : inB l[k].value (-1) 1000000000
        · have HN := Lib.hid (writesOk_bad hlt (wStep_no2 hlt hok2))
          go_wp2
          (refine wp_region_mix' (fun _ _ _ _ _ hq => hq) 34 (by kernel_rfl) (by kernel_rfl) (fun hg => ?_); simp only [headOps, List.take_succ_cons, List.take_zero, List.filter_cons, List.filter_nil, isAlloc, Bool.not_false, Bool.false_eq_true, if_true, if_false, List.append_nil, List.drop_succ_cons, List.drop_zero])
          (repeat (first | (refine wpMix_plain rfl rfl ?_; go_big_quiet_step (fail); refine wpQuiet_nil ?_) | (refine wpMix_skip rfl rfl ?_; simp only [Act.put, List.setIfInBounds_toArray, List.set_cons_zero, List.set_cons_succ]) | (refine wpMix_det rfl rfl rfl (enters Try.func69 (by kernel_rfl) rfl) (fun W hW => c_l10Key _ W) rfl ?_; simp only [Act.put, List.setIfInBounds_toArray, List.set_cons_zero, List.set_cons_succ]) | (refine wpMix_det rfl rfl rfl (enters Try.func70 (by kernel_rfl) rfl) (fun W hW => c_l1In _ _ _ W) rfl ?_; simp only [Act.put, List.setIfInBounds_toArray, List.set_cons_zero, List.set_cons_succ])))
          (refine wpMix_nil ?_; intro w2 hw2)
          go_wp2
          go_ret
          exact ⟨ret_bool (by rw [HN.out]), Ext.trans hx hw2⟩
        match k, hk, hlt, HT, a0, a1, hok, hok2 with
        | 0, hk, hlt, HT, a0, a1, hok, hok2 =>
          have HS := Lib.hid (wStep_zero hlt hok hok2)
          simp only [Nat.zero_mul, Nat.add_zero] at a0 a1
          go_wp2
          (refine wp_region_mix' (fun _ _ _ _ _ hq => hq) 34 (by kernel_rfl) (by kernel_rfl) (fun hg => ?_); simp only [headOps, List.take_succ_cons, List.take_zero, List.filter_cons, List.filter_nil, isAlloc, Bool.not_false, Bool.false_eq_true, if_true, if_false, List.append_nil, List.drop_succ_cons, List.drop_zero])
          (repeat (first | (refine wpMix_plain rfl rfl ?_; go_big_quiet_step (fail); refine wpQuiet_nil ?_) | (refine wpMix_skip rfl rfl ?_; simp only [Act.put, List.setIfInBounds_toArray, List.set_cons_zero, List.set_cons_succ]) | (refine wpMix_det rfl rfl rfl (enters Try.func69 (by kernel_rfl) rfl) (fun W hW => c_l10Key _ W) rfl ?_; simp only [Act.put, List.setIfInBounds_toArray, List.set_cons_zero, List.set_cons_succ]) | (refine wpMix_det rfl rfl rfl (enters Try.func70 (by kernel_rfl) rfl) (fun W hW => c_l1In _ _ _ W) rfl ?_; simp only [Act.put, List.setIfInBounds_toArray, List.set_cons_zero, List.set_cons_succ])))
          (refine wpMix_nil ?_; intro w2 hw2)
          go_wp2
          go_roundw
          case rel => exact ⟨1, by omega, by go_num, by rw [wTo_succ, HT.out, HS.out]; rfl, Ext.trans hx hw2⟩
          case measure => simp [intOf]; omega
        | j + 1, hk, hlt, HT, a0, a1, hok, hok2 =>
          obtain ⟨_, _, e1, _, b0, b1⟩ := (ha.keep hx).atWrt (show j < l.length by omega)
          obtain ⟨rfl, rfl⟩ : ab = _ ∧ ao = _ := by simpa using e1
          clear e1
          by_cases hless : l[j + 1].key ≤ l[j].key
          · have HN := Lib.hid (writesOk_bad hlt (wStep_less hlt hless))
            go_wp2
            (refine wp_region_mix' (fun _ _ _ _ _ hq => hq) 34 (by kernel_rfl) (by kernel_rfl) (fun hg => ?_); simp only [headOps, List.take_succ_cons, List.take_zero, List.filter_cons, List.filter_nil, isAlloc, Bool.not_false, Bool.false_eq_true, if_true, if_false, List.append_nil, List.drop_succ_cons, List.drop_zero])
            (repeat (first | (refine wpMix_plain rfl rfl ?_; go_big_quiet_step (fail); refine wpQuiet_nil ?_) | (refine wpMix_skip rfl rfl ?_; simp only [Act.put, List.setIfInBounds_toArray, List.set_cons_zero, List.set_cons_succ]) | (refine wpMix_det rfl rfl rfl (enters Try.func69 (by kernel_rfl) rfl) (fun W hW => c_l10Key _ W) rfl ?_; simp only [Act.put, List.setIfInBounds_toArray, List.set_cons_zero, List.set_cons_succ]) | (refine wpMix_det rfl rfl rfl (enters Try.func70 (by kernel_rfl) rfl) (fun W hW => c_l1In _ _ _ W) rfl ?_; simp only [Act.put, List.setIfInBounds_toArray, List.set_cons_zero, List.set_cons_succ])))
            (refine wpMix_nil ?_; intro w2 hw2)
            go_wp2
            go_ret
            exact ⟨ret_bool (by rw [HN.out]), Ext.trans hx hw2⟩
          · have HS := Lib.hid (wStep_yes hlt hok hok2 hless)
            have hless' : decide (l[j + 1].key ≤ l[j].key) = false := by simpa using hless
            clear hless
            go_wp2
            (refine wp_region_mix' (fun _ _ _ _ _ hq => hq) 34 (by kernel_rfl) (by kernel_rfl) (fun hg => ?_); simp only [headOps, List.take_succ_cons, List.take_zero, List.filter_cons, List.filter_nil, isAlloc, Bool.not_false, Bool.false_eq_true, if_true, if_false, List.append_nil, List.drop_succ_cons, List.drop_zero])
            (repeat (first | (refine wpMix_plain rfl rfl ?_; go_big_quiet_step (fail); refine wpQuiet_nil ?_) | (refine wpMix_skip rfl rfl ?_; simp only [Act.put, List.setIfInBounds_toArray, List.set_cons_zero, List.set_cons_succ]) | (refine wpMix_det rfl rfl rfl (enters Try.func69 (by kernel_rfl) rfl) (fun W hW => c_l10Key _ W) rfl ?_; simp only [Act.put, List.setIfInBounds_toArray, List.set_cons_zero, List.set_cons_succ]) | (refine wpMix_det rfl rfl rfl (enters Try.func70 (by kernel_rfl) rfl) (fun W hW => c_l1In _ _ _ W) rfl ?_; simp only [Act.put, List.setIfInBounds_toArray, List.set_cons_zero, List.set_cons_succ])))
            (refine wpMix_nil ?_; intro w2 hw2)
            go_wp2
            go_roundw
            case rel => exact ⟨j + 1 + 1, by omega, by go_num, by rw [wTo_succ, HT.out, HS.out]; rfl, Ext.trans hx hw2⟩
            case measure => simp [intOf]; omega
      · have hkl : k = l.length := by omega
        go_wp2
        go_ret
        refine ⟨ret_bool ?_, hx⟩
        unfold writesOk
        rw [← hkl, HT.out, hkl]
        simp [h60]
  · have h60' : decide ((60 : Int) < (l.length : Int)) = true := by simp; omega
    go_enter Try.func33, Try.ntmps33
    go_wp2
    go_ret
    exact ⟨ret_bool (by simp [writesOk, h60]), ext_refl _⟩
set_option maxRecDepth 100000 in
set_option maxHeartbeats 2000000 in
theorem c_iWritesOk (A : Option Addr) (c : Nat) (l : List Wrt) (w : World) (ha : Rd Wrt.enc 2 w A c l) (hn : l.length ≤ 1099511627776) :
    Calls Try.prog 35 #[.slice A l.length c] w fun e w' => e = .returned (.bool (writesOk l)) ∧ Ext w w' := by
  go_enter Try.func35, Try.ntmps35
  go_wp2
  go_loopw [7] (fun i wr => ∃ k : Nat, k ≤ l.length ∧ i = .int .i64 k ∧ wTo l k = true ∧ Ext w wr) (fun i _ => l.length - (intOf i).toNat)
  case atStart => exact ⟨0, Nat.zero_le _, rfl, rfl, ext_refl _⟩
  case round =>
    obtain ⟨k, hk, rfl, ht, hx⟩ := hrel
    have HT := Lib.hid ht
    clear ht
    by_cases hlt : k < l.length
    · obtain ⟨ab, ao, rfl, hab, a0, a1⟩ := (ha.keep hx).atWrt hlt
      have hab1 : ¬ ab = wr.heap.size := by omega
      have hab2 : ab < wr.heap.size + 1 := by omega
      cases hok : inB l[k].key 0 999
      · have HN := Lib.hid (writesOk_bad hlt (wStep_no1 hlt hok))
        go_wp2
        (refine wp_region_mix' (fun _ _ _ _ _ hq => hq) 25 (by kernel_rfl) (by kernel_rfl) (fun hg => ?_); simp only [headOps, List.take_succ_cons, List.take_zero, List.filter_cons, List.filter_nil, isAlloc, Bool.not_false, Bool.false_eq_true, if_true, if_false, List.append_nil, List.drop_succ_cons, List.drop_zero])
        (repeat (first | (refine wpMix_plain rfl rfl ?_; go_big_quiet_step (fail); refine wpQuiet_nil ?_) | (refine wpMix_skip rfl rfl ?_; simp only [Act.put, List.setIfInBounds_toArray, List.set_cons_zero, List.set_cons_succ]) | (refine wpMix_det rfl rfl rfl (enters Try.func72 (by kernel_rfl) rfl) (fun W hW => c_isKey _ W) rfl ?_; simp only [Act.put, List.setIfInBounds_toArray, List.set_cons_zero, List.set_cons_succ]) | (refine wpMix_det rfl rfl rfl (enters Try.func73 (by kernel_rfl) rfl) (fun W hW => c_isAnswer _ W) rfl ?_; simp only [Act.put, List.setIfInBounds_toArray, List.set_cons_zero, List.set_cons_succ])))
        (refine wpMix_nil ?_; intro w2 hw2)
        go_wp2
        go_ret
        exact ⟨ret_bool (by rw [HN.out]), Ext.trans (ext_to hx _) hw2⟩
      cases hok2 : inB l[k].value (-1) 1000000000
      · have HN := Lib.hid (writesOk_bad hlt (wStep_no2 hlt hok2))
        go_wp2
        (refine wp_region_mix' (fun _ _ _ _ _ hq => hq) 25 (by kernel_rfl) (by kernel_rfl) (fun hg => ?_); simp only [headOps, List.take_succ_cons, List.take_zero, List.filter_cons, List.filter_nil, isAlloc, Bool.not_false, Bool.false_eq_true, if_true, if_false, List.append_nil, List.drop_succ_cons, List.drop_zero])
        (repeat (first | (refine wpMix_plain rfl rfl ?_; go_big_quiet_step (fail); refine wpQuiet_nil ?_) | (refine wpMix_skip rfl rfl ?_; simp only [Act.put, List.setIfInBounds_toArray, List.set_cons_zero, List.set_cons_succ]) | (refine wpMix_det rfl rfl rfl (enters Try.func72 (by kernel_rfl) rfl) (fun W hW => c_isKey _ W) rfl ?_; simp only [Act.put, List.setIfInBounds_toArray, List.set_cons_zero, List.set_cons_succ]) | (refine wpMix_det rfl rfl rfl (enters Try.func73 (by kernel_rfl) rfl) (fun W hW => c_isAnswer _ W) rfl ?_; simp only [Act.put, List.setIfInBounds_toArray, List.set_cons_zero, List.set_cons_succ])))
        (refine wpMix_nil ?_; intro w2 hw2)
        go_wp2
        go_ret
        exact ⟨ret_bool (by rw [HN.out]), Ext.trans (ext_to hx _) hw2⟩
      match k, hk, hlt, HT, a0, a1, hok, hok2 with
      | 0, hk, hlt, HT, a0, a1, hok, hok2 =>
        have HS := Lib.hid (wStep_zero hlt hok hok2)
        simp only [Nat.zero_mul, Nat.add_zero] at a0 a1
        go_wp2
        (refine wp_region_mix' (fun _ _ _ _ _ hq => hq) 25 (by kernel_rfl) (by kernel_rfl) (fun hg => ?_); simp only [headOps, List.take_succ_cons, List.take_zero, List.filter_cons, List.filter_nil, isAlloc, Bool.not_false, Bool.false_eq_true, if_true, if_false, List.append_nil, List.drop_succ_cons, List.drop_zero])
        (repeat (first | (refine wpMix_plain rfl rfl ?_; go_big_quiet_step (fail); refine wpQuiet_nil ?_) | (refine wpMix_skip rfl rfl ?_; simp only [Act.put, List.setIfInBounds_toArray, List.set_cons_zero, List.set_cons_succ]) | (refine wpMix_det rfl rfl rfl (enters Try.func72 (by kernel_rfl) rfl) (fun W hW => c_isKey _ W) rfl ?_; simp only [Act.put, List.setIfInBounds_toArray, List.set_cons_zero, List.set_cons_succ]) | (refine wpMix_det rfl rfl rfl (enters Try.func73 (by kernel_rfl) rfl) (fun W hW => c_isAnswer _ W) rfl ?_; simp only [Act.put, List.setIfInBounds_toArray, List.set_cons_zero, List.set_cons_succ])))
        (refine wpMix_nil ?_; intro w2 hw2)
        go_wp2
        go_roundw
        case rel => exact ⟨1, by omega, by go_num, by rw [wTo_succ, HT.out, HS.out]; rfl, Ext.trans (ext_to hx _) hw2⟩
        case measure => simp [intOf]; omega
      | j + 1, hk, hlt, HT, a0, a1, hok, hok2 =>
        obtain ⟨_, _, e1, _, b0, b1⟩ := (ha.keep hx).atWrt (show j < l.length by omega)
        obtain ⟨rfl, rfl⟩ : ab = _ ∧ ao = _ := by simpa using e1
        clear e1
        by_cases hless : l[j + 1].key ≤ l[j].key
        · have HN := Lib.hid (writesOk_bad hlt (wStep_less hlt hless))
          go_wp2
          (refine wp_region_mix' (fun _ _ _ _ _ hq => hq) 25 (by kernel_rfl) (by kernel_rfl) (fun hg => ?_); simp only [headOps, List.take_succ_cons, List.take_zero, List.filter_cons, List.filter_nil, isAlloc, Bool.not_false, Bool.false_eq_true, if_true, if_false, List.append_nil, List.drop_succ_cons, List.drop_zero])
          (repeat (first | (refine wpMix_plain rfl rfl ?_; go_big_quiet_step (fail); refine wpQuiet_nil ?_) | (refine wpMix_skip rfl rfl ?_; simp only [Act.put, List.setIfInBounds_toArray, List.set_cons_zero, List.set_cons_succ]) | (refine wpMix_det rfl rfl rfl (enters Try.func72 (by kernel_rfl) rfl) (fun W hW => c_isKey _ W) rfl ?_; simp only [Act.put, List.setIfInBounds_toArray, List.set_cons_zero, List.set_cons_succ]) | (refine wpMix_det rfl rfl rfl (enters Try.func73 (by kernel_rfl) rfl) (fun W hW => c_isAnswer _ W) rfl ?_; simp only [Act.put, List.setIfInBounds_toArray, List.set_cons_zero, List.set_cons_succ])))
          (refine wpMix_nil ?_; intro w2 hw2)
          go_wp2
          go_ret
          exact ⟨ret_bool (by rw [HN.out]), Ext.trans (ext_to hx _) hw2⟩
        · have HS := Lib.hid (wStep_yes hlt hok hok2 hless)
          have hless' : decide (l[j + 1].key ≤ l[j].key) = false := by simpa using hless
          clear hless
          go_wp2
          (refine wp_region_mix' (fun _ _ _ _ _ hq => hq) 25 (by kernel_rfl) (by kernel_rfl) (fun hg => ?_); simp only [headOps, List.take_succ_cons, List.take_zero, List.filter_cons, List.filter_nil, isAlloc, Bool.not_false, Bool.false_eq_true, if_true, if_false, List.append_nil, List.drop_succ_cons, List.drop_zero])
          (repeat (first | (refine wpMix_plain rfl rfl ?_; go_big_quiet_step (fail); refine wpQuiet_nil ?_) | (refine wpMix_skip rfl rfl ?_; simp only [Act.put, List.setIfInBounds_toArray, List.set_cons_zero, List.set_cons_succ]) | (refine wpMix_det rfl rfl rfl (enters Try.func72 (by kernel_rfl) rfl) (fun W hW => c_isKey _ W) rfl ?_; simp only [Act.put, List.setIfInBounds_toArray, List.set_cons_zero, List.set_cons_succ]) | (refine wpMix_det rfl rfl rfl (enters Try.func73 (by kernel_rfl) rfl) (fun W hW => c_isAnswer _ W) rfl ?_; simp only [Act.put, List.setIfInBounds_toArray, List.set_cons_zero, List.set_cons_succ])))
          (refine wpMix_nil ?_; intro w2 hw2)
          go_wp2
          go_roundw
          case rel => exact ⟨j + 1 + 1, by omega, by go_num, by rw [wTo_succ, HT.out, HS.out]; rfl, Ext.trans (ext_to hx _) hw2⟩
          case measure => simp [intOf]; omega
    · have hkl : k = l.length := by omega
      go_wp2
      go_ret
      refine ⟨ret_bool ?_, hx⟩
      unfold writesOk
      rw [← hkl, HT.out, hkl]
      simp
      omega
end Go.Proofs.Ytinfkgbgeajphaa
