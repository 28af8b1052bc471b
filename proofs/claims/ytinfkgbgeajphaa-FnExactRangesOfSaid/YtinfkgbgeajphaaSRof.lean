/- RangesOf of the reference. -/
import Derived.Test.YtinfkgbgeajphaaRof
namespace Go.Proofs.Ytinfkgbgeajphaa
open Go.ChangeShapes Go.WideShapes Go.ChangeAt Go.RowKit Go.Sort
set_option linter.unusedVariables false
set_option linter.unusedSimpArgs false

theorem merge_skip {l : List Prt} {ow : Int} {n : Nat} (hn : n < l.length) {o : List Rng} (h : mergeTo l ow n = o) (h1 : ¬ l[n].owner = ow) : mergeTo l ow (n + 1) = o := by
  unfold mergeTo mergeStep
  rw [h]; simp [hn, h1]
theorem merge_add {l : List Prt} {ow : Int} {n : Nat} (hn : n < l.length) {o : List Rng} (h : mergeTo l ow n = o) (h1 : l[n].owner = ow) (h2 : joins o l[n].lo.toNat = false) : mergeTo l ow (n + 1) = o ++ [⟨l[n].lo, l[n].hi⟩] := by
  unfold mergeTo mergeStep grow1
  rw [h]; simp [hn, h1, h2]
theorem merge_join {l : List Prt} {ow : Int} {n m : Nat} (hn : n < l.length) {o : List Rng} (h : mergeTo l ow n = o) (h1 : l[n].owner = ow) (h2 : joins o l[n].lo.toNat = true) (hm : o.length = m + 1) (hml : m < o.length) : mergeTo l ow (n + 1) = o.set m ⟨o[m].lo, l[n].hi⟩ := by
  unfold mergeTo mergeStep grow1
  rw [h]
  have e : o.length - 1 = m := by omega
  simp [hn, h1, h2, lastR, e, hml]
theorem merge_len (l : List Prt) (ow : Int) : ∀ n, (mergeTo l ow n).length ≤ n
  | 0 => by simp [mergeTo]
  | n + 1 => by
    have := merge_len l ow n
    unfold mergeTo mergeStep grow1
    split
    · split
      · simp; omega
      · simp; omega
    · omega

def Seen (l : List Prt) (n : Nat) : Prop := 0 < n → partsOk l = true
set_option maxHeartbeats 4000000 in
set_option maxRecDepth 100000 in
theorem c_sRangesOf (A : Option Addr) (c : Nat) (l : List Prt) (ow : Int) (w : World) (ha : Rd Prt.enc 3 w A c l) (hn : l.length ≤ 1048576) :
    Calls Try.prog 59 #[.slice A l.length c, .int .i64 ow] w fun e w' => ∃ v, e = .returned v ∧ Ow Rng.enc 25 2 w' w.heap.size v (rangesOfV l ow) ∧ Ext w w' := by
  obtain ⟨i0, hi, hz0, hz1, hz2⟩ := info_parts Try.infoRng
  have HC := Lib.hid (show ∀ W, Ext w W → Calls Try.prog 41 #[.slice A l.length c] W fun e w' => e = .returned (.bool (partsOk l)) ∧ Ext W w' from fun W hW => c_sPartsOk A c l W (ha.keep hW) (by omega))
  go_enter Try.func59, Try.ntmps59
  go_wp2
  go_loopw [5, 6] (fun o i wr => ∃ (n : Nat) (out : List Rng), n ≤ l.length ∧ i = .int .i64 n ∧ mergeTo l ow n = out ∧ Seen l n ∧ Ow Rng.enc 25 2 wr w.heap.size o out ∧ Ext w wr) (fun _ i _ => l.length - (intOf i).toNat)
  case atStart => exact ⟨0, [], by omega, rfl, rfl, fun h => absurd h (by omega), World.ownsRow_made _ #[] 0 (Nat.le_refl _) (Nat.zero_le _) (by simp), ext_alloc _ _⟩
  case round =>
    obtain ⟨n, out, hnl, rfl, hmt, hpk0, ho, X0⟩ := hrel
    have hol : out.length ≤ n := by rw [← hmt]; exact merge_len l ow n
    have HM := Lib.hid hmt
    have HP0 := Lib.hid hpk0
    clear hmt hpk0
    obtain ⟨Ao, co, rfl⟩ := ho.form
    by_cases hlt : n < l.length
    · have hcon := HC.out _ X0
      cases hpk : partsOk l
      · rw [hpk] at hcon
        have hn0 : n = 0 := by
          rcases Nat.eq_zero_or_pos n with h | h
          · exact h
          · have := HP0.out h; rw [hpk] at this; cases this
        have HV := Lib.hid (show rangesOfV l ow = out by unfold rangesOfV; rw [hpk, ← HM.out, hn0]; rfl)
        clear hpk hn0
        go_wp2_with fail
        refine hcon.mono ?_
        rintro e w1 ⟨rfl, x1⟩
        clear hcon
        go_wp2
        go_ret
        exact ⟨_, rfl, by rw [HV.out]; exact ho.kept x1, Ext.trans X0 x1⟩
      · rw [hpk] at hcon
        have HP := Lib.hid hpk
        have hP := of_decide_eq_true (p := PartsOk l) hpk
        have hat : 0 ≤ l[n].lo ∧ l[n].lo < l[n].hi ∧ l[n].hi ≤ 1000 := by have := hP.at hlt; omega
        clear hpk hP
        go_wp2_with fail
        refine hcon.mono ?_
        rintro e w1 ⟨rfl, x1⟩
        clear hcon
        have X1 := Ext.trans X0 x1
        have o1 := ho.kept x1
        clear ho
        obtain ⟨ab, ao, rfl, hab, a0, a1, a2⟩ := (ha.keep X1).atPrt hlt
        by_cases how : l[n].owner = ow
        · have how' : (l[n].owner != ow) = false := by simpa using how
          rcases Nat.eq_zero_or_pos out.length with hm | hm
          · obtain rfl : out = [] := List.eq_nil_of_length_eq_zero hm
            have HN := Lib.hid (merge_add hlt HM.out how (joins_nil rfl))
            simp only [List.length_nil] at o1 ⊢
            clear how
            go_wp2
            (refine wp_region_mix' (fun _ _ _ _ _ hq => hq) 16 (by kernel_rfl) (by kernel_rfl) (fun hg => ?_); simp only [headOps, List.take_succ_cons, List.take_zero, List.filter_cons, List.filter_nil, isAlloc, Bool.not_false, Bool.false_eq_true, if_true, if_false, List.append_nil, List.drop_succ_cons, List.drop_zero])
            (repeat (first | (refine wpMix_plain rfl rfl ?_; go_big_quiet_step (fail); refine wpQuiet_nil ?_) | (refine wpMix_skip rfl rfl ?_; simp only [Act.put, List.setIfInBounds_toArray, List.set_cons_zero, List.set_cons_succ])))
            (refine wpMix_nil ?_; intro w2 hw2)
            have X2 := Ext.trans X1 hw2
            have o2 := o1.kept hw2
            obtain ⟨_, _, e1, hab2, b0, b1, b2⟩ := (ha.keep X2).atPrt hlt
            simp only [Option.some.injEq, Addr.mk.injEq] at e1
            obtain ⟨rfl, rfl, _⟩ := e1
            clear a0 a1 a2
            go_wp2
            (refine wp_region_mix' (fun _ _ _ _ _ hq => hq) 11 (by kernel_rfl) (by kernel_rfl) (fun hg => ?_); simp only [headOps, List.take_succ_cons, List.take_zero, List.filter_cons, List.filter_nil, isAlloc, Bool.not_false, Bool.false_eq_true, if_true, if_false, List.append_nil, List.drop_succ_cons, List.drop_zero])
            (repeat (refine wpMix_plain rfl rfl ?_; go_big_quiet_step (fail); refine wpQuiet_nil ?_))
            (refine wpMix_nil ?_; intro w3 hw3)
            have X3 := Ext.trans X2 hw3
            have o3 := o2.kept hw3
            have s3 := X3.size
            clear b0 b1 b2
            go_wp2_with (at_builtin; refine wpList_append_own _ rfl _ _ 35 rfl (w.heap.size) 25 i0 (.agg #[.int .i64 0, .int .i64 0]) 2 16 Try.underlying35 hi hz0 hz1 hz2 rfl (by decide) _ _ _ rfl (ownsRow_ext o3 (ext_alloc _ _)) _ 1 1 [.int .i64 l[n].lo, .int .i64 l[n].hi] rfl rfl (alloc_cell _ _ _) (by intro u hu; simp at hu; rcases hu with rfl | rfl <;> rfl) (by unfold maxLen; (try simp) <;> omega) (by (try simp) <;> omega) (by (try simp) <;> omega) ?_)
            intro v w4 h4 g4 _
            have x4 := ext_app (ext_to X3 _) g4 (ownsRow_ext o3 (ext_alloc _ _)) (Nat.le_refl _)
            clear g4
            go_wp2
            go_roundw
            case rel => exact ⟨n + 1, [⟨l[n].lo, l[n].hi⟩], by omega, by go_num, HN.out, fun _ => HP.out, own_snoc (l := []) h4 rfl rfl, x4⟩
            case measure => simp [intOf] <;> omega
          · obtain ⟨m, hm1⟩ : ∃ m, out.length = m + 1 := ⟨out.length - 1, by omega⟩
            have hml : m < out.length := by omega
            obtain ⟨g1, c1, hA, hg1, hg2⟩ := o1.base hm
            simp only [Value.slice.injEq] at hA
            obtain ⟨rfl, _, rfl⟩ := hA
            have JA := joins_at (k := l[n].lo.toNat) hm1
            obtain ⟨lon, hlon⟩ : ∃ a : Nat, l[n].lo = a := ⟨l[n].lo.toNat, by omega⟩
            have HM1 := Lib.hid hm1
            rw [hm1]
            rw [hm1] at hol
            by_cases hj : out[m].hi = l[n].lo
            · have hj' : (out[m].hi == l[n].lo) = true := by simpa using hj
              have HN := Lib.hid (merge_join hlt HM.out how (by rw [JA, decide_eq_true_eq]; omega) hm1 hml)
              clear how hm1 JA hlon hj hm
              obtain ⟨bb, oo, hbo, hb1, c0, c1⟩ := (o1.rd Rng.enc_len).2.atRng hml
              simp only [Option.some.injEq, Addr.mk.injEq] at hbo
              obtain ⟨rfl, rfl, _⟩ := hbo
              rw [Nat.zero_add] at c0 c1
              have O1 := Lib.hid o1
              clear o1
              go_wp2
              (refine wp_region_mix' (fun _ _ _ _ _ hq => hq) 16 (by kernel_rfl) (by kernel_rfl) (fun hg => ?_); simp only [headOps, List.take_succ_cons, List.take_zero, List.filter_cons, List.filter_nil, isAlloc, Bool.not_false, Bool.false_eq_true, if_true, if_false, List.append_nil, List.drop_succ_cons, List.drop_zero])
              (repeat (refine wpMix_plain rfl rfl ?_; go_big_quiet_step (fail); refine wpQuiet_nil ?_))
              (refine wpMix_nil ?_; intro w2 hw2)
              have X2 := Ext.trans X1 hw2
              have o2 := O1.out.kept hw2
              obtain ⟨_, _, e1, hab2, b0, b1, b2⟩ := (ha.keep X2).atPrt hlt
              simp only [Option.some.injEq, Addr.mk.injEq] at e1
              obtain ⟨rfl, rfl, _⟩ := e1
              clear a0 a1 a2 c0 c1
              obtain ⟨bb, oo, hbo, hb1, c0, c1⟩ := (o2.rd Rng.enc_len).2.atRng hml
              simp only [Option.some.injEq, Addr.mk.injEq] at hbo
              obtain ⟨rfl, rfl, _⟩ := hbo
              rw [Nat.zero_add] at c0 c1
              have hfz := World.ownsRow.frozenAt o2
              have O2 := Lib.hid o2
              clear o2
              go_wp2
              have st := World.ownsRow.stored O2.out (m * 2 + 1) (.int .i64 l[n].hi)
              go_roundw
              case rel =>
                refine ⟨n + 1, out.set m ⟨out[m].lo, l[n].hi⟩, by omega, by go_num, HN.out, fun _ => HP.out, ?_, ext_set X2 hg1 _⟩
                have h1 := st.1
                rw [hi_row out m hml] at h1
                rw [← HM1.out]
                exact own_of h1 (by simp)
              case measure => simp [intOf] <;> omega
            · have hj' : (out[m].hi == l[n].lo) = false := by simpa using hj
              have HN := Lib.hid (merge_add hlt HM.out how (by rw [JA, decide_eq_false_iff_not]; omega))
              clear how hm1 JA hlon hj hm
              obtain ⟨bb, oo, hbo, hb1, c0, c1⟩ := (o1.rd Rng.enc_len).2.atRng hml
              simp only [Option.some.injEq, Addr.mk.injEq] at hbo
              obtain ⟨rfl, rfl, _⟩ := hbo
              rw [Nat.zero_add] at c0 c1
              have O1 := Lib.hid o1
              clear o1
              go_wp2
              (refine wp_region_mix' (fun _ _ _ _ _ hq => hq) 16 (by kernel_rfl) (by kernel_rfl) (fun hg => ?_); simp only [headOps, List.take_succ_cons, List.take_zero, List.filter_cons, List.filter_nil, isAlloc, Bool.not_false, Bool.false_eq_true, if_true, if_false, List.append_nil, List.drop_succ_cons, List.drop_zero])
              (repeat (refine wpMix_plain rfl rfl ?_; go_big_quiet_step (fail); refine wpQuiet_nil ?_))
              (refine wpMix_nil ?_; intro w2 hw2)
              have X2 := Ext.trans X1 hw2
              have o2 := O1.out.kept hw2
              obtain ⟨_, _, e1, hab2, b0, b1, b2⟩ := (ha.keep X2).atPrt hlt
              simp only [Option.some.injEq, Addr.mk.injEq] at e1
              obtain ⟨rfl, rfl, _⟩ := e1
              clear a0 a1 a2 c0 c1
              have O2 := Lib.hid o2
              clear o2
              go_wp2
              (refine wp_region_mix' (fun _ _ _ _ _ hq => hq) 11 (by kernel_rfl) (by kernel_rfl) (fun hg => ?_); simp only [headOps, List.take_succ_cons, List.take_zero, List.filter_cons, List.filter_nil, isAlloc, Bool.not_false, Bool.false_eq_true, if_true, if_false, List.append_nil, List.drop_succ_cons, List.drop_zero])
              (repeat (refine wpMix_plain rfl rfl ?_; go_big_quiet_step (fail); refine wpQuiet_nil ?_))
              (refine wpMix_nil ?_; intro w3 hw3)
              have X3 := Ext.trans X2 hw3
              have O3 := Lib.hid (show w3.ownsRow w.heap.size 25 2 (.slice (some ⟨g1, 0, none⟩) (m + 1) co) (m + 1) (out.flatMap Rng.enc) by have := O2.out.kept hw3; unfold Ow at this; rw [HM1.out] at this; exact this)
              have s3 := X3.size
              clear b0 b1 b2
              go_wp2_with (at_builtin; refine wpList_append_own _ rfl _ _ 35 rfl (w.heap.size) 25 i0 (.agg #[.int .i64 0, .int .i64 0]) 2 16 Try.underlying35 hi hz0 hz1 hz2 rfl (by decide) _ _ _ rfl (ownsRow_ext O3.out (ext_alloc _ _)) _ 1 1 [.int .i64 l[n].lo, .int .i64 l[n].hi] rfl rfl (alloc_cell _ _ _) (by intro u hu; simp at hu; rcases hu with rfl | rfl <;> rfl) (by unfold maxLen; (try simp) <;> omega) (by (try simp) <;> omega) (by (try simp) <;> omega) ?_)
              intro v w4 h4 g4 _
              have x4 := ext_app (ext_to X3 _) g4 (ownsRow_ext O3.out (ext_alloc _ _)) (Nat.le_refl _)
              clear g4
              go_wp2
              go_roundw
              case rel => exact ⟨n + 1, out ++ [⟨l[n].lo, l[n].hi⟩], by omega, by go_num, HN.out, fun _ => HP.out, own_snoc h4 (by rw [HM1.out]) rfl, x4⟩
              case measure => simp [intOf] <;> omega
        · have how' : (l[n].owner != ow) = true := by simpa using how
          have HN := Lib.hid (merge_skip hlt HM.out how)
          clear how
          go_wp2
          go_roundw
          case rel => exact ⟨n + 1, out, by omega, by go_num, HN.out, fun _ => HP.out, o1, X1⟩
          case measure => simp [intOf] <;> omega
    · obtain rfl : n = l.length := by omega
      have HV := Lib.hid (show rangesOfV l ow = out by
        rcases Nat.eq_zero_or_pos l.length with h | h
        · have hpk : partsOk l = false := decide_eq_false fun hp => by have := hp.1; omega
          unfold rangesOfV
          rw [hpk, ← HM.out, h]; rfl
        · have hpk := HP0.out h
          unfold rangesOfV
          rw [hpk, ← HM.out, merge_all (of_decide_eq_true (p := PartsOk l) hpk)]; rfl)
      go_wp2
      go_ret
      exact ⟨_, rfl, by rw [HV.out]; exact ho, X0⟩
end Go.Proofs.Ytinfkgbgeajphaa
