/- FnParts: the walk of the law. -/
import Derived.Test.YtgebfcmkcggdmaaCode
import Derived.Test.YtgebfcmkcggdmaaD18
import Derived.Test.YtgebfcmkcggdmaaSRof
namespace Go.Proofs.Ytgebfcmkcggdmaa.l18
open Go.ChangeShapes Go.WideShapes Go.ChangeAt Go.RowKit Go.Joins Go.Deep Go.Sort
set_option linter.unusedVariables false
set_option linter.unusedSimpArgs false

theorem ext_drewN {a b : World} (h : Ext a b) (n : Nat) : Ext a (b.drewN n) := ⟨h.os, h.tape, h.output, h.size, h.block⟩
/-- the sum of the ranges of the first owners -/
def ownS (l : List Prt) : Nat → Int
  | 0 => 0
  | g + 1 => ownS l g + sumR (rangesOfV l g)
theorem ownS_b (l : List Prt) : ∀ g, 0 ≤ ownS l g ∧ ownS l g ≤ 1000000 * g
  | 0 => by simp [ownS]
  | g + 1 => by
    have h1 := ownS_b l g
    obtain ⟨h2, h3⟩ := ranges_b l g
    have h4 := sumR_b h3 (rangesOfV l g).length
    rw [List.take_length] at h4
    show 0 ≤ ownS l g + sumR (rangesOfV l g) ∧ ownS l g + sumR (rangesOfV l g) ≤ 1000000 * ((g + 1 : Nat) : Int)
    omega
theorem ownS_all {l : List Prt} (h : partsOk l = true) : ownS l 4 = 1000 := by
  have h1 := sum_all h
  have e : ownS l 4 = 0 + sumR (rangesOfV l 0) + sumR (rangesOfV l 1) + sumR (rangesOfV l 2) + sumR (rangesOfV l 3) := rfl
  omega
theorem at_no {l : List Prt} (h : partsOk l = false) (key : Int) : partAtV l key = -1 := by unfold partAtV; rw [h]; rfl
theorem sp_bad {l : List Prt} (h : partsOk l = false) (key : Int) : spB l key = false := by unfold spB; rw [at_no h]; rfl
theorem give_bad {l : List Prt} (h : partsOk l = false) (key ow : Int) : giveB l key ow = false := by unfold giveB; rw [at_no h]; rfl
theorem spV_le (l : List Prt) (key : Int) : (spV l key).length ≤ l.length + 1 := spV_len l key

set_option maxHeartbeats 8000000 in
set_option maxRecDepth 100000 in
theorem walk (A : Option Addr) (n c : Nat) (w : World) (hb : BytesR w A n) (hnc : n ≤ c) (hcm : c ≤ 9223372036854775807) : Calls Try.prog 3 #[.slice A n c] w fun e w' => e = .returned (.bool true) ∧ Ext w w' := by
  by_cases hn : n ≤ 1048576
  · go_enter Try.func3, Try.ntmps3
    go_wp2_with fail
    refine (c_big_no A n c w hn).mono ?_
    rintro e w0 ⟨rfl, x0⟩
    have hc : CodeOk w0 A n w0.heap.size := ⟨hn, fun h0 => by
      obtain ⟨b, o, e, hbl, hcell⟩ := hb h0
      exact ⟨b, o, e, Nat.lt_of_lt_of_le hbl x0.size, fun k hk => by
        obtain ⟨y, hy, hy2⟩ := hcell k hk
        exact ⟨y, hy, (old_cell x0 hbl).trans hy2⟩⟩⟩
    go_wp2_with fail
    refine (c_DrawGiveTo A n c w0 hc hnc hcm).mono ?_
    rintro e w1 ⟨Al, cl, l, key, ow, rfl, hl, r1, ⟨k0, k1⟩, ⟨o0, o1⟩, x1⟩
    have X1 := Ext.trans x0 x1
    clear hc hb x0 x1
    obtain ⟨sb, hsb⟩ : ∃ b, spB l key = b := ⟨_, rfl⟩
    obtain ⟨sv, hsv⟩ : ∃ b, spV l key = b := ⟨_, rfl⟩
    obtain ⟨gb, hgb⟩ : ∃ b, giveB l key ow = b := ⟨_, rfl⟩
    obtain ⟨gv, hgv⟩ : ∃ b, giveV l key ow = b := ⟨_, rfl⟩
    have hsl : sv.length ≤ 17 := by rw [← hsv]; have := spV_le l key; omega
    have hgl : gv.length ≤ 16 := by rw [← hgv]; have := giveV_len l key ow; omega
    have HSB := Lib.hid hsb
    have HSV := Lib.hid hsv
    have HGB := Lib.hid hgb
    have HGV := Lib.hid hgv
    have hss : (sb != sb) = false := by simp
    have hgg : (gb != gb) = false := by simp
    clear hsb hsv hgb hgv
    have hcon := c_iSplitAt Al cl l key w1 r1 (by omega)
    rw [HSB.out, HSV.out] at hcon
    go_wp2_with fail
    refine hcon.mono ?_
    rintro e w2 ⟨v2, rfl, q2, x2⟩
    obtain ⟨A2, c2, rfl⟩ := q2.form
    clear hcon
    have X2 := Ext.trans X1 x2
    have r2 := r1.keep x2
    have s2 := (q2.rd Prt.enc_len).2
    clear q2 r1 x2 X1
    have hcon := c_iGiveTo Al cl l key ow w2 r2 (by omega)
    rw [HGB.out, HGV.out] at hcon
    go_wp2_with fail
    refine hcon.mono ?_
    rintro e w3 ⟨v3, rfl, q3, x3⟩
    obtain ⟨A3, c3, rfl⟩ := q3.form
    clear hcon
    have X3 := Ext.trans X2 x3
    have r3 := r2.keep x3
    have s3 := s2.keep x3
    have t3 := (q3.rd Prt.enc_len).2
    clear q3 r2 s2 x3 X2
    have hcon := c_sSplitAt Al cl l key w3 r3 (by omega)
    rw [HSB.out, HSV.out] at hcon
    go_wp2_with fail
    refine hcon.mono ?_
    rintro e w4 ⟨v4, rfl, q4, x4⟩
    clear hcon q4
    have X4 := Ext.trans X3 x4
    have r4 := r3.keep x4
    have s4 := s3.keep x4
    have t4 := t3.keep x4
    clear r3 s3 t3 x4 X3
    have hcon := c_sGiveTo Al cl l key ow w4 r4 (by omega)
    rw [HGB.out, HGV.out] at hcon
    go_wp2_with fail
    refine hcon.mono ?_
    rintro e w5 ⟨v5, rfl, q5, x5⟩
    clear hcon q5
    have HX5 := Lib.hid (Ext.trans X4 x5)
    have HR := Lib.hid (r4.keep x5)
    have HS := Lib.hid (s4.keep x5)
    have HT := Lib.hid (t4.keep x5)
    clear r4 s4 t4 x5 X4
    obtain ⟨pk, hpk⟩ : ∃ b, partsOk l = b := ⟨_, rfl⟩
    have HP := Lib.hid hpk
    have hcon := c_sPartsOk Al cl l w5 HR.out (by omega)
    rw [hpk] at hcon
    clear hpk
    go_wp2_with fail
    refine hcon.mono ?_
    rintro e w6 ⟨rfl, x6⟩
    clear hcon
    have HY6 := Lib.hid x6
    clear x6
    obtain ⟨at_, hat⟩ : ∃ a, partAtV l key = a := ⟨_, rfl⟩
    have HAt := Lib.hid hat
    clear hat
    cases pk
    · obtain rfl : sb = false := by rw [← HSB.out]; exact sp_bad HP.out key
      obtain rfl : gb = false := by rw [← HGB.out]; exact give_bad HP.out key ow
      have hcon := c_iPartsOk Al cl l w6 (HR.out.keep HY6.out) (by omega)
      rw [HP.out] at hcon
      go_wp2_with fail
      refine hcon.mono ?_
      rintro e w7 ⟨rfl, x7⟩
      have hcon2 := c_iPartAt Al cl l key w7 (HR.out.keep (Ext.trans HY6.out x7)) (by omega)
      rw [at_no HP.out] at hcon2
      have HX7 := Lib.hid (Ext.trans HY6.out x7)
      clear hcon x7
      go_wp2_with fail
      refine hcon2.mono ?_
      rintro e w8 ⟨rfl, x8⟩
      go_wp2
      go_ret
      exact ⟨rfl, Ext.trans HX5.out (Ext.trans HX7.out x8)⟩
    · have hcon := c_iPartAt Al cl l key w6 (HR.out.keep HY6.out) (by omega)
      rw [HAt.out] at hcon
      go_wp2_with fail
      refine hcon.mono ?_
      rintro e w7 ⟨rfl, x7⟩
      have HY7 := Lib.hid (Ext.trans HY6.out x7)
      clear hcon x7 HY6
      go_wp2
      go_loopw [15, 16] (fun s g wr => ∃ (gk : Nat) (a : Int), gk ≤ 4 ∧ g = .int .i64 gk ∧ s = .int .i64 a ∧ Hid (a = ownS l gk) ∧ Ext w5 wr) (fun _ g _ => 4 - (intOf g).toNat)
      case atStart => exact ⟨0, 0, by omega, rfl, rfl, Lib.hid rfl, HY7.out⟩
      case round =>
        obtain ⟨gk, a, hgk, rfl, rfl, HA, XR⟩ := hrel
        have hab := ownS_b l gk
        rw [← HA.out] at hab
        have HXR := Lib.hid XR
        clear XR HY7
        by_cases hlt : gk < 4
        · obtain ⟨rs, hrs⟩ : ∃ b, rangesOfV l gk = b := ⟨_, rfl⟩
          have hcon := c_iRangesOf Al cl l gk wr (HR.out.keep HXR.out) (by omega)
          rw [hrs] at hcon
          have HRs := Lib.hid hrs
          obtain ⟨hr1, hr2⟩ := ranges_b l gk
          rw [hrs] at hr1 hr2
          have HRB := Lib.hid hr2
          have HSb := Lib.hid (sumR_b hr2)
          clear hrs hr2
          go_wp2_with fail
          refine hcon.mono ?_
          rintro e wb ⟨vb, rfl, qb, xb⟩
          obtain ⟨Ab, cb, rfl⟩ := qb.form
          clear hcon
          have HRd := Lib.hid (qb.rd Rng.enc_len).2
          have HXb := Lib.hid (Ext.trans HXR.out xb)
          clear qb xb HXR
          go_wp2
          go_loopw [15, 18] (fun s i ws => ∃ (k : Nat) (b : Int), k ≤ rs.length ∧ i = .int .i64 k ∧ s = .int .i64 b ∧ Hid (b = a + sumR (rs.take k)) ∧ Ext wb ws) (fun _ i _ => rs.length - (intOf i).toNat)
          case atStart => exact ⟨0, a, by omega, rfl, rfl, Lib.hid (by simp [sumR]), ext_refl _⟩
          case round =>
            obtain ⟨k, b, hk, rfl, rfl, HB, XS⟩ := hrel
            have hsb := HSb.out k
            have hbb : 0 ≤ b ∧ b ≤ 5000000 := by have := HB.out; omega
            by_cases hlt2 : k < rs.length
            · obtain ⟨ab, ao, hA, hab2, a0, a1⟩ := (HRd.out.keep XS).atRng hlt2
              subst hA
              have hrb := HRB.out rs[k] (List.getElem_mem hlt2)
              obtain ⟨hrb0, hrb1, hrb2⟩ := hrb
              have HN := Lib.hid (show b + rs[k].hi - rs[k].lo = a + sumR (rs.take (k + 1)) by rw [sumR_next hlt2]; have := HB.out; omega)
              clear hsb
              go_wp2
              go_quiet (fail)
              go_wp2
              go_roundw
              case rel => exact ⟨k + 1, b + rs[k].hi - rs[k].lo, by omega, by go_num, by go_num, HN, ext_drewN XS _⟩
              case measure => simp [intOf] <;> omega
            · obtain rfl : k = rs.length := by omega
              have HN := Lib.hid (show b = ownS l (gk + 1) by
                have h1 := HB.out
                rw [List.take_length, ← HRs.out, HA.out] at h1
                exact h1)
              have HXs := Lib.hid (Ext.trans HXb.out XS)
              go_wp2
              go_roundw
              case rel => exact ⟨gk + 1, b, by omega, by go_num, rfl, HN, HXs.out⟩
              case measure => simp [intOf] <;> omega
        · obtain rfl : gk = 4 := by omega
          obtain rfl : a = 1000 := by rw [HA.out]; exact ownS_all HP.out
          have haa : (at_ != at_) = false := by simp
          have hcon := c_sPartAt Al cl l key wr (HR.out.keep HXR.out) (by omega)
          rw [HAt.out] at hcon
          clear hab
          go_wp2_with fail
          refine hcon.mono ?_
          rintro e w8 ⟨rfl, x8⟩
          have HX8 := Lib.hid (Ext.trans HXR.out x8)
          clear hcon x8 HXR
          go_wp2
          go_loopw [19] (fun i ws => ∃ k : Nat, k ≤ 60 ∧ i = .int .i64 k ∧ Ext w5 ws) (fun i _ => 60 - (intOf i).toNat)
          case atStart => exact ⟨0, by omega, rfl, HX8.out⟩
          case round =>
            obtain ⟨k, hk, rfl, XS⟩ := hrel
            have HXS := Lib.hid XS
            clear XS HX8
            by_cases hlt : k < 60
            · obtain ⟨nn, hnn, hidx, hown, _, _⟩ := own_some (of_decide_eq_true HP.out) (show k < 1000 by omega)
              have HNv := Lib.hid (show partAtV l k = nn by rw [at_val HP.out, hidx])
              have HOw := Lib.hid hown
              clear hidx hown
              have hcon := c_iPartAt Al cl l k wr (HR.out.keep HXS.out) (by omega)
              rw [HNv.out] at hcon
              go_wp2_with fail
              refine hcon.mono ?_
              rintro e wa ⟨rfl, xa⟩
              have HXa := Lib.hid (Ext.trans HXS.out xa)
              clear hcon xa HXS
              have hnz : decide ((nn : Int) < 0) = false := by simp
              have h28 : decide ((l.length : Int) ≤ (nn : Int)) = false := by simp; omega
              have HG := Lib.hid (show ∀ W, Ext w5 W → gb = true → ∃ hn2 : nn < gv.length, Calls Try.prog 12 #[.slice A3 gv.length c3, .int .i64 k] W (fun e w' => e = .returned (.int .i64 nn) ∧ Ext W w') ∧ gv[nn].owner = if (nn : Int) = at_ then ow else l[nn].owner from fun W hW hq => by
                obtain ⟨n3, hn3, h1, h2, hn4, h3⟩ := give_own (HGB.out.trans hq) (show k < 1000 by omega)
                rw [HNv.out] at h1
                obtain rfl : n3 = nn := by omega
                rw [HAt.out] at h3
                have h5 := c_iPartAt A3 c3 gv k W (HT.out.keep hW) (by omega)
                rw [← HGV.out, h2, HGV.out] at h5
                refine ⟨by rw [← HGV.out]; exact hn4, h5, ?_⟩
                rw [← h3]
                simp only [HGV.out])
              have HSp := Lib.hid (show ∀ W, Ext w5 W → sb = true → ∃ (j : Nat) (hj : j < sv.length), Calls Try.prog 12 #[.slice A2 sv.length c2, .int .i64 k] W (fun e w' => e = .returned (.int .i64 j) ∧ Ext W w') ∧ sv[j].owner = l[nn].owner from fun W hW hq => by
                obtain ⟨j, hj, h1, h2⟩ := sp_own (HSB.out.trans hq) (show k < 1000 by omega)
                have h5 := c_iPartAt A2 c2 sv k W (HS.out.keep hW) (by omega)
                rw [← HSV.out, h1, HSV.out] at h5
                refine ⟨j, by rw [← HSV.out]; exact hj, h5, ?_⟩
                rw [← HOw.out, ← h2]
                simp only [HSV.out])
              cases sb
              · cases gb
                · go_wp2
                  go_roundw
                  case rel => exact ⟨k + 1, by omega, by go_num, HXa.out⟩
                  case measure => simp [intOf] <;> omega
                · skip
                  obtain ⟨hn2, hcg, hog⟩ := HG.out wa HXa.out (by first | rfl | trivial)
                  have HOg := Lib.hid hog
                  clear hog
                  go_wp2_with fail
                  refine hcg.mono ?_
                  rintro e wg ⟨rfl, xg⟩
                  have HXg := Lib.hid (Ext.trans HXa.out xg)
                  clear hcg xg
                  obtain ⟨gb_, go_, hA3, hgb2, b0, b1, b2⟩ := (HT.out.keep HXg.out).atPrt hn2
                  subst hA3
                  by_cases hea : (nn : Int) = at_
                  · have he1 : ((nn : Int) == at_) = true := by simp [hea]
                    have he2 : ((nn : Int) != at_) = false := by simp [hea]
                    have hne2 : (gv[nn].owner != ow) = false := by rw [HOg.out, if_pos hea]; simp
                    clear b0 b1 hea
                    go_wp2
                    (refine wp_region_mix' (fun _ _ _ _ _ hq => hq) 34 (by kernel_rfl) (by kernel_rfl) (fun hg => ?_); simp only [headOps, List.take_succ_cons, List.take_zero, List.filter_cons, List.filter_nil, isAlloc, Bool.not_false, Bool.false_eq_true, if_true, if_false, List.append_nil, List.drop_succ_cons, List.drop_zero])
                    (repeat (first | (refine wpMix_plain rfl rfl ?_; go_big_quiet_step (fail); refine wpQuiet_nil ?_) | (refine wpMix_skip rfl rfl ?_; simp only [Act.put, List.setIfInBounds_toArray, List.set_cons_zero, List.set_cons_succ])))
                    (refine wpMix_nil ?_; intro wh hwh)
                    have HXh := Lib.hid (Ext.trans HXg.out hwh)
                    clear hwh
                    go_wp2
                    go_roundw
                    case rel => exact ⟨k + 1, by omega, by go_num, HXh.out⟩
                    case measure => simp [intOf] <;> omega
                  · have he1 : ((nn : Int) == at_) = false := by simp [hea]
                    have he2 : ((nn : Int) != at_) = true := by simp [hea]
                    have hne2 : (gv[nn].owner != l[nn].owner) = false := by rw [HOg.out, if_neg hea]; simp
                    obtain ⟨lb, lo_, hAl, hlb2, l0, l1, l2⟩ := (HR.out.keep HXg.out).atPrt hnn
                    subst hAl
                    clear l0 l1
                    clear b0 b1 hea
                    go_wp2
                    (refine wp_region_mix' (fun _ _ _ _ _ hq => hq) 34 (by kernel_rfl) (by kernel_rfl) (fun hg => ?_); simp only [headOps, List.take_succ_cons, List.take_zero, List.filter_cons, List.filter_nil, isAlloc, Bool.not_false, Bool.false_eq_true, if_true, if_false, List.append_nil, List.drop_succ_cons, List.drop_zero])
                    (repeat (first | (refine wpMix_plain rfl rfl ?_; go_big_quiet_step (fail); refine wpQuiet_nil ?_) | (refine wpMix_skip rfl rfl ?_; simp only [Act.put, List.setIfInBounds_toArray, List.set_cons_zero, List.set_cons_succ])))
                    (refine wpMix_nil ?_; intro wh hwh)
                    have HXh := Lib.hid (Ext.trans HXg.out hwh)
                    clear hwh
                    go_wp2
                    go_roundw
                    case rel => exact ⟨k + 1, by omega, by go_num, HXh.out⟩
                    case measure => simp [intOf] <;> omega
              · obtain ⟨j, hj, hcj, hoj⟩ := HSp.out wa HXa.out (by first | rfl | trivial)
                have HOj := Lib.hid hoj
                clear hoj
                go_wp2_with fail
                refine hcj.mono ?_
                rintro e wc ⟨rfl, xc⟩
                have HXc := Lib.hid (Ext.trans HXa.out xc)
                clear hcj
                obtain ⟨ab, ao, hA2, hab2, a0, a1, a2⟩ := (HS.out.keep HXc.out).atPrt hj
                obtain ⟨lb, lo_, hAl, hlb2, l0, l1, l2⟩ := (HR.out.keep HXc.out).atPrt hnn
                subst hA2
                subst hAl
                have hjz : decide ((j : Int) < 0) = false := by simp
                have hne : (sv[j].owner != l[nn].owner) = false := by rw [HOj.out]; simp
                clear a0 a1 l0 l1
                cases gb
                · go_wp2
                  go_quiet (fail)
                  go_wp2
                  go_roundw
                  case rel => exact ⟨k + 1, by omega, by go_num, ext_drewN HXc.out _⟩
                  case measure => simp [intOf] <;> omega
                · go_wp2
                  go_quiet (fail)
                  obtain ⟨hn2, hcg, hog⟩ := HG.out _ (ext_drewN HXc.out nq) (by first | rfl | trivial)
                  have HOg := Lib.hid hog
                  clear hog
                  go_wp2_with fail
                  refine hcg.mono ?_
                  rintro e wg ⟨rfl, xg⟩
                  have HXg := Lib.hid (Ext.trans (ext_drewN HXc.out nq) xg)
                  clear hcg xg
                  obtain ⟨gb_, go_, hA3, hgb2, b0, b1, b2⟩ := (HT.out.keep HXg.out).atPrt hn2
                  subst hA3
                  by_cases hea : (nn : Int) = at_
                  · have he1 : ((nn : Int) == at_) = true := by simp [hea]
                    have he2 : ((nn : Int) != at_) = false := by simp [hea]
                    have hne2 : (gv[nn].owner != ow) = false := by rw [HOg.out, if_pos hea]; simp
                    clear b0 b1 hea
                    go_wp2
                    (refine wp_region_mix' (fun _ _ _ _ _ hq => hq) 34 (by kernel_rfl) (by kernel_rfl) (fun hg => ?_); simp only [headOps, List.take_succ_cons, List.take_zero, List.filter_cons, List.filter_nil, isAlloc, Bool.not_false, Bool.false_eq_true, if_true, if_false, List.append_nil, List.drop_succ_cons, List.drop_zero])
                    (repeat (first | (refine wpMix_plain rfl rfl ?_; go_big_quiet_step (fail); refine wpQuiet_nil ?_) | (refine wpMix_skip rfl rfl ?_; simp only [Act.put, List.setIfInBounds_toArray, List.set_cons_zero, List.set_cons_succ])))
                    (refine wpMix_nil ?_; intro wh hwh)
                    have HXh := Lib.hid (Ext.trans HXg.out hwh)
                    clear hwh
                    go_wp2
                    go_roundw
                    case rel => exact ⟨k + 1, by omega, by go_num, HXh.out⟩
                    case measure => simp [intOf] <;> omega
                  · have he1 : ((nn : Int) == at_) = false := by simp [hea]
                    have he2 : ((nn : Int) != at_) = true := by simp [hea]
                    have hne2 : (gv[nn].owner != l[nn].owner) = false := by rw [HOg.out, if_neg hea]; simp
                    obtain ⟨lb2, lo2, hAl, hlb3, l0, l1, l3⟩ := (HR.out.keep HXg.out).atPrt hnn
                    simp only [Option.some.injEq, Addr.mk.injEq] at hAl
                    obtain ⟨rfl, rfl, _⟩ := hAl
                    clear l0 l1
                    clear b0 b1 hea
                    go_wp2
                    (refine wp_region_mix' (fun _ _ _ _ _ hq => hq) 34 (by kernel_rfl) (by kernel_rfl) (fun hg => ?_); simp only [headOps, List.take_succ_cons, List.take_zero, List.filter_cons, List.filter_nil, isAlloc, Bool.not_false, Bool.false_eq_true, if_true, if_false, List.append_nil, List.drop_succ_cons, List.drop_zero])
                    (repeat (first | (refine wpMix_plain rfl rfl ?_; go_big_quiet_step (fail); refine wpQuiet_nil ?_) | (refine wpMix_skip rfl rfl ?_; simp only [Act.put, List.setIfInBounds_toArray, List.set_cons_zero, List.set_cons_succ])))
                    (refine wpMix_nil ?_; intro wh hwh)
                    have HXh := Lib.hid (Ext.trans HXg.out hwh)
                    clear hwh
                    go_wp2
                    go_roundw
                    case rel => exact ⟨k + 1, by omega, by go_num, HXh.out⟩
                    case measure => simp [intOf] <;> omega
            · obtain rfl : k = 60 := by omega
              cases sb
              · go_wp2
                go_ret
                exact ⟨rfl, Ext.trans HX5.out HXS.out⟩
              · have HLn := Lib.hid (show sv.length = l.length + 1 by rw [← HSV.out]; exact (sp_ok HSB.out).2)
                have hll : ((sv.length : Int) == (l.length : Int) + 1) = true := by have := HLn.out; simp; omega
                go_wp2
                go_ret
                exact ⟨rfl, Ext.trans HX5.out HXS.out⟩
  · go_enter Try.func3, Try.ntmps3
    go_wp2_with fail
    refine (c_big_yes A n c w (by omega) (by omega)).mono ?_
    rintro e w0 ⟨rfl, x0⟩
    go_wp2
    go_ret
    exact ⟨rfl, x0⟩
end Go.Proofs.Ytgebfcmkcggdmaa.l18
