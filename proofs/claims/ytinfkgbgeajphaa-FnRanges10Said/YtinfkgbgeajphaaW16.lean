/- FnRanges10: the walk of the law. -/
import Derived.Test.YtinfkgbgeajphaaCode
import Derived.Test.YtinfkgbgeajphaaDrs
import Derived.Test.YtinfkgbgeajphaaR10
import Derived.Test.YtinfkgbgeajphaaTurn2
namespace Go.Proofs.Ytinfkgbgeajphaa.l16
open Go.ChangeShapes Go.WideShapes Go.ChangeAt Go.RowKit Go.Joins Go.Deep Go.Sort
set_option linter.unusedVariables false
set_option linter.unusedSimpArgs false

set_option maxHeartbeats 4000000 in
set_option maxRecDepth 100000 in
theorem walk (A : Option Addr) (n c : Nat) (w : World) (hb : BytesR w A n) (hnc : n ≤ c) (hcm : c ≤ 9223372036854775807) : Calls Try.prog 16 #[.slice A n c] w fun e w' => e = .returned (.bool true) ∧ Ext w w' := by
  by_cases hn : n ≤ 1048576
  · go_enter Try.func16, Try.ntmps16
    go_wp2_with fail
    refine (c_big_no A n c w hn).mono ?_
    rintro e w0 ⟨rfl, x0⟩
    have hc : CodeOk w0 A n w0.heap.size := ⟨hn, fun h0 => by
      obtain ⟨b, o, e, hbl, hcell⟩ := hb h0
      exact ⟨b, o, e, Nat.lt_of_lt_of_le hbl x0.size, fun k hk => by
        obtain ⟨y, hy, hy2⟩ := hcell k hk
        exact ⟨y, hy, (old_cell x0 hbl).trans hy2⟩⟩⟩
    go_wp2_with fail
    refine (c_DrawRangesPlus A n c w0 hc hnc hcm).mono ?_
    rintro e w1 ⟨v, l, lo, hi, rfl, hl, o1, x1⟩
    obtain ⟨Al, cl, rfl⟩ := o1.form
    have X1 := Ext.trans x0 x1
    have r1 := (o1.rd Rng.enc_len).2
    clear o1 hc hb
    obtain ⟨pb, hpb⟩ : ∃ b, turnB l ⟨lo, hi⟩ true = b := ⟨_, rfl⟩
    obtain ⟨pl, hpl⟩ : ∃ b, turnV l ⟨lo, hi⟩ true = b := ⟨_, rfl⟩
    obtain ⟨qb, hqb⟩ : ∃ b, turnB l ⟨lo, hi⟩ false = b := ⟨_, rfl⟩
    obtain ⟨ql, hql⟩ : ∃ b, turnV l ⟨lo, hi⟩ false = b := ⟨_, rfl⟩
    have hpl16 : pl.length ≤ 16 := by rw [← hpl]; exact turnV_len _ _ _
    have hql16 : ql.length ≤ 16 := by rw [← hql]; exact turnV_len _ _ _
    have HPB := Lib.hid hpb
    have HPL := Lib.hid hpl
    have HQB := Lib.hid hqb
    have HQL := Lib.hid hql
    have hbb : (pb != pb) = false := by simp
    have hqq : (qb != qb) = false := by simp
    have Y0 : Ext w (w1.alloc (.cells #[.int .i64 lo, .int .i64 hi] 25)) := ext_to X1 _
    have hcon := c_iRangesPlus Al cl l lo hi _ (r1.keep (ext_alloc w1 (.cells #[.int .i64 lo, .int .i64 hi] 25))) (by omega)
    rw [hpb, hpl] at hcon
    clear hpb hpl hqb hql
    go_wp2_with fail
    refine hcon.mono ?_
    rintro e w2 ⟨v2, rfl, o2, x2⟩
    obtain ⟨A2, c2, rfl⟩ := o2.form
    clear hcon
    have B2 := x2.box (hNew (w := w1) (o := .cells #[.int .i64 lo, .int .i64 hi] 25) rfl)
    have X2 := Ext.trans Y0 x2
    have r2 := (o2.rd Rng.enc_len).2
    have R2 := r1.keep (Ext.trans (ext_alloc w1 (.cells #[.int .i64 lo, .int .i64 hi] 25)) x2)
    have b2 := bx_cell B2
    have z2 := bx_lt B2
    clear o2 r1 Y0
    have hcon := c_iRangesLess Al cl l lo hi _ R2 (by omega)
    rw [HQB.out, HQL.out] at hcon
    go_wp2_with fail
    refine hcon.mono ?_
    rintro e w3 ⟨v3, rfl, o3, x3⟩
    obtain ⟨A3, c3, rfl⟩ := o3.form
    clear hcon b2 z2
    have B3 := x3.box B2
    have X3 := Ext.trans X2 x3
    have r3 := (o3.rd Rng.enc_len).2
    have R3 := R2.keep x3
    have S3 := r2.keep x3
    have b3 := bx_cell B3
    have z3 := bx_lt B3
    clear o3 B2 R2 r2
    have hcon := c_sRangesPlus Al cl l lo hi _ R3 (by omega)
    rw [HPB.out, HPL.out] at hcon
    go_wp2_with fail
    refine hcon.mono ?_
    rintro e w4 ⟨v4, rfl, o4, x4⟩
    obtain ⟨A4, c4, rfl⟩ := o4.form
    clear hcon b3 z3 o4
    have B4 := x4.box B3
    have X4 := Ext.trans X3 x4
    have R4 := R3.keep x4
    have S4 := S3.keep x4
    have T4 := r3.keep x4
    have b4 := bx_cell B4
    have z4 := bx_lt B4
    clear B3 R3 S3 r3
    have hcon := c_sRangesLess Al cl l lo hi _ R4 (by omega)
    rw [HQB.out, HQL.out] at hcon
    go_wp2_with fail
    refine hcon.mono ?_
    rintro e w5 ⟨v5, rfl, o5, x5⟩
    obtain ⟨A5, c5, rfl⟩ := o5.form
    clear hcon b4 z4 o5
    have B5 := x5.box B4
    have X5 := Ext.trans X4 x5
    have R5 := R4.keep x5
    have S5 := S4.keep x5
    have T5 := T4.keep x5
    clear B4 R4 S4 T4
    have HX5 := Lib.hid X5
    have HB5 := Lib.hid B5
    clear X1 X2 X3 X4 X5 B5
    go_wp2
    go_loopw [13] (fun i wr => ∃ k : Nat, k ≤ 60 ∧ i = .int .i64 k ∧ Ext w5 wr) (fun i _ => 60 - (intOf i).toNat)
    case atStart => exact ⟨0, by omega, rfl, ext_refl _⟩
    case round =>
      obtain ⟨k, hk, rfl, XR⟩ := hrel
      have BR := XR.box HB5.out
      have RR := R5.keep XR
      have SR := S5.keep XR
      have TR := T5.keep XR
      have br := bx_cell BR
      have zr := bx_lt BR
      by_cases hlt : k < 60
      · obtain ⟨H, hH⟩ : ∃ H, haveV l k (k + 1) = H := ⟨_, rfl⟩
        have HPc := Lib.hid (show pb = true → ∀ W, Ext wr W → Calls Try.prog 46 #[.slice A2 pl.length c2, .agg #[.int .i64 k, .int .i64 (k + 1)]] W fun e w' => e = .returned (.bool ((decide (lo ≤ (k : Int)) && decide ((k : Int) < hi)) || H)) ∧ Ext W w' from fun hp W hW => by
          have h := c_iRangesHave A2 c2 pl k (k + 1) W (SR.keep hW) (by omega)
          have e : (rangesOk pl && Rng.ok ⟨k, k + 1⟩ && haveB pl k (k + 1)) = ((decide (lo ≤ (k : Int)) && decide ((k : Int) < hi)) || H) := by
            show haveV pl k (k + 1) = _
            rw [← HPL.out, turn_have_plus (HPB.out.trans hp) hlt, hH, rhas_if]
          rw [e] at h
          exact h)
        have HQc := Lib.hid (show qb = true → ∀ W, Ext wr W → Calls Try.prog 46 #[.slice A3 ql.length c3, .agg #[.int .i64 k, .int .i64 (k + 1)]] W fun e w' => e = .returned (.bool (!(decide (lo ≤ (k : Int)) && decide ((k : Int) < hi)) && H)) ∧ Ext W w' from fun hp W hW => by
          have h := c_iRangesHave A3 c3 ql k (k + 1) W (TR.keep hW) (by omega)
          have e : (rangesOk ql && Rng.ok ⟨k, k + 1⟩ && haveB ql k (k + 1)) = (!(decide (lo ≤ (k : Int)) && decide ((k : Int) < hi)) && H) := by
            show haveV ql k (k + 1) = _
            rw [← HQL.out, turn_have_less (HQB.out.trans hp) hlt, hH, rhas_if]
          rw [e] at h
          exact h)
        have HS := Lib.hid (show ∀ W, Ext wr W → Calls Try.prog 45 #[.slice Al l.length cl, .agg #[.int .i64 k, .int .i64 (k + 1)]] W fun e w' => e = .returned (.bool H) ∧ Ext W w' from fun W hW => by
          have h := c_sRangesHave Al cl l k (k + 1) W (RR.keep hW) (by omega)
          rw [show (rangesOk l && Rng.ok ⟨k, k + 1⟩ && haveB l k (k + 1)) = H from hH] at h
          exact h)
        clear hH br zr
        obtain ⟨I1, hI1⟩ : ∃ b, decide (lo ≤ (k : Int)) = b := ⟨_, rfl⟩
        obtain ⟨I2, hI2⟩ : ∃ b, decide ((k : Int) < hi) = b := ⟨_, rfl⟩
        rw [hI1, hI2] at HPc HQc
        have XO := ext_alloc wr (.cells #[.int .i64 k, .int .i64 (k + 1)] 25)
        go_wp2_with fail
        refine (HS.out _ XO).mono ?_
        rintro e wa ⟨rfl, xa⟩
        have BA := xa.box (hOld (o := .cells #[.int .i64 k, .int .i64 (k + 1)] 25) BR)
        have BO := xa.box (hNew (w := wr) (o := .cells #[.int .i64 k, .int .i64 (k + 1)] 25) rfl)
        have XA := Ext.trans XO xa
        have HXR := Lib.hid XR
        clear XR XO xa BR
        have ba := bx_cell BA
        have za := bx_lt BA
        have bo := bx_cell BO
        have zo := bx_lt BO
        have HBA := Lib.hid BA
        have HBO := Lib.hid BO
        clear BA BO
        cases pb
        · cases qb
          · cases I1 <;> cases I2 <;> cases H
            all_goals
              go_wp2
              go_roundw
            all_goals first
              | exact ⟨k + 1, by omega, by go_num, Ext.trans HXR.out XA⟩
              | (simp [intOf] <;> omega)
          · cases I1 <;> cases I2 <;> cases H
            all_goals
              go_wp2_with fail
              refine (HQc.out (by first | rfl | trivial) _ XA).mono ?_
              rintro e wb ⟨rfl, xb⟩
              go_wp2
              go_roundw
            all_goals first
              | exact ⟨k + 1, by omega, by go_num, Ext.trans HXR.out (Ext.trans XA xb)⟩
              | (simp [intOf] <;> omega)
        · cases qb
          · cases I1 <;> cases I2 <;> cases H
            all_goals
              go_wp2_with fail
              refine (HPc.out (by first | rfl | trivial) _ XA).mono ?_
              rintro e wb ⟨rfl, xb⟩
              go_wp2
              go_roundw
            all_goals first
              | exact ⟨k + 1, by omega, by go_num, Ext.trans HXR.out (Ext.trans XA xb)⟩
              | (simp [intOf] <;> omega)
          · cases I1 <;> cases I2 <;> cases H
            all_goals
              go_wp2_with fail
              refine (HPc.out (by first | rfl | trivial) _ XA).mono ?_
              rintro e wb ⟨rfl, xb⟩
              have bo := bx_cell (xb.box HBO.out)
              have zo := bx_lt (xb.box HBO.out)
              go_wp2_with fail
              refine (HQc.out (by first | rfl | trivial) _ (Ext.trans XA xb)).mono ?_
              rintro e wc ⟨rfl, xc⟩
              go_wp2
              go_roundw
            all_goals first
              | exact ⟨k + 1, by omega, by go_num, Ext.trans HXR.out (Ext.trans XA (Ext.trans xb xc))⟩
              | (simp [intOf] <;> omega)
      · obtain rfl : k = 60 := by omega
        have hcR := Lib.hid (show pb = true → ∀ W, Ext wr W → Calls Try.prog 30 #[.slice A2 pl.length c2] W fun e w' => e = .returned (.bool true) ∧ Ext W w' from fun hp W hW => by
          have h := c_iRangesOk A2 c2 pl W (SR.keep hW) (by omega)
          rw [show rangesOk pl = true by rw [← HPL.out]; exact turn_ok (HPB.out.trans hp)] at h
          exact h)
        have hcH := Lib.hid (show pb = true → ∀ W, Ext wr W → Calls Try.prog 46 #[.slice A2 pl.length c2, .agg #[.int .i64 lo, .int .i64 hi]] W fun e w' => e = .returned (.bool true) ∧ Ext W w' from fun hp W hW => by
          have h := c_iRangesHave A2 c2 pl lo hi W (SR.keep hW) (by omega)
          rw [show (rangesOk pl && Rng.ok ⟨lo, hi⟩ && haveB pl lo hi) = true by
            show haveV pl lo hi = true
            rw [← HPL.out]; exact turn_plus (HPB.out.trans hp)] at h
          exact h)
        have HXR := Lib.hid XR
        have HBR := Lib.hid BR
        clear RR SR TR XR BR br zr
        cases pb
        · have br := bx_cell HBR.out
          have zr := bx_lt HBR.out
          go_wp2_with fail
          refine (c_iRangeMeet lo hi 3 20 _).mono ?_
          rintro e wm ⟨rfl, xm⟩
          have XM := Lib.hid (Ext.trans (Ext.trans HX5.out HXR.out) xm)
          have BM := xm.box HBR.out
          clear br zr
          have br := bx_cell BM
          have zr := bx_lt BM
          have HBM := Lib.hid BM
          obtain ⟨mb, hmb⟩ : ∃ b, meetB ⟨lo, hi⟩ ⟨3, 20⟩ = b := ⟨_, rfl⟩
          obtain ⟨mr, hmr⟩ : ∃ b, meetV ⟨lo, hi⟩ ⟨3, 20⟩ = b := ⟨_, rfl⟩
          have HIN := Lib.hid (show mb = true → ∀ W, Calls Try.prog 23 #[.agg #[.int .i64 mr.lo, .int .i64 mr.hi], .agg #[.int .i64 lo, .int .i64 hi]] W fun e w' => e = .returned (.bool true) ∧ Ext W w' from fun hp W => by
            have h := c_iRangeIn mr.lo mr.hi lo hi W
            have e := meet_in (hmb.trans hp)
            rw [hmr] at e
            rw [show (Rng.ok ⟨mr.lo, mr.hi⟩ && Rng.ok ⟨lo, hi⟩ && decide (lo ≤ mr.lo) && decide (mr.hi ≤ hi)) = true from e] at h
            exact h)
          have hml := meet_law lo hi
          rw [hmb] at hml
          obtain ⟨ok, hok⟩ : ∃ b, Rng.ok ⟨lo, hi⟩ = b := ⟨_, rfl⟩
          obtain ⟨D1, hD1⟩ : ∃ b, decide (lo < 20) = b := ⟨_, rfl⟩
          obtain ⟨D2, hD2⟩ : ∃ b, decide (3 < hi) = b := ⟨_, rfl⟩
          rw [hok, hD1, hD2] at hml
          have HOK := Lib.hid (show ∀ W, Calls Try.prog 19 #[.agg #[.int .i64 lo, .int .i64 hi]] W fun e w' => e = .returned (.bool ok) ∧ Ext W w' from fun W => by rw [← hok]; exact c_sRangeOk lo hi W)
          rw [hmb, hmr]
          clear hmb hmr hok xm BM
          go_wp2_with fail
          refine (HOK.out _).mono ?_
          rintro e wo ⟨rfl, xo⟩
          clear br zr
          have BOo := xo.box (hOld (o := .cells #[.int .i64 mr.lo, .int .i64 mr.hi] 25) HBM.out)
          have MOo := xo.box (hNew (w := wm) (o := .cells #[.int .i64 mr.lo, .int .i64 mr.hi] 25) rfl)
          have br := bx_cell BOo
          have zr := bx_lt BOo
          have bm := bx_cell MOo
          have zm := bx_lt MOo
          have XO := Lib.hid (Ext.trans XM.out (Ext.trans (ext_alloc _ _) xo))
          clear BOo MOo xo
          cases ok <;> cases D1 <;> cases D2 <;> simp only [Bool.and_true, Bool.and_false, Bool.false_and, Bool.true_and] at hml <;> subst hml
          all_goals first
            | (go_wp2; go_ret; exact ⟨rfl, XO.out⟩)
            | (go_wp2_with fail; refine (HIN.out (by first | rfl | trivial) _).mono ?_; rintro e wz ⟨rfl, xz⟩; go_wp2; go_ret; exact ⟨rfl, Ext.trans XO.out xz⟩)
        · go_wp2_with fail
          refine (hcR.out (by first | rfl | trivial) _ (ext_refl _)).mono ?_
          rintro e wa ⟨rfl, xa⟩
          have br := bx_cell (xa.box HBR.out)
          have zr := bx_lt (xa.box HBR.out)
          go_wp2_with fail
          refine (hcH.out (by first | rfl | trivial) _ xa).mono ?_
          rintro e wb ⟨rfl, xb⟩
          clear br zr
          have br := bx_cell (xb.box (xa.box HBR.out))
          have zr := bx_lt (xb.box (xa.box HBR.out))
          go_wp2_with fail
          refine (c_iRangeMeet lo hi 3 20 _).mono ?_
          rintro e wm ⟨rfl, xm⟩
          have XM := Lib.hid (Ext.trans (Ext.trans HX5.out (Ext.trans HXR.out (Ext.trans xa xb))) xm)
          have BM := xm.box (xb.box (xa.box HBR.out))
          clear br zr
          have br := bx_cell BM
          have zr := bx_lt BM
          have HBM := Lib.hid BM
          obtain ⟨mb, hmb⟩ : ∃ b, meetB ⟨lo, hi⟩ ⟨3, 20⟩ = b := ⟨_, rfl⟩
          obtain ⟨mr, hmr⟩ : ∃ b, meetV ⟨lo, hi⟩ ⟨3, 20⟩ = b := ⟨_, rfl⟩
          have HIN := Lib.hid (show mb = true → ∀ W, Calls Try.prog 23 #[.agg #[.int .i64 mr.lo, .int .i64 mr.hi], .agg #[.int .i64 lo, .int .i64 hi]] W fun e w' => e = .returned (.bool true) ∧ Ext W w' from fun hp W => by
            have h := c_iRangeIn mr.lo mr.hi lo hi W
            have e := meet_in (hmb.trans hp)
            rw [hmr] at e
            rw [show (Rng.ok ⟨mr.lo, mr.hi⟩ && Rng.ok ⟨lo, hi⟩ && decide (lo ≤ mr.lo) && decide (mr.hi ≤ hi)) = true from e] at h
            exact h)
          have hml := meet_law lo hi
          rw [hmb] at hml
          obtain ⟨ok, hok⟩ : ∃ b, Rng.ok ⟨lo, hi⟩ = b := ⟨_, rfl⟩
          obtain ⟨D1, hD1⟩ : ∃ b, decide (lo < 20) = b := ⟨_, rfl⟩
          obtain ⟨D2, hD2⟩ : ∃ b, decide (3 < hi) = b := ⟨_, rfl⟩
          rw [hok, hD1, hD2] at hml
          have HOK := Lib.hid (show ∀ W, Calls Try.prog 19 #[.agg #[.int .i64 lo, .int .i64 hi]] W fun e w' => e = .returned (.bool ok) ∧ Ext W w' from fun W => by rw [← hok]; exact c_sRangeOk lo hi W)
          rw [hmb, hmr]
          clear hmb hmr hok xm BM
          go_wp2_with fail
          refine (HOK.out _).mono ?_
          rintro e wo ⟨rfl, xo⟩
          clear br zr
          have BOo := xo.box (hOld (o := .cells #[.int .i64 mr.lo, .int .i64 mr.hi] 25) HBM.out)
          have MOo := xo.box (hNew (w := wm) (o := .cells #[.int .i64 mr.lo, .int .i64 mr.hi] 25) rfl)
          have br := bx_cell BOo
          have zr := bx_lt BOo
          have bm := bx_cell MOo
          have zm := bx_lt MOo
          have XO := Lib.hid (Ext.trans XM.out (Ext.trans (ext_alloc _ _) xo))
          clear BOo MOo xo
          cases ok <;> cases D1 <;> cases D2 <;> simp only [Bool.and_true, Bool.and_false, Bool.false_and, Bool.true_and] at hml <;> subst hml
          all_goals first
            | (go_wp2; go_ret; exact ⟨rfl, XO.out⟩)
            | (go_wp2_with fail; refine (HIN.out (by first | rfl | trivial) _).mono ?_; rintro e wz ⟨rfl, xz⟩; go_wp2; go_ret; exact ⟨rfl, Ext.trans XO.out xz⟩)
  · go_enter Try.func16, Try.ntmps16
    go_wp2_with fail
    refine (c_big_yes A n c w (by omega) (by omega)).mono ?_
    rintro e w0 ⟨rfl, x0⟩
    go_wp2
    go_ret
    exact ⟨rfl, x0⟩

end Go.Proofs.Ytinfkgbgeajphaa.l16
