/- FnMsg: for every input the law returns true. No condition. -/
import Derived.Test.YtpghedeghoegmaaPk39
import Derived.Deep.CutRange
namespace Go.Proofs.Ytpghedeghoegmaa.l36
open Go.ChangeShapes Go.WideShapes Go.ChangeAt Go.RowKit Go.Joins Go.Deep Go.Sort
set_option linter.unusedVariables false
set_option linter.unusedSimpArgs false
set_option maxHeartbeats 16000000 in
set_option maxRecDepth 100000 in
theorem walk (A : Option Addr) (n c : Nat) (w : World) (hb : BytesR w A n) (hnc : n ≤ c) (hcm : c ≤ 9223372036854775807) : Calls Try.prog 6 #[.slice A n c] w fun e w' => e = .returned (.bool true) ∧ Ext w w' := by
 by_cases hn : n ≤ 1048576
 ·have HCO := Hd (fun W (h : Ext w W) => code_keep hn hb h)
  have HDU := Hd (fun W (h : Ext w W) => c_DrawUnpackMsg A n c W (code_keep hn hb h) hnc hcm)
  clear hb
  go_enter Try.func6, Try.ntmps6
  go_wp2_with fail
  refine (c_big_no A n c w hn).mono ?_
  rintro e w0 ⟨rfl, x0⟩
  have X0 := Hd x0
  clear x0
  go_wp2_with fail
  refine (c_DrawPackMsg A n c w0 (HCO.out _ X0.out) hnc hcm).mono ?_
  rintro e w1 ⟨⟨a, m, rfl, hr, hl1, hl2, hl3⟩, x1⟩
  have HS := Hd (show m.log.small from ⟨by omega, by omega, by omega⟩)
  have Z1 := Hd (hNew (w := w1) (o := mz9) rfl)
  have X1 := Hd (Ext.trans X0.out x1)
  have R1 := Hd hr
  have HPF := Hd (packV_facts m)
  clear hl1 hl2 hl3 hr x1 X0
  (go_wp2_with (with_reducible refine wl_stopS 46 ?_); refine stop_store (w1.heap.size) (Mg.cs a m) rfl rfl (Z1.out) (by kernel_rfl) rfl (by simp [Value.oneCell']) ?_)
  intro w2 e2 k2
  have x2 := chg_new (ext_alloc w1 mz9) k2 (Nat.le_refl _)
  have D2 := Hd e2
  have X2 := Hd (Ext.trans X1.out x2)
  have R2 := Hd (R1.out.keep x2)
  have X2z := X2.out.size
  clear e2 k2 x2 X1 R1 Z1
  obtain ⟨p, hp⟩ : ∃ p, w1.heap.size = p := ⟨_, rfl⟩
  rw [hp] at D2
  (try rw [hp])
  clear hp
  (go_wp2_with (with_reducible refine wl_stop 20 ?_); refine stop_load (D2.out) rfl Try.underlying46 (by kernel_rfl) ?_; simp only [Act.put, Sa, Sz, Ss])
  obtain ⟨Q, b, hQ⟩ : ∃ Q b, packV m = (Q, b) := ⟨_, _, rfl⟩
  have HI := Hd (show Calls Try.prog 10 #[Mg.val a m] w2 fun e w' => (∃ A' c', e = .returned (.tuple #[.slice A' Q.length c', .bool b]) ∧ Ow bEnc 5 1 w' w2.heap.size (.slice A' Q.length c') Q) ∧ Ext w2 w' from by
   have := c_iPackMsg a m w2 HS.out R2.out
   rw [hQ] at this
   exact this)
  have HPQ := HPF.out
  rw [hQ] at HPQ
  have HPq := Hd HPQ
  have HQ := Hd hQ
  clear hQ HPQ HPF
  go_wp2_with fail
  refine HI.out.mono ?_
  rintro e w3 ⟨⟨A3, c3, rfl, o3⟩, x3⟩
  have O3 := Hd o3
  have D3 := Hd (x3.box D2.out)
  have X3 := Hd (Ext.trans X2.out x3)
  have R3 := Hd (R2.out.keep x3)
  clear o3 x3 D2 X2 R2 HI
  (go_wp2_with (with_reducible refine wl_stop 25 ?_); refine stop_load (D3.out) rfl Try.underlying46 (by kernel_rfl) ?_; simp only [Act.put, Sa, Sz, Ss])
  have HF := Hd (show ∀ W, LgR W a m.log → Calls Try.prog 22 #[Mg.val a m] W fun e w' => e = .returned (.bool (iFits m)) ∧ Ext W w' from fun W h => by
   have := c_sMsgFits a m W HS.out h
   rw [← fits_eq] at this
   exact this)
  have hQ2 : b = iFits m := by
   have := congrArg Prod.snd HQ.out
   simp only at this
   rw [← this]
   cases q : iFits m
   ·rw [packV_no q]
   ·rw [packV_yes q]
  subst hQ2
  obtain ⟨qb, hqb⟩ : ∃ z, iFits m = z := ⟨_, rfl⟩
  rw [hqb] at HF HQ HPq
  rw [hqb]
  have hbb : (qb != qb) = false := by simp
  have HQB := Hd hqb
  clear hqb
  go_wp2_with fail
  refine (HF.out _ R3.out).mono ?_
  rintro e w4 ⟨rfl, x4⟩
  have O4 := Hd (O3.out.kept x4)
  have D4 := Hd (x4.box D3.out)
  have X4 := Hd (Ext.trans X3.out x4)
  have R4 := Hd (R3.out.keep x4)
  clear x4 O3 D3 X3 R3 HF
  go_upto_if 28 with fail
  go_cut [6, 7] from 29 to 41 (fun _ _ wx => Hid (Ext w wx))
  case first =>
   cases qb
   ·go_wp2_with fail
    go_meet
    exact X4
   ·have hQ := HQ.out
    rw [packV_yes HQB.out] at hQ
    simp only [Prod.mk.injEq] at hQ
    obtain ⟨hQ1, _⟩ := hQ
    have HU := Hd (c_iUnp A3 c3 Q m 0 (by rw [← hQ1]; exact unpack_pack HQB.out) w4 (O4.out.rd bEnc_len).2 HPq.out.2.1 (by have := HPq.out.1; omega))
    clear HQ HPq hQ1
    go_wp2_with fail
    refine HU.out.mono ?_
    rintro e w5 ⟨⟨a5, rfl, r5⟩, x5⟩
    have Z5 := Hd (hNew (w := w5) (o := mz9) rfl)
    have D5 := Hd (x5.box D4.out)
    have X5 := Hd (Ext.trans X4.out x5)
    have R5 := Hd (R4.out.keep x5)
    have S5 := Hd r5
    clear r5 x5 O4 D4 X4 R4 HU
    (go_wp2_with (with_reducible refine wl_stopS 46 ?_); refine stop_store (w5.heap.size) (Mg.cs a5 m) rfl rfl (Z5.out) (by kernel_rfl) rfl (by simp [Value.oneCell']) ?_)
    intro w6 e6 k6
    have x6 := chg_new (ext_alloc w5 mz9) k6 (Nat.le_refl _)
    have E6 := Hd e6
    have D6 := Hd (x6.box D5.out)
    have X6 := Hd (Ext.trans X5.out x6)
    have R6 := Hd (R5.out.keep x6)
    have S6 := Hd (S5.out.keep x6)
    clear e6 k6 x6 D5 X5 R5 S5 Z5
    obtain ⟨p5, hp5⟩ : ∃ p, w5.heap.size = p := ⟨_, rfl⟩
    rw [hp5] at E6
    (try rw [hp5])
    clear hp5
    (go_wp2_with (with_reducible refine wl_stop 37 ?_); refine stop_loadG (E6.out) rfl rfl Try.underlying46 (by kernel_rfl) ?_; simp only [Act.put, Sa, Sz, Ss])
    (go_wp2_with (with_reducible refine wl_stop 38 ?_); refine stop_loadG (D6.out) rfl rfl Try.underlying46 (by kernel_rfl) ?_; simp only [Act.put, Sa, Sz, Ss])
    go_wp2_with fail
    refine (c_iSameMsgS a5 a m w6 S6.out R6.out HS.out).mono ?_
    rintro e w4 ⟨rfl, x7⟩
    have X4 := Hd (Ext.trans X6.out x7)
    clear x7 E6 D6 X6 R6 S6
    go_wp2_with fail
    go_meet
    exact X4
  case rest =>
   have X4' := hcut
   clear hcut X4 O4 D4 R4 HQ HPq
   have X4 := X4'
   clear X4'
   go_wp2_with fail
   refine (HDU.out _ X4.out).mono ?_
   rintro e w8 ⟨⟨A8, c8, raw, rfl, r8, hy8, hl8⟩, x8⟩
   obtain ⟨g, k, hg⟩ : ∃ g k, unpackM raw = (g, k) := ⟨_, _, rfl⟩
   have HY := Hd hy8
   have X8 := Hd (Ext.trans X4.out x8)
   have R8 := Hd r8
   have HG := Hd hg
   have HSg := Hd (unpack_small hg)
   have HU8 := Hd (fun W (h : Ext w8 W) => c_iUnp A8 c8 raw g k hg W (r8.keep h) hy8 (by omega))
   have HV8 := Hd (fun W (h : Ext w8 W) => c_sUnp A8 c8 raw g k hg W (r8.keep h) hy8 (by omega))
   have hkk : (k != k) = false := by simp
   clear hy8 r8 x8 X4 hg
   go_wp2_with fail
   refine (HU8.out _ (ext_refl _)).mono ?_
   rintro e w9 ⟨⟨a9, rfl, r9⟩, x9⟩
   have Z9 := Hd (hNew (w := w9) (o := mz9) rfl)
   have R9 := Hd r9
   have T9 := Hd x9
   clear r9 x9 HU8
   (go_wp2_with (with_reducible refine wl_stopS 46 ?_); refine stop_store (w9.heap.size) (Mg.cs a9 g) rfl rfl (Z9.out) (by kernel_rfl) rfl (by simp [Value.oneCell']) ?_)
   intro w10 e10 k10
   have x10 := chg_new (ext_alloc w9 mz9) k10 (Nat.le_refl _)
   have E10 := Hd e10
   have T10 := Hd (Ext.trans T9.out x10)
   have R10 := Hd (R9.out.keep x10)
   have HV10 := Hd (HV8.out _ (Ext.trans T9.out x10))
   clear e10 k10 x10 R9 T9 Z9 HV8
   obtain ⟨p9, hp9⟩ : ∃ p, w9.heap.size = p := ⟨_, rfl⟩
   rw [hp9] at E10
   (try rw [hp9])
   clear hp9
   go_wp2_with fail
   refine HV10.out.mono ?_
   rintro e w11 ⟨⟨a11, rfl, r11⟩, x11⟩
   have Z11 := Hd (hNew (w := w11) (o := mz9) rfl)
   have E1x := Hd (x11.box E10.out)
   have T1x := Hd (Ext.trans T10.out x11)
   have R1x := Hd (R10.out.keep x11)
   clear r11 x11 E10 T10 R10 HV10
   (go_wp2_with (with_reducible refine wl_stopS 46 ?_); refine stop_store (w11.heap.size) (Mg.cs a11 g) rfl rfl (Z11.out) (by kernel_rfl) rfl (by simp [Value.oneCell']) ?_)
   intro w12 e12 k12
   have x12 := chg_new (ext_alloc w11 mz9) k12 (Nat.le_refl _)
   have E11 := Hd (x12.box E1x.out)
   have T11 := Hd (Ext.trans T1x.out x12)
   have R11 := Hd (R1x.out.keep x12)
   clear e12 k12 x12 E1x T1x R1x Z11
   by_cases hk : k = 0
   ·have hk0 : (k != 0) = false := by simp [hk]
    have hpu := pack_unpack (fun y hy => by have := HY.out y hy; omega) (show unpackM raw = (g, 0) by rw [HG.out, hk])
    have HP := Hd (show ∀ W, LgR W a9 g.log → Calls Try.prog 10 #[Mg.val a9 g] W fun e w' => (∃ A' c', e = .returned (.tuple #[.slice A' raw.length c', .bool true]) ∧ Ow bEnc 5 1 w' W.heap.size (.slice A' raw.length c') raw) ∧ Ext W w' from fun W h => by
     have := c_iPackMsg a9 g W HSg.out h
     rw [packV_yes hpu.2, ← hpu.1] at this
     exact this)
    have hl0 := (packV_facts g).2.2
    rw [packV_yes hpu.2] at hl0
    have hl6 := hl0 rfl
    simp only at hl6
    rw [← hpu.1] at hl6
    clear hpu hl0 hk
    (go_wp2_with (with_reducible refine wl_stop 63 ?_); refine stop_load (E11.out) rfl Try.underlying46 (by kernel_rfl) ?_; simp only [Act.put, Sa, Sz, Ss])
    go_wp2_with fail
    refine (HP.out _ R11.out).mono ?_
    rintro e w13 ⟨⟨A13, c13, rfl, o13⟩, x13⟩
    have cv1 := conv_bytes w13 A13 c13 raw (o13.rd bEnc_len).2 HY.out (by omega)
    have cv2 := conv_bytes w13 A8 c8 raw (R8.out.keep (Ext.trans T11.out x13)) HY.out (by omega)
    have X13 := Hd (Ext.trans X8.out (Ext.trans T11.out x13))
    clear o13 x13 E11 T11 R11 HP
    go_wp2
    go_ret
    exact ⟨rfl, X13.out⟩
   ·have hk0 : (k != 0) = true := by simp [hk]
    obtain rfl := unpack_bad HG.out hk
    clear hk
    (go_wp2_with (with_reducible refine wl_stop 59 ?_); refine stop_load (E11.out) rfl Try.underlying46 (by kernel_rfl) ?_; simp only [Act.put, Sa, Sz, Ss])
    go_wp2_with fail
    refine (c_iSameMsgS a9 LAd.none Mg.z w12 R11.out (lgz w12) HSg.out).mono ?_
    rintro e w13 ⟨rfl, x13⟩
    have X13 := Hd (Ext.trans X8.out (Ext.trans T11.out x13))
    clear x13 E11 T11 R11
    go_wp2
    go_ret
    exact ⟨rfl, X13.out⟩
 ·go_enter Try.func6, Try.ntmps6
  go_wp2_with fail
  refine (c_big_yes A n c w (by omega) (by omega)).mono ?_
  rintro e w0 ⟨rfl, x0⟩
  go_wp2
  go_ret
  exact ⟨rfl, x0⟩
set_option maxRecDepth 100000 in
theorem lifted (os : Os) (started : os.Started) (H : Type) (enc : TypeId × Value → H) :
  ReturnsInHanded {} Try.checked os 6 .any (Rows.fnMsgSpec.pre6 enc Try.prog Try.f6 Rows.fnMsgRow.domain false) (Rows.fnMsgSpec.post enc Try.prog Try.f6 false true false false) := by
 refine returnsInHanded_of_change (C := Try.checked) own started (by kernel_rfl) Try.func6
  (ChangeSpec.witness6 (enc := enc) (C := Try.checked) false ⟨#[], #[.slice none 0 0], []⟩ 8 (by kernel_rfl) (by kernel_rfl) (by kernel_rfl) (by kernel_rfl)) ?_
 intro W base args ds gs before hval0 hW hcnd _
 have hval : ∀ (j : Nat) t v, Try.f6.params[j]? = some t → args[j]? = some v → Value.okWide Try.prog W .any base t v := hval0
 have hW' := hW
 obtain ⟨p, q, hA0, hV, rfl, hfz, hnd⟩ := hW
 have hA : DataW.TrodAll enc Try.prog W 0 (fun _ => true) true Try.f6.params.toList args.toList ds p := hA0
 rw [Try.params6] at hA hval
 obtain ⟨rfl, rfl⟩ := trodVars_none hV
 obtain ⟨v0, vs0, d0, ds0, p0, q0, hargs, rfl, rfl, h0, r0⟩ := trodAll_cons hA
 obtain ⟨rfl, rfl, rfl⟩ := trodAll_nil r0
 obtain rfl : args = #[v0] := by cases args; simp_all
 clear hA0 hval0
 refine Calls.mono (R := fun e W' => e = .returned (.bool true) ∧ Ext W W') ?_ (fun e W' ⟨he, hx⟩ => by
  subst he
  exact ⟨_, rfl, law_post laidOut Try.underlying4 hW' hx rfl rfl rfl rfl (by kernel_rfl) rfl⟩)
 clear hW'
 exact (by obtain ⟨A, n, c, rfl, h1, h2, h3⟩ := open_code (hval 0 _ _ rfl rfl) h0; exact walk A n c W h3 h1 (by unfold maxLen at h2; omega))
theorem over : Rows.fnMsgRow.holds Try.pinned (OpenSpec.ofChange Rows.fnMsgSpec) :=
 OpenClaim.holds_of_wide 6 Try.f6 rfl rfl rfl rfl rfl rfl rfl ⟨rfl, rfl, rfl, rfl, rfl⟩ rfl rfl rfl rfl rfl (by kernel_rfl) Try.func6 (by kernel_rfl)
  (of_decide_eq_true (by kernel_rfl)) (by unfold Func.isWrapper; first | (rw [if_pos (by decide +kernel)]; kernel_rfl) | (rw [if_neg (by decide +kernel)]; exact ⟨rfl, rfl⟩))
  (fun os started H enc _ => lifted os started H enc)
theorem proved : Rows.FnMsgSaid := over
end Go.Proofs.Ytpghedeghoegmaa.l36
