/- FnSpoilt: for every input the law returns true. No condition. -/
import Derived.Test.YtpghedeghoegmaaPk39
import Derived.Deep.CutRange
namespace Go.Proofs.Ytpghedeghoegmaa.l33
open Go.ChangeShapes Go.WideShapes Go.ChangeAt Go.RowKit Go.Joins Go.Deep Go.Sort
set_option linter.unusedVariables false
set_option linter.unusedSimpArgs false
theorem c_at (A : Option Addr) (n c i : Nat) (w : World) (hb : BytesR w A n) (hn : n ≤ 1048576) (hi : i ≤ 100) : Calls Try.prog 24 #[.slice A n c, .int .i64 i] w fun e w' => (∃ x : Nat, e = .returned (.int .i64 x) ∧ x ≤ 255) ∧ Ext w w' := by
 by_cases h : i < n
 ·obtain ⟨b, o, rfl, hbl, hcell⟩ := hb (by omega)
  obtain ⟨y, hy, hc⟩ := hcell i h
  have hd : decide ((i : Int) < (n : Int)) = true := by simp; omega
  clear hcell
  go_enter Try.func24, Try.ntmps24
  go_wp2
  go_ret
  exact ⟨⟨y, rfl, hy⟩, ext_refl _⟩
 ·have hd : decide ((i : Int) < (n : Int)) = false := by simp; omega
  have hw1 : IntKind.i64.wrap ((i : Int) * 7) = (i : Int) * 7 := by rw [IntKind.wrap_i64]; omega
  have hw2 : IntKind.i64.wrap ((i : Int) * 7 + (n : Int)) = (i : Int) * 7 + (n : Int) := by rw [IntKind.wrap_i64]; omega
  have hm : ((i : Int) * 7 + (n : Int)).tmod 256 = (((i * 7 + n) % 256 : Nat) : Int) := by rw [Int.tmod_eq_emod_of_nonneg (by omega)]; omega
  go_enter Try.func24, Try.ntmps24
  go_wp2
  go_ret
  exact ⟨⟨(i * 7 + n) % 256, ret_int (by omega), by omega⟩, ext_refl _⟩
theorem bytes_keep {w w' : World} {A : Option Addr} {n : Nat} (h : BytesR w A n) (x : Ext w w') : BytesR w' A n := fun h0 => by
 obtain ⟨b, o, e, hb, hc⟩ := h h0
 exact ⟨b, o, e, Nat.lt_of_lt_of_le hb x.size, fun k hk => by
  obtain ⟨y, hy, hy2⟩ := hc k hk
  exact ⟨y, hy, (old_cell x hb).trans hy2⟩⟩
theorem head_of {m : Mg} (h : iFits m = true) : ∃ hd : Nat, getZ (packM m) 0 = some (((packZ (msgNums m)).length : Int), hd) ∧ hd = (putN (packZ (msgNums m)).length).length ∧ hd + 4 < (packM m).length := by
 have h1 := (body_put h).2
 have h3 : 1 ≤ (packZ (msgNums m)).length := by
  unfold msgNums packZ
  rw [List.flatMap_cons, List.length_append]
  have := putN_pos m.kind.toNat
  omega
 refine ⟨_, unfr_at (r := packZ (msgNums m) ++ le4 (crc (packZ (msgNums m)))) h1 rfl, rfl, ?_⟩
 unfold packM frame
 rw [List.length_append, List.length_append, le4_len]
 omega
theorem spoilt_msg {m : Mg} (h : iFits m = true) {i y : Nat} (h0 : (putN (packZ (msgNums m)).length).length ≤ i) (h1 : i < (packM m).length) (hy : y < 256) (hne : ∀ h : i < (packM m).length, y ≠ (packM m)[i]) : unpackM ((packM m).set i y) = (Mg.z, 1) :=
 unpack_spoilt (spoilt (packZ_bytes _) (body_put h).2 h0 h1 hy hne)
set_option maxHeartbeats 16000000 in
set_option maxRecDepth 100000 in
theorem walk (A : Option Addr) (n c : Nat) (w : World) (hb : BytesR w A n) (hnc : n ≤ c) (hcm : c ≤ 9223372036854775807) : Calls Try.prog 5 #[.slice A n c] w fun e w' => e = .returned (.bool true) ∧ Ext w w' := by
 by_cases hn : n ≤ 1048576
 ·have HCO := Hd (fun W (h : Ext w W) => code_keep hn hb h)
  have HB := Hd hb
  clear hb
  go_enter Try.func5, Try.ntmps5
  go_wp2_with fail
  refine (c_big_no A n c w hn).mono ?_
  rintro e w0 ⟨rfl, x0⟩
  have X0 := Hd x0
  clear x0
  go_wp2_with fail
  refine (c_DrawPackMsg A n c w0 (HCO.out _ X0.out) hnc hcm).mono ?_
  rintro e w1 ⟨⟨a, m, rfl, hr, hl1, hl2, hl3⟩, x1⟩
  have HS := Hd (show m.log.small from ⟨by omega, by omega, by omega⟩)
  have Z1 := Hd (hNew (w := w1) (o := mz9) rfl)
  have X1 := Hd (Ext.trans X0.out x1)
  have R1 := Hd hr
  have HPF := Hd (packV_facts m)
  clear hl1 hl2 hl3 hr x1 X0
  (go_wp2_with (with_reducible refine wl_stopS 46 ?_); refine stop_store (w1.heap.size) (Mg.cs a m) rfl rfl (Z1.out) (by kernel_rfl) rfl (by simp [Value.oneCell']) ?_)
  intro w2 e2 k2
  have x2 := chg_new (ext_alloc w1 mz9) k2 (Nat.le_refl _)
  have D2 := Hd e2
  have X2 := Hd (Ext.trans X1.out x2)
  have R2 := Hd (R1.out.keep x2)
  have X2z := X2.out.size
  clear e2 k2 x2 X1 R1 Z1
  obtain ⟨p, hp⟩ : ∃ p, w1.heap.size = p := ⟨_, rfl⟩
  rw [hp] at D2
  (try rw [hp])
  clear hp
  (go_wp2_with (with_reducible refine wl_stop 19 ?_); refine stop_load (D2.out) rfl Try.underlying46 (by kernel_rfl) ?_; simp only [Act.put, Sa, Sz, Ss])
  obtain ⟨Q, b, hQ⟩ : ∃ Q b, packV m = (Q, b) := ⟨_, _, rfl⟩
  have HI := Hd (show Calls Try.prog 10 #[Mg.val a m] w2 fun e w' => (∃ A' c', e = .returned (.tuple #[.slice A' Q.length c', .bool b]) ∧ Ow bEnc 5 1 w' w2.heap.size (.slice A' Q.length c') Q) ∧ Ext w2 w' from by
   have := c_iPackMsg a m w2 HS.out R2.out
   rw [hQ] at this
   exact this)
  have HPQ := HPF.out
  rw [hQ] at HPQ
  have HPq := Hd HPQ
  have HQ := Hd hQ
  clear hQ HPQ HPF
  go_wp2_with fail
  refine HI.out.mono ?_
  rintro e w3 ⟨⟨A3, c3, rfl, o3⟩, x3⟩
  have O3 := Hd o3
  have D3 := Hd (x3.box D2.out)
  have X3 := Hd (Ext.trans X2.out x3)
  have R3 := Hd (R2.out.keep x3)
  clear o3 x3 D2 X2 R2 HI
  (go_wp2_with (with_reducible refine wl_stop 23 ?_); refine stop_load (D3.out) rfl Try.underlying46 (by kernel_rfl) ?_; simp only [Act.put, Sa, Sz, Ss])
  have HF := Hd (show ∀ W, LgR W a m.log → Calls Try.prog 22 #[Mg.val a m] W fun e w' => e = .returned (.bool (iFits m)) ∧ Ext W w' from fun W h => by
   have := c_sMsgFits a m W HS.out h
   rw [← fits_eq] at this
   exact this)
  cases q : iFits m
  ·have hQ := HQ.out
   rw [packV_no q] at hQ
   simp only [Prod.mk.injEq] at hQ
   obtain ⟨rfl, rfl⟩ := hQ
   rw [q] at HF
   clear HQ HPq q
   go_wp2_with fail
   refine (HF.out _ R3.out).mono ?_
   rintro e w4 ⟨rfl, x4⟩
   have X4 := Hd (Ext.trans X3.out x4)
   clear x4 O3 D3 X3 R3 HF
   go_wp2
   go_ret
   exact ⟨rfl, X4.out⟩
  ·have hQ := HQ.out
   rw [packV_yes q] at hQ
   simp only [Prod.mk.injEq] at hQ
   obtain ⟨hQ1, rfl⟩ := hQ
   rw [q] at HF
   obtain ⟨hd, hz, hhd, hd4⟩ := head_of q
   have HSp := Hd (fun (i y : Nat) => spoilt_msg (i := i) (y := y) q)
   rw [← hhd] at HSp
   rw [hQ1] at hz HSp hd4
   have h6 := HPq.out.2.2 rfl
   have h5 := HPq.out.1
   have HBy := Hd HPq.out.2.1
   have HZ := Hd hz
   have hl6 : decide ((Q.length : Int) < 6) = false := by simp; omega
   clear HQ HPq q hQ1 hhd hz
   go_wp2_with fail
   refine (HF.out _ R3.out).mono ?_
   rintro e w4 ⟨rfl, x4⟩
   have O4 := Hd (O3.out.kept x4)
   have X4 := Hd (Ext.trans X3.out x4)
   have HG := Hd (c_sGetNum A3 c3 Q 0 w4 ((O3.out.kept x4).rd bEnc_len).2 HBy.out (by omega) (by omega))
   rw [HZ.out] at HG
   clear x4 O3 D3 X3 R3 HF HZ
   go_wp2_with fail
   refine HG.out.mono ?_
   rintro e w5 ⟨rfl, x5⟩
   simp only [gT]
   have O5 := Hd (O4.out.kept x5)
   have X5 := Hd (Ext.trans X4.out x5)
   have hge : decide ((Q.length : Int) ≤ (hd : Int)) = false := by simp; omega
   clear x5 O4 X4 HG
   go_wp2_with fail
   refine (c_at A n c 1 w5 (bytes_keep HB.out X5.out) hn (by omega)).mono ?_
   rintro e w6 ⟨⟨x, rfl, hx⟩, x6⟩
   have O6 := Hd (O5.out.kept x6)
   have X6 := Hd (Ext.trans X5.out x6)
   have hwa : IntKind.i64.wrap ((x : Int) * 29) = (x : Int) * 29 := by rw [IntKind.wrap_i64]; omega
   have hwb : IntKind.i64.wrap ((Q.length : Int) - (hd : Int)) = (Q.length : Int) - (hd : Int) := by rw [IntKind.wrap_i64]; omega
   obtain ⟨r, hr1, hr2⟩ : ∃ r : Nat, ((x : Int) * 29).tmod ((Q.length : Int) - (hd : Int)) = (r : Int) ∧ r < Q.length - hd := ⟨(x * 29) % (Q.length - hd), by
    rw [Int.tmod_eq_emod_of_nonneg (by omega), show (Q.length : Int) - (hd : Int) = ((Q.length - hd : Nat) : Int) by omega]
    rfl, Nat.mod_lt _ (by omega)⟩
   have hnz : ((Q.length : Int) - (hd : Int) == 0) = false := by simp; omega
   obtain ⟨i, hi⟩ : ∃ i : Nat, hd + r = i := ⟨_, rfl⟩
   have hii : (hd : Int) + (r : Int) = (i : Int) := by omega
   have hiq : i < Q.length := by omega
   have hih : hd ≤ i := by omega
   obtain ⟨g, rfl, hgP, hgl⟩ := ownsRow_form (show w6.ownsRow w2.heap.size 5 1 (.slice A3 Q.length c3) Q.length (Q.flatMap bEnc) from O6.out) (by omega)
   obtain ⟨rb, ro, hA, hrl, e0⟩ := (O6.out.rd bEnc_len).2.atB hiq
   simp only [Option.some.injEq, Addr.mk.injEq] at hA
   obtain ⟨rfl, rfl, _⟩ := hA
   rw [Nat.zero_add] at e0
   have hbi := HBy.out Q[i] (List.getElem_mem hiq)
   obtain ⟨xi, hxi⟩ : ∃ q, Q[i] = q := ⟨_, rfl⟩
   have HXi := Hd (show ∀ h : i < Q.length, Q[i] = xi from fun _ => hxi)
   rw [hxi] at e0 hbi
   have HE0 := Hd e0
   have HH := Hd hgP
   have X2s := Hd X2z
   clear X2z
   clear hxi e0 O5 X5 x6 hgP
   go_wp2
   (refine Rm.wp_region_mix' (R := relE w6.heap.size) (fun _ _ _ => True) (fun _ _ _ _ _ hq => hq) 12 (by first | exact Nat.le_refl _ | omega | (simp; omega)) (by kernel_rfl) (by kernel_rfl) ?_; simp only [Tc, Tz, Dc, Dz])
   (iterate 5 (refine Rm.wpMix_plain rfl rfl ?_; go_big_quiet_step (fail); refine wpQuiet_nil ?_))
   (refine Rm.wpMix_load1 (fun W h => (World.cell?_of_block (a := ⟨g, i, none⟩) (h.block g hgl)).trans HE0.out) rfl rfl rfl Try.underlying5 rfl ?_; simp only [Act.put, Sa, Sz, Ss])
   (iterate 1 (refine Rm.wpMix_plain rfl rfl ?_; go_big_quiet_step (fail); refine wpQuiet_nil ?_))
   refine Rm.wpMix_call (fun v _ => ∃ x : Nat, v = .int .i64 x ∧ x ≤ 255) rfl rfl rfl (enters Try.func24 (by kernel_rfl) rfl) (fun _ _ _ h _ => h) (fun W9' h9 => (c_at A n c 2 W9' (bytes_keep HB.out (Ext.trans X6.out h9)) hn (by omega)).mono fun e w' ⟨⟨x, he, hx⟩, hxx⟩ => ⟨_, he, ⟨x, rfl, hx⟩, hxx⟩) rfl (fun v9 hv9 => ?_)
   obtain ⟨_, _, x2, rfl, hx2⟩ := hv9
   simp only [Act.put, Sa, Sz, Ss]
   obtain ⟨y2, hy2, hy8⟩ : ∃ y : Nat, (x2 : Int).tmod 8 = (y : Int) ∧ y < 8 := ⟨x2 % 8, by rw [Int.tmod_eq_emod_of_nonneg (by omega)]; rfl, Nat.mod_lt _ (by omega)⟩
   obtain ⟨sv, hsv, hpw⟩ := shl8 (y2 : Int) (by omega) (by omega)
   obtain ⟨zv, hzv, hz8, hzx⟩ := xor8 xi sv hbi hsv
   have HPw := Hd hpw
   have HPw2 := Hd (show (2 : Int) ^ y2 % 256 = (sv : Int) from hpw)
   clear hpw
   (iterate 4 (refine Rm.wpMix_plain rfl rfl ?_; go_big_quiet_step (fail); refine wpQuiet_nil ?_))
   refine Rm.wpMix_nil ?_
   rintro w7 ⟨h7, hj7⟩
   clear hj7
   have x7 : Ext w6 w7 := h7
   have O7 := Hd (O6.out.kept x7)
   have X7 := Hd (Ext.trans X6.out x7)
   have hfz := World.ownsRow.frozenAt (show w7.ownsRow w2.heap.size 5 1 (.slice (some ⟨g, 0, none⟩) Q.length c3) Q.length (Q.flatMap bEnc) from O7.out)
   have e7 : w7.cell? ⟨g, i, none⟩ = some (.int .u8 xi) := (World.cell?_of_block (a := ⟨g, i, none⟩) (x7.block g hgl)).trans HE0.out
   have S8 := own_setB O7.out (i := i) (y := zv) hiq
   have O8 := Hd S8.1
   have X8 := Hd (ext_grown X7.out S8.2 (fun k hk => by have h1 := HH.out; have h2 := X2s.out; simp only [Option.some.injEq] at hk; omega))
   have HB8 := Hd (byt_set HBy.out (i := i) (y := zv) (by omega))
   have HM := Hd (HSp.out i zv hih hiq hz8 (fun h => by rw [HXi.out h]; exact hzx))
   have hlq : (Q.set i zv).length = Q.length := List.length_set
   obtain ⟨Q2, hQ2⟩ : ∃ q, Q.set i zv = q := ⟨_, rfl⟩
   rw [hQ2] at O8 HB8 HM hlq
   have h7s := x7.size
   clear S8 O7 X7 h7 x7 O6 X6 HE0 HSp HXi hQ2
   (try rw [HPw.out])
   (try rw [HPw2.out])
   (try rw [hzv])
   have HUi := Hd (fun W (h : Ext (w7.setCell ⟨g, i, none⟩ (.int .u8 zv)) W) => c_iUnp (some ⟨g, 0, none⟩) c3 Q2 Mg.z 1 HM.out W ((O8.out.kept h).rd bEnc_len).2 HB8.out (by omega))
   have HUs := Hd (fun W (h : Ext (w7.setCell ⟨g, i, none⟩ (.int .u8 zv)) W) => c_sUnp (some ⟨g, 0, none⟩) c3 Q2 Mg.z 1 HM.out W ((O8.out.kept h).rd bEnc_len).2 HB8.out (by omega))
   rw [hlq] at HUi HUs
   clear hlq O8 HB8 HM
   go_wp2_with fail
   refine (HUi.out _ (ext_refl _)).mono ?_
   rintro e w9 ⟨⟨a9, rfl, r9⟩, x9⟩
   have Z9 := Hd (hNew (w := w9) (o := mz9) rfl)
   have T9 := Hd x9
   have R9 := Hd r9
   clear r9 x9 HUi hfz e7
   (go_wp2_with (with_reducible refine wl_stopS 46 ?_); refine stop_store (w9.heap.size) (Mg.cs a9 Mg.z) rfl rfl (Z9.out) (by kernel_rfl) rfl (by simp [Value.oneCell']) ?_)
   intro w10 e10 k10
   have x10 := chg_new (ext_alloc w9 mz9) k10 (Nat.le_refl _)
   have E10 := Hd e10
   have T10 := Hd (Ext.trans T9.out x10)
   have R10 := Hd (R9.out.keep x10)
   have HU10 := Hd (HUs.out _ (Ext.trans T9.out x10))
   clear e10 k10 x10 R9 T9 Z9 HUs
   obtain ⟨p9, hp9⟩ : ∃ p, w9.heap.size = p := ⟨_, rfl⟩
   rw [hp9] at E10
   (try rw [hp9])
   clear hp9
   go_wp2_with fail
   refine HU10.out.mono ?_
   rintro e w11 ⟨⟨a11, rfl, r11⟩, x11⟩
   have Z11 := Hd (hNew (w := w11) (o := mz9) rfl)
   have E1x := Hd (x11.box E10.out)
   have T1x := Hd (Ext.trans T10.out x11)
   have R1x := Hd (R10.out.keep x11)
   clear r11 x11 E10 T10 R10 HU10
   (go_wp2_with (with_reducible refine wl_stopS 46 ?_); refine stop_store (w11.heap.size) (Mg.cs a11 Mg.z) rfl rfl (Z11.out) (by kernel_rfl) rfl (by simp [Value.oneCell']) ?_)
   intro w12 e12 k12
   have x12 := chg_new (ext_alloc w11 mz9) k12 (Nat.le_refl _)
   have E11 := Hd (x12.box E1x.out)
   have T11 := Hd (Ext.trans T1x.out x12)
   have R11 := Hd (R1x.out.keep x12)
   clear e12 k12 x12 E1x T1x R1x Z11
   (go_wp2_with (with_reducible refine wl_stop 89 ?_); refine stop_loadG (E11.out) rfl rfl Try.underlying46 (by kernel_rfl) ?_; simp only [Act.put, Sa, Sz, Ss])
   go_wp2_with fail
   refine (c_iSameMsgS a9 LAd.none Mg.z w12 R11.out (lgz w12) (unpack_small (b := [0]) (k := 1) (by decide))).mono ?_
   rintro e w13 ⟨rfl, x13⟩
   have X13 := Hd (Ext.trans X8.out (Ext.trans T11.out x13))
   clear x13 E11 T11 R11
   go_wp2
   go_ret
   exact ⟨rfl, X13.out⟩
 ·go_enter Try.func5, Try.ntmps5
  go_wp2_with fail
  refine (c_big_yes A n c w (by omega) (by omega)).mono ?_
  rintro e w0 ⟨rfl, x0⟩
  go_wp2
  go_ret
  exact ⟨rfl, x0⟩
set_option maxRecDepth 100000 in
theorem lifted (os : Os) (started : os.Started) (H : Type) (enc : TypeId × Value → H) :
  ReturnsInHanded {} Try.checked os 5 .any (Rows.fnSpoiltSpec.pre6 enc Try.prog Try.f5 Rows.fnSpoiltRow.domain false) (Rows.fnSpoiltSpec.post enc Try.prog Try.f5 false true false false) := by
 refine returnsInHanded_of_change (C := Try.checked) own started (by kernel_rfl) Try.func5
  (ChangeSpec.witness6 (enc := enc) (C := Try.checked) false ⟨#[], #[.slice none 0 0], []⟩ 8 (by kernel_rfl) (by kernel_rfl) (by kernel_rfl) (by kernel_rfl)) ?_
 intro W base args ds gs before hval0 hW hcnd _
 have hval : ∀ (j : Nat) t v, Try.f5.params[j]? = some t → args[j]? = some v → Value.okWide Try.prog W .any base t v := hval0
 have hW' := hW
 obtain ⟨p, q, hA0, hV, rfl, hfz, hnd⟩ := hW
 have hA : DataW.TrodAll enc Try.prog W 0 (fun _ => true) true Try.f5.params.toList args.toList ds p := hA0
 rw [Try.params5] at hA hval
 obtain ⟨rfl, rfl⟩ := trodVars_none hV
 obtain ⟨v0, vs0, d0, ds0, p0, q0, hargs, rfl, rfl, h0, r0⟩ := trodAll_cons hA
 obtain ⟨rfl, rfl, rfl⟩ := trodAll_nil r0
 obtain rfl : args = #[v0] := by cases args; simp_all
 clear hA0 hval0
 refine Calls.mono (R := fun e W' => e = .returned (.bool true) ∧ Ext W W') ?_ (fun e W' ⟨he, hx⟩ => by
  subst he
  exact ⟨_, rfl, law_post laidOut Try.underlying4 hW' hx rfl rfl rfl rfl (by kernel_rfl) rfl⟩)
 clear hW'
 exact (by obtain ⟨A, n, c, rfl, h1, h2, h3⟩ := open_code (hval 0 _ _ rfl rfl) h0; exact walk A n c W h3 h1 (by unfold maxLen at h2; omega))
theorem over : Rows.fnSpoiltRow.holds Try.pinned (OpenSpec.ofChange Rows.fnSpoiltSpec) :=
 OpenClaim.holds_of_wide 5 Try.f5 rfl rfl rfl rfl rfl rfl rfl ⟨rfl, rfl, rfl, rfl, rfl⟩ rfl rfl rfl rfl rfl (by kernel_rfl) Try.func5 (by kernel_rfl)
  (of_decide_eq_true (by kernel_rfl)) (by unfold Func.isWrapper; first | (rw [if_pos (by decide +kernel)]; kernel_rfl) | (rw [if_neg (by decide +kernel)]; exact ⟨rfl, rfl⟩))
  (fun os started H enc _ => lifted os started H enc)
theorem proved : Rows.FnSpoiltSaid := over
end Go.Proofs.Ytpghedeghoegmaa.l33
