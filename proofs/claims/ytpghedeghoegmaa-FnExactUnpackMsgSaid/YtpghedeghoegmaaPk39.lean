/- FnExactUnpackMsg: for every input the law returns true. No condition. -/
import Derived.Test.YtpghedeghoegmaaPk8
import Derived.Test.YtpghedeghoegmaaPk38
namespace Go.Proofs.Ytpghedeghoegmaa.l32
open Go.ChangeShapes Go.WideShapes Go.ChangeAt Go.RowKit Go.Joins Go.Deep Go.Sort
set_option linter.unusedVariables false
set_option linter.unusedSimpArgs false

theorem fit_lens {m : Mg} (h : iFits m = true) : m.log.cells.length ≤ 40 ∧ m.log.seats.length ≤ 10 ∧ m.log.ents.length ≤ 60 := by
  unfold iFits at h
  rw [Bool.and_eq_true] at h
  have h1 := h.2
  unfold iLog at h1
  split at h1
  · rw [Bool.and_eq_true] at h1
    exact log_lens (hasNum_ok h1.1).1
  · rw [isZ_eq h1]
    exact ⟨by show 0 ≤ 40; omega, by show 0 ≤ 10; omega, by show 0 ≤ 60; omega⟩
theorem zero_lens : Mg.z.log.cells.length ≤ 40 ∧ Mg.z.log.seats.length ≤ 10 ∧ Mg.z.log.ents.length ≤ 60 := ⟨by show 0 ≤ 40; omega, by show 0 ≤ 10; omega, by show 0 ≤ 60; omega⟩
theorem body_lens (b : List Nat) : (rdBody b).1.log.cells.length ≤ 40 ∧ (rdBody b).1.log.seats.length ≤ 10 ∧ (rdBody b).1.log.ents.length ≤ 60 := by
  unfold rdBody
  split
  · exact zero_lens
  · split
    · exact zero_lens
    · split
      · exact zero_lens
      · split
        · exact zero_lens
        · split
          · rename_i h
            exact fit_lens h
          · exact zero_lens
theorem unpack_lens (b : List Nat) : (unpackM b).1.log.cells.length ≤ 40 ∧ (unpackM b).1.log.seats.length ≤ 10 ∧ (unpackM b).1.log.ents.length ≤ 60 := by
  unfold unpackM
  split
  · exact body_lens _
  · exact zero_lens
set_option maxRecDepth 100000 in
set_option maxHeartbeats 8000000 in
theorem walk (A : Option Addr) (c : Nat) (b : List Nat) (w : World) (hr : Rd bEnc 1 w A c b) (hb : Byt b) : Calls Try.prog 4 #[.slice A b.length c] w fun e w' => e = .returned (.bool true) ∧ Ext w w' := by
  by_cases hn : b.length ≤ 1048576
  · have hg0 : decide ((1048576 : Int) < (b.length : Int)) = false := by simp; omega
    obtain ⟨m, code, hM⟩ : ∃ m code, unpackM b = (m, code) := ⟨_, _, rfl⟩
    have hs : m.log.small := by
      obtain ⟨h1, h2, h3⟩ := unpack_lens b
      rw [hM] at h1 h2 h3
      simp only at h1 h2 h3
      exact ⟨by show m.log.cells.length ≤ 1048576; omega, by show m.log.seats.length ≤ 1048576; omega, by show m.log.ents.length ≤ 1048576; omega⟩
    have HT := Lib.hid (fun W (h : Ext w W) => c_toByteS A c b W (hr.keep h) hn)
    have HS := Lib.hid (show ∀ (A2 : Option Addr) (c2 : Nat) W, Rd bEnc 1 W A2 c2 b → Calls Try.prog 16 #[.slice A2 b.length c2] W fun e w' => (∃ a, e = .returned (.tuple #[Mg.val a m, .int .i64 code]) ∧ LgF w' W.heap.size a m.log) ∧ Ext W w' from fun A2 c2 W h => (c_sUnpackMsg A2 c2 b W h hb hn).mono fun e w' ⟨⟨v, he, a, hv, hl⟩, hx⟩ => by
      rw [hM] at hv hl
      subst hv
      exact ⟨⟨a, he, hl⟩, hx⟩)
    have HI := Lib.hid (show ∀ (A2 : Option Addr) (c2 : Nat) W, Rd bEnc 1 W A2 c2 b → Calls Try.prog 18 #[.slice A2 b.length c2] W fun e w' => (∃ a, e = .returned (.tuple #[Mg.val a m, .int .i64 code]) ∧ LgQ w' W.heap.size a m.log) ∧ Ext W w' from fun A2 c2 W h => (c_iUnpackMsg A2 c2 b W h hb hn).mono fun e w' ⟨⟨v, he, a, hv, hl⟩, hx⟩ => by
      rw [hM] at hv hl
      subst hv
      exact ⟨⟨a, he, hl⟩, hx⟩)
    have HE := Lib.hid (fun (a1 a2 : LAd) W (h1 : LgR W a1 m.log) (h2 : LgR W a2 m.log) => c_eqMsg_same a1 a2 m hs W h1 h2)
    have HSm := Lib.hid hs
    have hcc : (code != code) = false := by simp
    have hmL0 := m.log.mN_pos
    have hmL1 := m.log.mN_small hs
    clear hM hr hs hb
    go_enter Try.func4, Try.ntmps4
    go_wp2_with fail
    refine (HT.out _ (ext_refl _)).mono ?_
    rintro e w1 ⟨g1, rfl, o1, x1⟩
    have R1 := Lib.hid (o1.rd bEnc_len).2
    have X1 := Lib.hid x1
    clear o1 x1
    go_wp2_with fail
    refine (HS.out _ _ _ R1.out).mono ?_
    rintro e w2 ⟨⟨a0, rfl, l0⟩, x2⟩
    have F2 := Lib.hid l0.rd
    have X2 := Lib.hid (Ext.trans X1.out x2)
    have Z2 := Lib.hid (hNew (w := w2) (o := mz9) rfl)
    clear l0 x2 R1 X1
    (go_wp2_with (with_reducible refine wl_stopS 46 ?_); refine stop_store (w2.heap.size) (Mg.cs a0 m) rfl rfl (Z2.out) (by kernel_rfl) rfl (by simp [Value.oneCell']) ?_)
    intro W2 e2 k2
    have x2 := chg_new (ext_alloc w2 mz9) k2 (Nat.le_refl _)
    have E2 := Lib.hid e2
    have F0 := Lib.hid (F2.out.keep x2)
    have X0 := Lib.hid (Ext.trans X2.out x2)
    clear e2 k2 x2 F2 X2 Z2
    obtain ⟨p2, hp2⟩ : ∃ p, w2.heap.size = p := ⟨_, rfl⟩
    rw [hp2] at E2
    go_wp2_with fail
    refine (HT.out _ X0.out).mono ?_
    rintro e w3 ⟨g3, rfl, o3, x3⟩
    have O3 := Lib.hid o3
    have T3 := Lib.hid x3
    have s3 := x3.size
    have R3 := Lib.hid (o3.rd bEnc_len).2
    clear o3 x3
    go_wp2_with fail
    refine (HI.out _ _ _ R3.out).mono ?_
    rintro e w4 ⟨⟨a1, rfl, q4⟩, x4⟩
    have Q4 := Lib.hid q4
    have T4 := Lib.hid (Ext.trans T3.out x4)
    have O4 := Lib.hid (O3.out.kept x4)
    have Z4 := Lib.hid (hNew (w := w4) (o := mz9) rfl)
    clear q4 x4 R3 O3 T3
    (go_wp2_with (with_reducible refine wl_stopS 46 ?_); refine stop_store (w4.heap.size) (Mg.cs a1 m) rfl rfl (Z4.out) (by kernel_rfl) rfl (by simp [Value.oneCell']) ?_)
    intro W4 e4 k4
    have x4 := chg_new (ext_alloc w4 mz9) k4 (Nat.le_refl _)
    have D4 := Lib.hid e4
    have E4 := Lib.hid ((Ext.trans T4.out x4).box E2.out)
    have Q5 := Lib.hid (Q4.out.kept x4)
    have T5 := Lib.hid (Ext.trans T4.out x4)
    have O5 := Lib.hid (O4.out.kept x4)
    clear e4 k4 x4 Q4 T4 O4 Z4
    obtain ⟨p4, hp4⟩ : ∃ p, w4.heap.size = p := ⟨_, rfl⟩
    rw [hp4] at D4
    (go_wp2_with (with_reducible refine wl_stop 29 ?_); refine stop_load (D4.out) rfl Try.underlying46 (by kernel_rfl) ?_; simp only [Act.put, List.setIfInBounds_toArray, List.set_cons_zero, List.set_cons_succ])
    (go_wp2_with (with_reducible refine wl_stop 30 ?_); refine stop_load (E4.out) rfl Try.underlying46 (by kernel_rfl) ?_; simp only [Act.put, List.setIfInBounds_toArray, List.set_cons_zero, List.set_cons_succ])
    go_wp2_with fail
    refine (HE.out a1 a0 _ Q5.out.f.rd (F0.out.keep T5.out)).mono ?_
    rintro e w5 ⟨rfl, x5⟩
    have D5 := Lib.hid (x5.box D4.out)
    have Q6 := Lib.hid (Q5.out.kept x5)
    have T6 := Lib.hid (Ext.trans T5.out x5)
    have O6 := Lib.hid (O5.out.kept x5)
    clear x5 D4 E4 Q5 T5 O5
    go_wp2_with fail
    refine (HT.out _ (Ext.trans X0.out T6.out)).mono ?_
    rintro e w6 ⟨g6, rfl, o6, x6⟩
    have R6 := Lib.hid (o6.rd bEnc_len).2
    have D6 := Lib.hid (x6.box D5.out)
    have Q7 := Lib.hid (Q6.out.kept x6)
    have T7 := Lib.hid (Ext.trans T6.out x6)
    have O7 := Lib.hid (O6.out.kept x6)
    clear o6 x6 D5 Q6 T6 O6
    go_wp2_with fail
    refine (c_eqByteS_same _ _ _ _ b w6 (O7.out.rd bEnc_len).2 R6.out (by omega)).mono ?_
    rintro e w7 ⟨rfl, x7⟩
    have D7 := Lib.hid (x7.box D6.out)
    have Q8 := Lib.hid (Q7.out.kept x7)
    have T8 := Lib.hid (Ext.trans T7.out x7)
    have O8 := Lib.hid (O7.out.kept x7)
    clear x7 D6 Q7 T7 O7 R6
    go_wp2_with fail
    refine (c_markByteS _ _ b _ 1 w7 O8.out (by omega) (by omega)).mono ?_
    rintro e w8 ⟨rfl, o8, h8⟩
    have D8 := Lib.hid (box_own D7.out O8.out h8 (by decide))
    have Q9 := Lib.hid (Q8.out.besideB O8.out h8)
    have T9 := Lib.hid (ext_app3 T8.out h8 O8.out (Nat.le_refl _))
    have E8 := Lib.hid (T9.out.box E2.out)
    obtain ⟨K, hK⟩ : ∃ K : Nat, 1 + b.length = K := ⟨_, rfl⟩
    rw [hK]
    have hk1 : decide ((K : Int) < 0) = false := by simp
    clear o8 h8 D7 Q8 T8 O8 hK
    (go_wp2_with (with_reducible refine wl_stop 49 ?_); refine stop_loadG (D8.out) rfl rfl Try.underlying46 (by kernel_rfl) ?_; simp only [Act.put, List.setIfInBounds_toArray, List.set_cons_zero, List.set_cons_succ])
    (go_wp2_with (with_reducible refine wl_stop 50 ?_); refine stop_loadG (E8.out) rfl rfl Try.underlying46 (by kernel_rfl) ?_; simp only [Act.put, List.setIfInBounds_toArray, List.set_cons_zero, List.set_cons_succ])
    go_wp2_with fail
    refine (HE.out a1 a0 _ Q9.out.f.rd (F0.out.keep T9.out)).mono ?_
    rintro e w9 ⟨rfl, x9⟩
    have D9 := Lib.hid (x9.box D8.out)
    have Q10 := Lib.hid (Q9.out.kept x9)
    have T10 := Lib.hid (Ext.trans T9.out x9)
    have HCM := Lib.hid (c_markMsgQ a1 m _ _ 1 w9 Q10.out.own (by omega) (by omega) HSm.out)
    obtain ⟨K4, hK4⟩ : ∃ K, 1 + m.log.mN = K := ⟨_, rfl⟩
    have hg14 : decide (K4 < 0) = false := by simp; omega
    have hg15 : (K4 != K4) = false := by simp
    rw [hK4] at HCM
    have HHe := Lib.hid (fun W (h : LgR W a1 (m.log.mk' 1 m.log.base)) => c_heldMsg a1 m 1 W h (by omega) (by omega) HSm.out)
    simp only [hK4] at HHe
    clear x9 D8 Q9 T9 E8 hK4 hmL0 hmL1
    (go_wp2_with (with_reducible refine wl_stop 59 ?_); refine stop_load (D9.out) rfl Try.underlying46 (by kernel_rfl) ?_; simp only [Act.put, List.setIfInBounds_toArray, List.set_cons_zero, List.set_cons_succ])
    go_wp2_with fail
    refine HCM.out.mono ?_
    rintro e w10 ⟨rfl, o10, c10⟩
    have D10 := Lib.hid (box_out D9.out c10 (lg_box_apart D9.out Q10.out.own (by decide) (by decide) (by decide)))
    have T11 := Lib.hid (ext_chg T10.out c10 (fun g hg => by have := Q10.out.own.low g hg; omega))
    have L10 := Lib.hid o10.rd
    clear o10 c10 D9 Q10 T10 HCM
    (go_wp2_with (with_reducible refine wl_stop 62 ?_); refine stop_load (D10.out) rfl Try.underlying46 (by kernel_rfl) ?_; simp only [Act.put, List.setIfInBounds_toArray, List.set_cons_zero, List.set_cons_succ])
    go_wp2_with fail
    refine (HHe.out _ L10.out).mono ?_
    rintro e w11 ⟨rfl, x11⟩
    have D11 := Lib.hid (x11.box D10.out)
    have T12 := Lib.hid (Ext.trans T11.out x11)
    have L11 := Lib.hid (L10.out.keep x11)
    clear x11 D10 T11 L10
    go_wp2_with fail
    refine (HT.out _ (Ext.trans X0.out T12.out)).mono ?_
    rintro e w12 ⟨g12, rfl, o12, x12⟩
    have R12 := Lib.hid (o12.rd bEnc_len).2
    have D12 := Lib.hid (x12.box D11.out)
    have T13 := Lib.hid (Ext.trans T12.out x12)
    have L12 := Lib.hid (L11.out.keep x12)
    clear o12 x12 D11 T12 L11
    go_wp2_with fail
    refine (HI.out _ _ _ R12.out).mono ?_
    rintro e w13 ⟨⟨a3, rfl, q13⟩, x13⟩
    have Q13 := Lib.hid q13.f.rd
    have D13 := Lib.hid (x13.box D12.out)
    have T14 := Lib.hid (Ext.trans T13.out x13)
    have L13 := Lib.hid (L12.out.keep x13)
    have Z13 := Lib.hid (hNew (w := w13) (o := mz9) rfl)
    clear q13 x13 D12 T13 L12 R12
    (go_wp2_with (with_reducible refine wl_stopS 46 ?_); refine stop_store (w13.heap.size) (Mg.cs a3 m) rfl rfl (Z13.out) (by kernel_rfl) rfl (by simp [Value.oneCell']) ?_)
    intro W14 e14 k14
    have x14 := chg_new (ext_alloc w13 mz9) k14 (Nat.le_refl _)
    have B14 := Lib.hid e14
    have Q14 := Lib.hid (Q13.out.keep x14)
    have D14 := Lib.hid (x14.box D13.out)
    have T15 := Lib.hid (Ext.trans T14.out x14)
    have L14 := Lib.hid (L13.out.keep x14)
    have E14 := Lib.hid (T15.out.box E2.out)
    clear e14 k14 x14 Q13 D13 T14 L13 Z13
    (go_wp2_with (with_reducible refine wl_stop 76 ?_); refine stop_load (B14.out) rfl Try.underlying46 (by kernel_rfl) ?_; simp only [Act.put, List.setIfInBounds_toArray, List.set_cons_zero, List.set_cons_succ])
    (go_wp2_with (with_reducible refine wl_stop 77 ?_); refine stop_load (E14.out) rfl Try.underlying46 (by kernel_rfl) ?_; simp only [Act.put, List.setIfInBounds_toArray, List.set_cons_zero, List.set_cons_succ])
    go_wp2_with fail
    refine (HE.out a3 a0 _ Q14.out (F0.out.keep T15.out)).mono ?_
    rintro e w15 ⟨rfl, x15⟩
    have D15 := Lib.hid (x15.box D14.out)
    have T16 := Lib.hid (Ext.trans T15.out x15)
    have L15 := Lib.hid (L14.out.keep x15)
    clear x15 B14 Q14 D14 T15 L14 E14
    (go_wp2_with (with_reducible refine wl_stop 85 ?_); refine stop_load (D15.out) rfl Try.underlying46 (by kernel_rfl) ?_; simp only [Act.put, List.setIfInBounds_toArray, List.set_cons_zero, List.set_cons_succ])
    go_wp2_with fail
    refine (HHe.out _ L15.out).mono ?_
    rintro e w16 ⟨rfl, x16⟩
    have HX := Lib.hid (Ext.trans X0.out (Ext.trans T16.out x16))
    clear x16 D15 T16 L15
    go_wp2
    go_ret
    exact ⟨rfl, HX.out⟩
  · have hg0 : decide ((1048576 : Int) < (b.length : Int)) = true := by simp; omega
    go_enter Try.func4, Try.ntmps4
    go_wp2
    go_ret
    exact ⟨rfl, ext_refl _⟩

set_option maxRecDepth 100000 in
theorem lifted (os : Os) (started : os.Started) (H : Type) (enc : TypeId × Value → H) :
    ReturnsInHanded {} Try.checked os 4 .any (Rows.fnExactUnpackMsgSpec.pre6 enc Try.prog Try.f4 Rows.fnExactUnpackMsgRow.domain false) (Rows.fnExactUnpackMsgSpec.post enc Try.prog Try.f4 false true false false) := by
  refine returnsInHanded_of_change (C := Try.checked) own started (by kernel_rfl) Try.func4
    (ChangeSpec.witness6 (enc := enc) (C := Try.checked) false ⟨#[], #[.slice none 0 0], []⟩ 8 (by kernel_rfl) (by kernel_rfl) (by kernel_rfl) (by kernel_rfl)) ?_
  intro W base args ds gs before hval0 hW hcnd _
  have hval : ∀ (j : Nat) t v, Try.f4.params[j]? = some t → args[j]? = some v → Value.okWide Try.prog W .any base t v := hval0
  have hW' := hW
  obtain ⟨p, q, hA0, hV, rfl, hfz, hnd⟩ := hW
  have hA : DataW.TrodAll enc Try.prog W 0 (fun _ => true) true Try.f4.params.toList args.toList ds p := hA0
  rw [Try.params4] at hA hval
  obtain ⟨rfl, rfl⟩ := trodVars_none hV
  obtain ⟨v0, vs0, d0, ds0, p0, q0, hargs, rfl, rfl, h0, r0⟩ := trodAll_cons hA
  obtain ⟨rfl, rfl, rfl⟩ := trodAll_nil r0
  obtain rfl : args = #[v0] := by cases args; simp_all
  clear hA0 hval0
  refine Calls.mono (R := fun e W' => e = .returned (.bool true) ∧ Ext W W') ?_ (fun e W' ⟨he, hx⟩ => by
    subst he
    exact ⟨_, rfl, law_post laidOut Try.underlying4 hW' hx rfl rfl rfl rfl (by kernel_rfl) rfl⟩)
  clear hW'
  exact (by obtain ⟨A, n, c, rfl, h1, h2, h3⟩ := open_code (hval 0 _ _ rfl rfl) h0; obtain ⟨b, rfl, hb, hr⟩ := bytes_rd h3 h1 h2; exact walk A c b W hr hb)

theorem over : Rows.fnExactUnpackMsgRow.holds Try.pinned (OpenSpec.ofChange Rows.fnExactUnpackMsgSpec) :=
  OpenClaim.holds_of_wide 4 Try.f4 rfl rfl rfl rfl rfl rfl rfl ⟨rfl, rfl, rfl, rfl, rfl⟩ rfl rfl rfl rfl rfl (by kernel_rfl) Try.func4 (by kernel_rfl)
    (of_decide_eq_true (by kernel_rfl)) (by unfold Func.isWrapper; first | (rw [if_pos (by decide +kernel)]; kernel_rfl) | (rw [if_neg (by decide +kernel)]; exact ⟨rfl, rfl⟩))
    (fun os started H enc _ => lifted os started H enc)

theorem proved : Rows.FnExactUnpackMsgSaid := over
end Go.Proofs.Ytpghedeghoegmaa.l32

