/- FnExactPackMsg: for every input the law returns true. No condition. -/
import Derived.Test.YtpghedeghoegmaaGg
import Derived.Test.YtpghedeghoegmaaPk
import Derived.Test.YtpghedeghoegmaaBe
namespace Go.Proofs.Ytpghedeghoegmaa.l31
open Go.ChangeShapes Go.WideShapes Go.ChangeAt Go.RowKit Go.Joins Go.Deep Go.Sort
set_option linter.unusedVariables false
set_option linter.unusedSimpArgs false

set_option maxHeartbeats 1000000 in
theorem c_markMsg (a : LAd) (m : Mg) (B T : Nat) (k : Int) (w : World) (h : LgO w B T a m.log) (h0 : 0 ≤ k) (h1 : k ≤ 1000000000) (hs : m.log.small) :
    Calls Try.prog 13 #[Mg.val a m, .int .i64 k] w fun e w' => e = .returned (.int .i64 (k + m.log.mN)) ∧ Chg w w' a.fp := by
  have X0 := ext_alloc w (Mg.obj a m)
  have HL := Lib.hid (h.kept X0)
  have HS := Lib.hid hs
  clear h hs
  go_enter Try.func13, Try.ntmps13
  go_wp2_with fail
  refine (c_markLog a m.log B T k _ HL.out h0 h1 HS.out).mono ?_
  rintro e w1 ⟨rfl, o1, c1⟩
  have C1 := Lib.hid c1
  clear o1 c1
  go_wp2
  go_ret
  exact ⟨rfl, (chg_ext _ X0).trans C1.out⟩
/-- a message's value that reads as m -/
def MgV (m : Mg) (v : Value) (w : World) : Prop := ∃ a, v = Mg.val a m ∧ LgR w a m.log
theorem MgV.mono (m : Mg) : Mono (MgV m) := fun v w w' ⟨a, h, hr⟩ hx => ⟨a, h, hr.keep hx⟩
set_option maxRecDepth 100000 in
set_option maxHeartbeats 8000000 in
theorem walk (a : LAd) (m : Mg) (w : World) (hr : LgR w a m.log) : Calls Try.prog 3 #[Mg.val a m] w fun e w' => e = .returned (.bool true) ∧ Ext w w' := by
  have X0 := ext_alloc w (Mg.objL a m)
  have hcon := c_szMsg a m 1048576 (by omega) (by omega) _ (hr.keep X0)
  by_cases hn : lgN m.log ≤ 1048576
  · rw [szV_le (by omega)] at hcon
    have hg0 : decide ((1048576 : Int) - ((lgN m.log : Nat) : Int) < 0) = false := by simp; omega
    have hs : m.log.small := lgN_small (Nat.le_refl _) hn
    obtain ⟨Q, b, hQ⟩ : ∃ Q b, packV m = (Q, b) := ⟨_, _, rfl⟩
    have hq4 : Q.length ≤ 5000 := by
      have : Q = (packV m).1 := by rw [hQ]
      rw [this]
      unfold packV
      cases q : iFits m
      · simp
      · have h1 := (body_put q).2
        have h9 := putN_len9 (x := (packZ (msgNums m)).length) (by omega)
        have h2 : (packM m).length = (putN (packZ (msgNums m)).length).length + ((packZ (msgNums m)).length + 4) := by
          unfold packM frame
          rw [List.length_append, List.length_append]
          rfl
        simp only [if_true]
        omega
    have hbb : (b != b) = false := by simp
    have HT := Lib.hid (fun W (h : Ext w W) => c_toMsg a m W (hr.keep h) hs)
    have HS := Lib.hid (show ∀ (a2 : LAd) W, LgR W a2 m.log → Calls Try.prog 8 #[Mg.val a2 m] W fun e w' => (∃ A' c', e = .returned (.tuple #[.slice A' Q.length c', .bool b]) ∧ Ow bEnc 5 1 w' W.heap.size (.slice A' Q.length c') Q) ∧ Ext W w' from fun a2 W h => by
      have := c_sPackMsg a2 m W hs h
      rw [hQ] at this
      exact this)
    have HI := Lib.hid (show ∀ (a2 : LAd) W, LgR W a2 m.log → Calls Try.prog 10 #[Mg.val a2 m] W fun e w' => (∃ A' c', e = .returned (.tuple #[.slice A' Q.length c', .bool b]) ∧ Ow bEnc 5 1 w' W.heap.size (.slice A' Q.length c') Q) ∧ Ext W w' from fun a2 W h => by
      have := c_iPackMsg a2 m W hs h
      rw [hQ] at this
      exact this)
    have HE := Lib.hid (fun (b : LAd) (v : Value) W (hb : LgR W b m.log) (hv : MgV m v W) => show Calls Try.prog 12 #[Mg.val b m, v] W (fun e w' => e = .returned (.bool true) ∧ Ext W w') from by
      obtain ⟨c, rfl, hc⟩ := hv
      exact c_eqMsg_same b c m hs W hb hc)
    have HSm := Lib.hid hs
    have HC := Lib.hid hcon
    have D0 := Lib.hid (hNew (w := w) (o := Mg.objL a m) rfl)
    have HX0 := Lib.hid X0
    have hmL0 := m.log.mN_pos
    have hmL1 := m.log.mN_small hs
    clear hQ hr hs hcon X0
    go_enter Try.func3, Try.ntmps3
    (go_wp2_with (with_reducible refine wl_stop 14 ?_); refine stop_load (D0.out) rfl Try.underlying32 (by kernel_rfl) ?_; simp only [Act.put, List.setIfInBounds_toArray, List.set_cons_zero, List.set_cons_succ])
    go_wp2_with fail
    refine HC.out.mono ?_
    rintro e w1 ⟨rfl, y1⟩
    have D1 := Lib.hid (y1.box D0.out)
    have X1 := Lib.hid (Ext.trans HX0.out y1)
    clear HC y1 D0 HX0
    (go_wp2_with (with_reducible refine wl_stop 20 ?_); refine stop_load (D1.out) rfl Try.underlying32 (by kernel_rfl) ?_; simp only [Act.put, List.setIfInBounds_toArray, List.set_cons_zero, List.set_cons_succ])
    go_wp2_with fail
    refine (HT.out _ X1.out).mono ?_
    rintro e w2 ⟨a2, rfl, o2, x2⟩
    have HO2 := Lib.hid o2.rd
    clear o2
    go_wp2_with fail
    refine (HS.out a2 _ HO2.out).mono ?_
    rintro e w3 ⟨⟨A3, c3, rfl, o3⟩, x3⟩
    have D3 := Lib.hid ((Ext.trans x2 x3).box D1.out)
    have X3 := Lib.hid (Ext.trans X1.out (Ext.trans x2 x3))
    have R3 := Lib.hid (o3.rd bEnc_len).2
    have R30 := R3
    have D30 := D3
    clear x2 x3 D1 X1 HO2 o3
    (go_wp2_with (with_reducible refine wl_stop 25 ?_); refine stop_load (D3.out) rfl Try.underlying32 (by kernel_rfl) ?_; simp only [Act.put, List.setIfInBounds_toArray, List.set_cons_zero, List.set_cons_succ])
    go_wp2_with fail
    refine (HT.out _ X3.out).mono ?_
    rintro e w4 ⟨a4, rfl, o4, x4⟩
    have HO4 := Lib.hid o4
    have D4 := Lib.hid (x4.box D3.out)
    have X4 := Lib.hid (Ext.trans X3.out x4)
    have Z4 := Lib.hid (hNew (w := w4) (o := Mg.zobj) rfl)
    have R4 := Lib.hid (R3.out.keep x4)
    have T4 := Lib.hid x4
    clear o4 x4 D3 R3
    (go_wp2_with (with_reducible refine wl_stopS 46 ?_); refine stop_store (w4.heap.size) #[.int .i64 m.kind, .int .i64 m.frm, .int .i64 m.view, .int .i64 m.op, .int .i64 m.commit, .int .i64 m.normal, .int .i64 m.nonce, .int .i64 m.client, .int .i64 m.req, .int .i64 m.answer, .int .i64 m.ck, .int .i64 m.cx, .int .i64 m.cv, .int .i64 m.log.base, .slice a4.cA m.log.cells.length a4.cc, .slice a4.sA m.log.seats.length a4.sc, .slice a4.eA m.log.ents.length a4.ec] rfl rfl (Z4.out) (by kernel_rfl) rfl (by simp [Value.oneCell']) ?_)
    intro W4 e4 k4
    have x4 := chg_new (ext_alloc w4 Mg.zobj) k4 (Nat.le_refl _)
    have E4 := Lib.hid e4
    have O4 := Lib.hid (HO4.out.kept x4)
    have F4 := Lib.hid (x4.box D4.out)
    have Y4 := Lib.hid (Ext.trans X4.out x4)
    have Q4 := Lib.hid (R4.out.keep x4)
    have T5 := Lib.hid (Ext.trans T4.out x4)
    have T80 := Lib.hid T5.out.size
    have s4' := bx_lt e4
    clear e4 k4 x4 HO4 D4 X4 Z4 R4 T4
    (go_wp2_with (with_reducible refine wl_stop 28 ?_); refine stop_load (E4.out) rfl Try.underlying46 (by kernel_rfl) ?_; simp only [Act.put, List.setIfInBounds_toArray, List.set_cons_zero, List.set_cons_succ])
    go_wp2_with fail
    refine (HI.out a4 _ O4.out.rd).mono ?_
    rintro e w5 ⟨⟨A5, c5, rfl, o5⟩, x5⟩
    have HO5 := Lib.hid o5
    have B0 := Lib.hid (x5.box F4.out)
    have B5 := Lib.hid (x5.box E4.out)
    have L5 := Lib.hid (O4.out.kept x5)
    have HX5 := Lib.hid (Ext.trans Y4.out x5)
    have R5 := Lib.hid (Q4.out.keep x5)
    have T6 := Lib.hid (Ext.trans T5.out x5)
    have s5 := x5.size
    clear x5 o5 E4 F4 Y4 Q4 O4 T5
    go_wp2_with fail
    refine (c_eqByteS_same A5 A3 c5 c3 Q w5 (HO5.out.rd bEnc_len).2 R5.out (by omega)).mono ?_
    rintro e w6 ⟨rfl, x6⟩
    have O6 := Lib.hid (HO5.out.kept x6)
    have B0 := Lib.hid (x6.box B0.out)
    have B6 := Lib.hid (x6.box B5.out)
    have L6 := Lib.hid (L5.out.kept x6)
    have HX6 := Lib.hid (Ext.trans HX5.out x6)
    have R6 := Lib.hid (R5.out.keep x6)
    have T7 := Lib.hid (Ext.trans T6.out x6)
    clear x6 HO5 B5 L5 HX5 R5 T6
    go_wp2
    (refine wp_region_mixb (fun _ _ _ _ _ hq => hq) 5 (by kernel_rfl) (by kernel_rfl) (fun hg => ?_); simp only [headOps, List.take_succ_cons, List.take_zero, List.filter_cons, List.filter_nil, isAlloc, Bool.not_false, Bool.false_eq_true, if_true, if_false, List.append_nil, List.drop_succ_cons, List.drop_zero])
    (refine wpMix_load (B6.out) rfl rfl rfl Try.underlying46 (by kernel_rfl) ?_; simp only [Act.put, List.setIfInBounds_toArray, List.set_cons_zero, List.set_cons_succ])
    (refine wpMix_load (B0.out) rfl rfl rfl Try.underlying32 (by kernel_rfl) ?_; simp only [Act.put, List.setIfInBounds_toArray, List.set_cons_zero, List.set_cons_succ])
    refine wpMix_call (MgV m) rfl rfl rfl (enters Try.func9 (by kernel_rfl) rfl) (MgV.mono _) (fun W hW => (HT.out W (Ext.trans HX6.out hW)).mono fun e w' ⟨a', he, ho, hx⟩ => ⟨_, he, ⟨a', rfl, ho.rd⟩, hx⟩) rfl (fun v7 hv7 => ?_)
    simp only [Act.put, List.setIfInBounds_toArray, List.set_cons_zero, List.set_cons_succ]
    (repeat (first | (refine wpMix_plain rfl rfl ?_; go_big_quiet_step (fail); refine wpQuiet_nil ?_) | (refine wpMix_skip rfl rfl ?_; simp only [Act.put, List.setIfInBounds_toArray, List.set_cons_zero, List.set_cons_succ])))
    refine wpMix_det rfl rfl rfl (enters Try.func12 (by kernel_rfl) rfl) (fun W hW => HE.out a4 v7 W (L6.out.rd.keep hW.1) hW.2) rfl ?_
    simp only [Act.put, List.setIfInBounds_toArray, List.set_cons_zero, List.set_cons_succ]
    (repeat (first | (refine wpMix_plain rfl rfl ?_; go_big_quiet_step (fail); refine wpQuiet_nil ?_) | (refine wpMix_skip rfl rfl ?_; simp only [Act.put, List.setIfInBounds_toArray, List.set_cons_zero, List.set_cons_succ])))
    refine wpMix_nil ?_
    rintro w8 ⟨x8', _⟩
    have x8 : Ext w6 w8 := x8'
    have O8 := Lib.hid (O6.out.kept x8)
    have B8 := Lib.hid (x8.box B6.out)
    have C8 := Lib.hid (x8.box B0.out)
    have L8 := Lib.hid (L6.out.kept x8)
    have HX8 := Lib.hid (Ext.trans HX6.out x8)
    have R8 := Lib.hid (R6.out.keep x8)
    have T8 := Lib.hid (Ext.trans T7.out x8)
    have s8 := x8.size
    have HCM := Lib.hid (c_markMsg a4 m _ _ 1 w8 L8.out (by omega) (by omega) HSm.out)
    obtain ⟨K4, hK4⟩ : ∃ K, 1 + m.log.mN = K := ⟨_, rfl⟩
    have hg14 : decide (K4 < 0) = false := by simp; omega
    rw [hK4] at HCM
    clear hK4 x8 x8' hv7 O6 B0 B6 L6 HX6 R6 T7 hmL0 hmL1
    (go_wp2_with (with_reducible refine wl_stop 46 ?_); refine stop_load (B8.out) rfl Try.underlying46 (by kernel_rfl) ?_; simp only [Act.put, List.setIfInBounds_toArray, List.set_cons_zero, List.set_cons_succ])
    go_wp2_with fail
    refine HCM.out.mono ?_
    rintro e w9 ⟨rfl, c9⟩
    have O9 := Lib.hid (O8.out.chg c9 (fun k hk hm => by have := L8.out.top _ hm; have := (O8.out.inB k hk).1; omega))
    have x9 := Lib.hid (ext_chg T8.out c9 (fun g hg => L8.out.low g hg))
    clear c9 HCM B8 C8 L8 HX8 R8 T8 O8
    go_wp2_with fail
    refine (c_eqByteS_same A5 A3 c5 c3 Q w9 (O9.out.rd bEnc_len).2 (R30.out.keep x9.out) (by omega)).mono ?_
    rintro e w10 ⟨rfl, y10⟩
    have O10 := Lib.hid (O9.out.kept y10)
    have x10 := Lib.hid (Ext.trans x9.out y10)
    have s10 := x10.out.size
    clear y10 O9 x9
    go_wp2_with fail
    refine (c_markByteS A5 c5 Q _ 1 w10 O10.out (by omega) (by omega)).mono ?_
    rintro e w11 ⟨rfl, o11, g11⟩
    have x11 := Lib.hid (ext_grown x10.out g11 (fun g hg => by have := (O10.out.lt g hg).1; have := T80.out; omega))
    have H11 := Lib.hid (o11.rd bEnc_len).2
    obtain ⟨K, hK⟩ : ∃ K : Nat, 1 + Q.length = K := ⟨_, rfl⟩
    have hHe := Lib.hid (fun W (h : Rd bEnc 1 W A5 c5 (marksB 1 Q.length)) => c_heldByteS A5 c5 Q.length 1 W h (by omega) (by omega))
    simp only [hK] at hHe
    rw [hK]
    have hk1 : decide ((K : Int) < 0) = false := by simp
    have hk2 : ((K : Int) != (K : Int)) = false := by simp
    clear o11 g11 O10 x10 hK
    go_wp2_with fail
    refine (hHe.out _ H11.out).mono ?_
    rintro e w12 ⟨rfl, y12⟩
    have x12 := Lib.hid (Ext.trans x11.out y12)
    have H12 := Lib.hid (H11.out.keep y12)
    have G12 := Lib.hid (x12.out.box D30.out)
    clear y12 x11 H11
    (go_wp2_with (with_reducible refine wl_stop 74 ?_); refine stop_load (G12.out) rfl Try.underlying32 (by kernel_rfl) ?_; simp only [Act.put, List.setIfInBounds_toArray, List.set_cons_zero, List.set_cons_succ])
    go_wp2_with fail
    refine (HT.out _ (Ext.trans X3.out x12.out)).mono ?_
    rintro e w13 ⟨a6, rfl, o6, y13⟩
    have HO6 := Lib.hid o6.rd
    clear o6
    go_wp2_with fail
    refine (HI.out a6 _ HO6.out).mono ?_
    rintro e w14 ⟨⟨A7, c7, rfl, o7⟩, y14⟩
    have R7 := Lib.hid (o7.rd bEnc_len).2
    have y14' := Lib.hid (Ext.trans y13 y14)
    clear o7 y13 y14 HO6 G12
    go_wp2_with fail
    refine (c_eqByteS_same A7 A3 c7 c3 Q w14 R7.out (R30.out.keep (Ext.trans x12.out y14'.out)) (by omega)).mono ?_
    rintro e w15 ⟨rfl, y15⟩
    have y15' := Lib.hid (Ext.trans y14'.out y15)
    have H15 := Lib.hid (H12.out.keep y15'.out)
    have HX := Lib.hid (Ext.trans X3.out (Ext.trans x12.out y15'.out))
    clear y15 y14' R7 H12
    go_wp2_with fail
    refine (hHe.out _ H15.out).mono ?_
    rintro e w16 ⟨rfl, y16⟩
    go_wp2
    go_ret
    exact ⟨rfl, Ext.trans HX.out y16⟩
  · rw [szV_gt (by omega)] at hcon
    have HC := Lib.hid hcon
    have D0 := Lib.hid (hNew (w := w) (o := Mg.objL a m) rfl)
    clear hcon
    go_enter Try.func3, Try.ntmps3
    (go_wp2_with (with_reducible refine wl_stop 14 ?_); refine stop_load (D0.out) rfl Try.underlying32 (by kernel_rfl) ?_; simp only [Act.put, List.setIfInBounds_toArray, List.set_cons_zero, List.set_cons_succ])
    go_wp2_with fail
    refine HC.out.mono ?_
    rintro e w1 ⟨rfl, X1⟩
    clear HC
    go_wp2
    go_ret
    exact ⟨rfl, Ext.trans X0 X1⟩

set_option maxRecDepth 100000 in
theorem lifted (os : Os) (started : os.Started) (H : Type) (enc : TypeId × Value → H) :
    ReturnsInHanded {} Try.checked os 3 .any (Rows.fnExactPackMsgSpec.pre6 enc Try.prog Try.f3 Rows.fnExactPackMsgRow.domain false) (Rows.fnExactPackMsgSpec.post enc Try.prog Try.f3 false true false false) := by
  refine returnsInHanded_of_change (C := Try.checked) own started (by kernel_rfl) Try.func3
    (ChangeSpec.witness6 (enc := enc) (C := Try.checked) false ⟨#[], #[.agg #[.int .i64 0, .int .i64 0, .int .i64 0, .int .i64 0, .int .i64 0, .int .i64 0, .int .i64 0, .int .i64 0, .int .i64 0, .int .i64 0, .int .i64 0, .int .i64 0, .int .i64 0, .int .i64 0, .slice none 0 0, .slice none 0 0, .slice none 0 0]], []⟩ 8 (by kernel_rfl) (by kernel_rfl) (by kernel_rfl) (by kernel_rfl)) ?_
  intro W base args ds gs before hval0 hW hcnd _
  have hval : ∀ (j : Nat) t v, Try.f3.params[j]? = some t → args[j]? = some v → Value.okWide Try.prog W .any base t v := hval0
  have hW' := hW
  obtain ⟨p, q, hA0, hV, rfl, hfz, hnd⟩ := hW
  have hA : DataW.TrodAll enc Try.prog W 0 (fun _ => true) true Try.f3.params.toList args.toList ds p := hA0
  rw [Try.params3] at hA hval
  obtain ⟨rfl, rfl⟩ := trodVars_none hV
  obtain ⟨v0, vs0, d0, ds0, p0, q0, hargs, rfl, rfl, h0, r0⟩ := trodAll_cons hA
  obtain ⟨rfl, rfl, rfl⟩ := trodAll_nil r0
  obtain rfl : args = #[v0] := by cases args; simp_all
  clear hA0 hval0
  refine Calls.mono (R := fun e W' => e = .returned (.bool true) ∧ Ext W W') ?_ (fun e W' ⟨he, hx⟩ => by
    subst he
    exact ⟨_, rfl, law_post laidOut Try.underlying4 hW' hx rfl rfl rfl rfl (by kernel_rfl) rfl⟩)
  clear hW'
  exact (by obtain ⟨a, m, rfl, hr⟩ := open_Msg (hval 0 _ _ rfl rfl) h0; exact walk a m W hr)

theorem over : Rows.fnExactPackMsgRow.holds Try.pinned (OpenSpec.ofChange Rows.fnExactPackMsgSpec) :=
  OpenClaim.holds_of_wide 3 Try.f3 rfl rfl rfl rfl rfl rfl rfl ⟨rfl, rfl, rfl, rfl, rfl⟩ rfl rfl rfl rfl rfl (by kernel_rfl) Try.func3 (by kernel_rfl)
    (of_decide_eq_true (by kernel_rfl)) (by unfold Func.isWrapper; first | (rw [if_pos (by decide +kernel)]; kernel_rfl) | (rw [if_neg (by decide +kernel)]; exact ⟨rfl, rfl⟩))
    (fun os started H enc _ => lifted os started H enc)

theorem proved : Rows.FnExactPackMsgSaid := over
end Go.Proofs.Ytpghedeghoegmaa.l31
