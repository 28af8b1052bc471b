/- FnExactMsgFits: for every input the law returns true. No condition. -/
import Derived.Test.YtmpjokdidomafaaRl
import Derived.Test.YtmpjokdidomafaaFt
import Derived.Test.YtmpjokdidomafaaLd
namespace Go.Proofs.Ytmpjokdidomafaa.l22
open Go.ChangeShapes Go.WideShapes Go.ChangeAt Go.RowKit Go.Joins Go.Deep Go.Sort
set_option linter.unusedVariables false

/-- a message's value that reads as m -/
def MgV (m : Mg) (v : Value) (w : World) : Prop := ∃ a, v = Mg.val a m ∧ LgR w a m.log
theorem MgV.mono (m : Mg) : Mono (MgV m) := fun v w w' ⟨a, h, hr⟩ hx => ⟨a, h, hr.keep hx⟩
set_option maxRecDepth 100000 in
set_option maxHeartbeats 8000000 in
theorem walk (a : LAd) (m : Mg) (w : World) (hr : LgR w a m.log) : Calls Try.prog 4 #[Mg.val a m] w fun e w' => e = .returned (.bool true) ∧ Ext w w' := by
  have X0 := ext_alloc w (Mg.objL a m)
  have hcon := c_szMsg a m 1048576 (by omega) (by omega) _ (hr.keep X0)
  by_cases hn : lgN m.log ≤ 1048576
  · rw [szV_le (by omega)] at hcon
    have hg0 : decide ((1048576 : Int) - ((lgN m.log : Nat) : Int) < 0) = false := by simp; omega
    have hs : m.log.small := lgN_small (Nat.le_refl _) hn
    obtain ⟨q, hq⟩ : ∃ q, iFits m = q := ⟨_, rfl⟩
    have HT := Lib.hid (fun W (h : Ext w W) => c_toMsg a m W (hr.keep h) hs)
    have HS := Lib.hid (show ∀ (b : LAd) W, LgR W b m.log → Calls Try.prog 15 #[Mg.val b m] W fun e w' => e = .returned (.bool q) ∧ Ext W w' from fun b W h => by
      have := c_sMsgFits b m W hs h
      rw [← fits_eq, hq] at this
      exact this)
    have HI := Lib.hid (show ∀ (b : LAd) W, LgR W b m.log → Calls Try.prog 17 #[Mg.val b m] W fun e w' => e = .returned (.bool q) ∧ Ext W w' from fun b W h => by
      have := c_iMsgFits b m W hs h
      rw [hq] at this
      exact this)
    have HE := Lib.hid (fun (b : LAd) (v : Value) W (hb : LgR W b m.log) (hv : MgV m v W) => show Calls Try.prog 18 #[Mg.val b m, v] W (fun e w' => e = .returned (.bool true) ∧ Ext W w') from by
      obtain ⟨c, rfl, hc⟩ := hv
      exact c_eqMsg_same b c m hs W hb hc)
    have HC := Lib.hid hcon
    have D0 := Lib.hid (hNew (w := w) (o := Mg.objL a m) rfl)
    have HX0 := Lib.hid X0
    clear hq hr hs hcon X0
    go_enter Try.func4, Try.ntmps4
    (go_wp2_with (with_reducible refine wl_stop 7 ?_); refine stop_load (D0.out) rfl Try.underlying39 (by kernel_rfl) ?_; simp only [Act.put, List.setIfInBounds_toArray, List.set_cons_zero, List.set_cons_succ])
    go_wp2_with fail
    refine HC.out.mono ?_
    rintro e w1 ⟨rfl, y1⟩
    have D1 := Lib.hid (y1.box D0.out)
    have X1 := Lib.hid (Ext.trans HX0.out y1)
    clear HC y1 D0 HX0
    (go_wp2_with (with_reducible refine wl_stop 12 ?_); refine stop_load (D1.out) rfl Try.underlying39 (by kernel_rfl) ?_; simp only [Act.put, List.setIfInBounds_toArray, List.set_cons_zero, List.set_cons_succ])
    go_wp2_with fail
    refine (HT.out _ X1.out).mono ?_
    rintro e w2 ⟨a2, rfl, o2, x2⟩
    have HO2 := Lib.hid o2.rd
    clear o2
    go_wp2_with fail
    refine (HS.out a2 _ HO2.out).mono ?_
    rintro e w3 ⟨rfl, x3⟩
    have D3 := Lib.hid ((Ext.trans x2 x3).box D1.out)
    have X3 := Lib.hid (Ext.trans X1.out (Ext.trans x2 x3))
    clear x2 x3 D1 X1 HO2
    (go_wp2_with (with_reducible refine wl_stop 15 ?_); refine stop_load (D3.out) rfl Try.underlying39 (by kernel_rfl) ?_; simp only [Act.put, List.setIfInBounds_toArray, List.set_cons_zero, List.set_cons_succ])
    go_wp2_with fail
    refine (HT.out _ X3.out).mono ?_
    rintro e w4 ⟨a4, rfl, o4, x4⟩
    have HO4 := Lib.hid o4.rd
    have D4 := Lib.hid (x4.box D3.out)
    have X4 := Lib.hid (Ext.trans X3.out x4)
    have Z4 := Lib.hid (hNew (w := w4) (o := Mg.zobj) rfl)
    clear o4 x4 D3 X3
    (go_wp2_with (with_reducible refine wl_stopS 51 ?_); refine stop_store (w4.heap.size) #[.int .i64 m.kind, .int .i64 m.frm, .int .i64 m.view, .int .i64 m.op, .int .i64 m.commit, .int .i64 m.normal, .int .i64 m.nonce, .int .i64 m.client, .int .i64 m.req, .int .i64 m.answer, .int .i64 m.ck, .int .i64 m.cx, .int .i64 m.cv, .int .i64 m.log.base, .slice a4.cA m.log.cells.length a4.cc, .slice a4.sA m.log.seats.length a4.sc, .slice a4.eA m.log.ents.length a4.ec] rfl rfl (Z4.out) (by kernel_rfl) rfl (by simp [Value.oneCell']) ?_)
    intro W4 e4 k4
    have x4 := chg_new (ext_alloc w4 Mg.zobj) k4 (Nat.le_refl _)
    have E4 := Lib.hid e4
    have HR4 := Lib.hid (HO4.out.keep x4)
    have F4 := Lib.hid (x4.box D4.out)
    have Y4 := Lib.hid (Ext.trans X4.out x4)
    clear e4 k4 x4 HO4 D4 X4 Z4
    (go_wp2_with (with_reducible refine wl_stop 17 ?_); refine stop_load (E4.out) rfl Try.underlying51 (by kernel_rfl) ?_; simp only [Act.put, List.setIfInBounds_toArray, List.set_cons_zero, List.set_cons_succ])
    go_wp2_with fail
    refine (HI.out a4 _ HR4.out).mono ?_
    rintro e w5 ⟨rfl, x5⟩
    have B0 := Lib.hid (x5.box F4.out)
    have B5 := Lib.hid (x5.box E4.out)
    have HX5 := Lib.hid (Ext.trans Y4.out x5)
    have HR5 := Lib.hid (HR4.out.keep x5)
    have hqq : (q != q) = false := by simp
    clear x5 E4 HR4 F4 Y4
    go_wp2
    (refine wp_region_mixb (fun _ _ _ _ _ hq => hq) 5 (by kernel_rfl) (by kernel_rfl) (fun hg => ?_); simp only [headOps, List.take_succ_cons, List.take_zero, List.filter_cons, List.filter_nil, isAlloc, Bool.not_false, Bool.false_eq_true, if_true, if_false, List.append_nil, List.drop_succ_cons, List.drop_zero])
    (refine wpMix_load (B5.out) rfl rfl rfl Try.underlying51 (by kernel_rfl) ?_; simp only [Act.put, List.setIfInBounds_toArray, List.set_cons_zero, List.set_cons_succ])
    (refine wpMix_load (B0.out) rfl rfl rfl Try.underlying39 (by kernel_rfl) ?_; simp only [Act.put, List.setIfInBounds_toArray, List.set_cons_zero, List.set_cons_succ])
    refine wpMix_call (MgV m) rfl rfl rfl (enters Try.func16 (by kernel_rfl) rfl) (MgV.mono _) (fun W hW => (HT.out W (Ext.trans HX5.out hW)).mono fun e w' ⟨a', he, ho, hx⟩ => ⟨_, he, ⟨a', rfl, ho.rd⟩, hx⟩) rfl (fun v7 hv7 => ?_)
    simp only [Act.put, List.setIfInBounds_toArray, List.set_cons_zero, List.set_cons_succ]
    (repeat (first | (refine wpMix_plain rfl rfl ?_; go_big_quiet_step (fail); refine wpQuiet_nil ?_) | (refine wpMix_skip rfl rfl ?_; simp only [Act.put, List.setIfInBounds_toArray, List.set_cons_zero, List.set_cons_succ])))
    refine wpMix_det rfl rfl rfl (enters Try.func18 (by kernel_rfl) rfl) (fun W hW => HE.out a4 v7 W (HR5.out.keep hW.1) hW.2) rfl ?_
    simp only [Act.put, List.setIfInBounds_toArray, List.set_cons_zero, List.set_cons_succ]
    (repeat (first | (refine wpMix_plain rfl rfl ?_; go_big_quiet_step (fail); refine wpQuiet_nil ?_) | (refine wpMix_skip rfl rfl ?_; simp only [Act.put, List.setIfInBounds_toArray, List.set_cons_zero, List.set_cons_succ])))
    refine wpMix_nil ?_
    rintro w8 ⟨x8, _⟩
    go_wp2
    go_ret
    exact ⟨rfl, Ext.trans HX5.out x8⟩
  · rw [szV_gt (by omega)] at hcon
    have HC := Lib.hid hcon
    have D0 := Lib.hid (hNew (w := w) (o := Mg.objL a m) rfl)
    clear hcon
    go_enter Try.func4, Try.ntmps4
    (go_wp2_with (with_reducible refine wl_stop 7 ?_); refine stop_load (D0.out) rfl Try.underlying39 (by kernel_rfl) ?_; simp only [Act.put, List.setIfInBounds_toArray, List.set_cons_zero, List.set_cons_succ])
    go_wp2_with fail
    refine HC.out.mono ?_
    rintro e w1 ⟨rfl, X1⟩
    clear HC
    go_wp2
    go_ret
    exact ⟨rfl, Ext.trans X0 X1⟩

set_option maxRecDepth 100000 in
theorem lifted (os : Os) (started : os.Started) (H : Type) (enc : TypeId × Value → H) :
    ReturnsInHanded {} Try.checked os 4 .any (Rows.fnExactMsgFitsSpec.pre6 enc Try.prog Try.f4 Rows.fnExactMsgFitsRow.domain false) (Rows.fnExactMsgFitsSpec.post enc Try.prog Try.f4 false true false false) := by
  refine returnsInHanded_of_change (C := Try.checked) own started (by kernel_rfl) Try.func4
    (ChangeSpec.witness6 (enc := enc) (C := Try.checked) false ⟨#[], #[.agg #[.int .i64 0, .int .i64 0, .int .i64 0, .int .i64 0, .int .i64 0, .int .i64 0, .int .i64 0, .int .i64 0, .int .i64 0, .int .i64 0, .int .i64 0, .int .i64 0, .int .i64 0, .int .i64 0, .slice none 0 0, .slice none 0 0, .slice none 0 0]], []⟩ 8 (by kernel_rfl) (by kernel_rfl) (by kernel_rfl) (by kernel_rfl)) ?_
  intro W base args ds gs before hval0 hW hcnd _
  have hval : ∀ (j : Nat) t v, Try.f4.params[j]? = some t → args[j]? = some v → Value.okWide Try.prog W .any base t v := hval0
  have hW' := hW
  obtain ⟨p, q, hA0, hV, rfl, hfz, hnd⟩ := hW
  have hA : DataW.TrodAll enc Try.prog W 0 (fun _ => true) true Try.f4.params.toList args.toList ds p := hA0
  rw [Try.params4] at hA hval
  obtain ⟨rfl, rfl⟩ := trodVars_none hV
  obtain ⟨v0, vs0, d0, ds0, p0, q0, hargs, rfl, rfl, h0, r0⟩ := trodAll_cons hA
  obtain ⟨rfl, rfl, rfl⟩ := trodAll_nil r0
  obtain rfl : args = #[v0] := by cases args; simp_all
  clear hA0 hval0
  refine Calls.mono (R := fun e W' => e = .returned (.bool true) ∧ Ext W W') ?_ (fun e W' ⟨he, hx⟩ => by
    subst he
    exact ⟨_, rfl, law_post laidOut Try.underlying4 hW' hx rfl rfl rfl rfl (by kernel_rfl) rfl⟩)
  clear hW'
  exact (by obtain ⟨a, m, rfl, hr⟩ := open_Msg (hval 0 _ _ rfl rfl) h0; exact walk a m W hr)

theorem over : Rows.fnExactMsgFitsRow.holds Try.pinned (OpenSpec.ofChange Rows.fnExactMsgFitsSpec) :=
  OpenClaim.holds_of_wide 4 Try.f4 rfl rfl rfl rfl rfl rfl rfl ⟨rfl, rfl, rfl, rfl, rfl⟩ rfl rfl rfl rfl rfl (by kernel_rfl) Try.func4 (by kernel_rfl)
    (of_decide_eq_true (by kernel_rfl)) (by unfold Func.isWrapper; first | (rw [if_pos (by decide +kernel)]; kernel_rfl) | (rw [if_neg (by decide +kernel)]; exact ⟨rfl, rfl⟩))
    (fun os started H enc _ => lifted os started H enc)

theorem proved : Rows.FnExactMsgFitsSaid := over
end Go.Proofs.Ytmpjokdidomafaa.l22
