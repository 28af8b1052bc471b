/- Turn of the reference. -/
import Derived.Test.YtkenlhdiehaemaaGreatJb
import Derived.Test.YtkenlhdiehaemaaGreatGq
namespace Go.Proofs.YtkenlhdiehaemaaGreat
open Go.ChangeShapes Go.WideShapes Go.ChangeAt Go.RowKit Go.Sort
set_option linter.unusedVariables false
set_option linter.unusedSimpArgs false

theorem turn_end {r : Rp} (h : rpOk r = true) (hb : turnB r = false) : turnR r = sameR r ∧ turnO r = [] := by
  unfold turnR turnO sameR
  rw [h, hb]
  simp
theorem turn_none {r : Rp} (h : rpOk r = false) : turnR r = sameR r ∧ turnO r = [] := by
  unfold turnR turnO sameR
  rw [h]
  simp
theorem turn_go {r : Rp} (h : rpOk r = true) (hb : turnB r = true) : turnR r = beginR r (r.view + 1) ∧ turnO r = beginO r (r.view + 1) := by
  unfold turnR turnO
  rw [h, hb]
  simp
set_option maxRecDepth 100000 in
set_option maxHeartbeats 16000000 in
theorem c_sTurn (a : LAd) (A : Option Addr) (c : Nat) (ps : List VtE) (r : Rp) (w : World) (hr : RpR w a A c ps r) (hs : r.log.small) (hn : ps.length ≤ 1048576) (hv : LgS ps) :
    Calls Tryz.prog 35 #[Rp.val a A ps.length c r] w fun e w' => ∃ v, e = .returned v ∧ RoT w' (turnR r) (turnO r) v ∧ Ext w w' := by
  have X0 : Ext w ((w.alloc (Rp.obj a A ps.length c r)).alloc Rp.zobj) := ext_to (ext_alloc _ _) _
  have HSm := Lib.hid (c_l6Same a A c ps r _ (hr.keep X0) hs hn hv)
  have HRo := Lib.hid (fun W (h : Ext w W) => c_sReplicaOk a A c ps r W (hr.keep h) hs hn hv)
  have D1 := Lib.hid (hOld (o := Rp.zobj) (hNew (w := w) (o := Rp.obj a A ps.length c r) rfl))
  have D2 := Lib.hid (hNew (w := w.alloc (Rp.obj a A ps.length c r)) (o := Rp.zobj) (k := w.heap.size + 1) (by simp))
  have HX0 := Lib.hid X0
  clear X0 hr hv hs
  go_enter Tryz.func35, Tryz.ntmps35
  (go_wp2_with (with_reducible refine wl_stop 7 ?_); refine stop_load (D1.out) rfl Tryz.underlying43 (by kernel_rfl) ?_; simp only [Act.put, List.setIfInBounds_toArray, List.set_cons_zero, List.set_cons_succ])
  go_wp2_with fail
  refine HSm.out.mono ?_
  rintro e w1 ⟨v1, rfl, ⟨a1, A1, c1, qs, rfl, f1⟩, x1⟩
  have XA := ext_alloc w1 Rp.zobj
  have EQ0 := Lib.hid (hNew (w := w1) (o := Rp.zobj) rfl)
  have hz_w1 := x1.size
  simp only [sz_alloc] at hz_w1
  have hzA : (w1.alloc Rp.zobj).heap.size = w1.heap.size + 1 := by simp
  obtain ⟨E1, E2, HF, X⟩ : Hid _ ∧ Hid _ ∧ Hid _ ∧ Hid _ := ⟨Lib.hid ((Ext.trans x1 XA).box D1.out), Lib.hid ((Ext.trans x1 XA).box D2.out), Lib.hid ((f1.keep XA).less (B' := w.heap.size + 1 + 1) (by simp)), Lib.hid (Ext.trans HX0.out (Ext.trans x1 XA))⟩
  clear XA x1 f1 D1 D2 HX0 HSm
  (go_wp2_with (with_reducible refine wl_stopS 43 ?_); refine stop_store (w1.heap.size) (Rp.cs a1 A1 qs.length c1 (sameR r)) rfl rfl (EQ0.out) (by kernel_rfl) rfl (by simp [Value.oneCell']) ?_)
  intro W3 e3 k3
  have hlt_W3 := bx_lt EQ0.out
  obtain ⟨E1, E2, HF, X⟩ : Hid _ ∧ Hid _ ∧ Hid _ ∧ Hid _ := ⟨Lib.hid (box_chg E1.out k3 (by omega)), Lib.hid (box_chg E2.out k3 (by omega)), Lib.hid (HF.out.boxed EQ0.out k3), Lib.hid (ext_chg X.out k3 (fun k hk => by rw [List.mem_singleton] at hk; omega))⟩
  have E4 := Lib.hid e3
  have hs_W3 := bx_lt e3
  have hz_W3 := k3.size
  clear e3 k3 EQ0
  (go_wp2_with (with_reducible refine wl_stop 9 ?_); refine stop_load (E1.out) rfl Tryz.underlying43 (by kernel_rfl) ?_; simp only [Act.put, List.setIfInBounds_toArray, List.set_cons_zero, List.set_cons_succ])
  go_wp2_with fail
  refine (HRo.out _ X.out).mono ?_
  rintro e w4 ⟨rfl, x⟩
  obtain ⟨E1, E2, E4, HF, X⟩ : Hid _ ∧ Hid _ ∧ Hid _ ∧ Hid _ ∧ Hid _ := ⟨Lib.hid (x.box E1.out), Lib.hid (x.box E2.out), Lib.hid (x.box E4.out), Lib.hid (HF.out.keep x), Lib.hid (Ext.trans X.out x)⟩
  have hz_w4 := x.size
  clear x
  clear HRo
  cases q : rpOk r
  · have HQ := Lib.hid (turn_none q)
    have EA := Lib.hid (hOld (o := .cells #[] 100) E2.out)
    have EB := Lib.hid (hNew (w := w4) (o := .cells #[] 100) rfl)
    have XA := Lib.hid (ext_alloc w4 (.cells #[] 100))
    (go_wp2_with (with_reducible refine wl_stop 22 ?_); refine stop_load (E4.out) rfl Tryz.underlying43 (by kernel_rfl) ?_; simp only [Act.put, List.setIfInBounds_toArray, List.set_cons_zero, List.set_cons_succ])
    (go_wp2_with (with_reducible refine wl_stopS 43 ?_); refine stop_store ((w.heap.size + 1)) (Rp.cs a1 A1 qs.length c1 (sameR r)) rfl rfl (EA.out) (by kernel_rfl) rfl (by simp [Value.oneCell']) ?_)
    intro W9 e9 k9
    have X9 := Lib.hid (chg_new (Ext.trans X.out XA.out) k9 (by omega))
    have HE9 := Lib.hid e9
    have HT9 := Lib.hid (RoT.of (O := []) ((HF.out.keep XA.out).boxed EA.out k9) (OsK.nil (B := 0) (box_chg EB.out k9 (by omega)) (by omega)) rfl)
    clear e9 k9
    go_wp2
    refine bodyPost_ret (results_box2 Tryz.results35 rfl rfl Tryz.underlying43 (by kernel_rfl) HE9.out) rfl ⟨_, rfl, ?_, X9.out⟩
    rw [HQ.out.1, HQ.out.2]
    exact HT9.out
  · have hS3 : sameR r = r := by unfold sameR; rw [if_pos q]
    have HV := Lib.hid (rpOk_good q)
    have hv0 := HV.out.view0
    have hv1 := HV.out.view1
    (go_wp2_with (with_reducible refine wl_stop 13 ?_); refine stop_loadG (E1.out) rfl rfl Tryz.underlying43 (by kernel_rfl) ?_; simp only [Act.put, List.setIfInBounds_toArray, List.set_cons_zero, List.set_cons_succ])
    go_wp2_with fail
    refine (c_l6Live a A ps.length c r _).mono ?_
    rintro e w5 ⟨rfl, x⟩
    obtain ⟨E1, E2, E4, HF, X⟩ : Hid _ ∧ Hid _ ∧ Hid _ ∧ Hid _ ∧ Hid _ := ⟨Lib.hid (x.box E1.out), Lib.hid (x.box E2.out), Lib.hid (x.box E4.out), Lib.hid (HF.out.keep x), Lib.hid (Ext.trans X.out x)⟩
    have hz_w5 := x.size
    clear x
    have HS3 := Lib.hid hS3
    clear hS3
    cases gl : liveB r
    · have HQ := Lib.hid (turn_end q (show turnB r = false by unfold turnB; rw [gl]; rfl))
      have EA := Lib.hid (hOld (o := .cells #[] 100) E2.out)
      have EB := Lib.hid (hNew (w := w5) (o := .cells #[] 100) rfl)
      have XA := Lib.hid (ext_alloc w5 (.cells #[] 100))
      (go_wp2_with (with_reducible refine wl_stop 22 ?_); refine stop_load (E4.out) rfl Tryz.underlying43 (by kernel_rfl) ?_; simp only [Act.put, List.setIfInBounds_toArray, List.set_cons_zero, List.set_cons_succ])
      (go_wp2_with (with_reducible refine wl_stopS 43 ?_); refine stop_store ((w.heap.size + 1)) (Rp.cs a1 A1 qs.length c1 (sameR r)) rfl rfl (EA.out) (by kernel_rfl) rfl (by simp [Value.oneCell']) ?_)
      intro W9 e9 k9
      have X9 := Lib.hid (chg_new (Ext.trans X.out XA.out) k9 (by omega))
      have HE9 := Lib.hid e9
      have HT9 := Lib.hid (RoT.of (O := []) ((HF.out.keep XA.out).boxed EA.out k9) (OsK.nil (B := 0) (box_chg EB.out k9 (by omega)) (by omega)) rfl)
      clear e9 k9
      go_wp2
      refine bodyPost_ret (results_box2 Tryz.results35 rfl rfl Tryz.underlying43 (by kernel_rfl) HE9.out) rfl ⟨_, rfl, ?_, X9.out⟩
      rw [HQ.out.1, HQ.out.2]
      exact HT9.out
    · have HT := Lib.hid (rpOk_T q gl)
      have d1 := bx_cell E1.out
      have z1 := bx_lt E1.out
      cases g1 : (r.view == 1000000000)
      · have HQ := Lib.hid (turn_go q (show turnB r = true by unfold turnB; rw [gl, show decide (r.view < 1000000000) = true by simp at g1 ⊢; omega]; rfl))
        rw [HS3.out] at E4 HF
        obtain ⟨RX, hRX⟩ : ∃ X, beginR r (r.view + 1) = X := ⟨_, rfl⟩
        obtain ⟨OX, hOX⟩ : ∃ X, beginO r (r.view + 1) = X := ⟨_, rfl⟩
        have hcon := c_l7Begin (w.heap.size + 1 + 1) a1 A1 c1 qs r (r.view + 1) w5 HF.out HT.out (by omega) (by simp at g1; omega) (by omega)
        rw [hRX, hOX] at hcon
        have HCon := Lib.hid hcon
        have HQ2 := Lib.hid (show turnR r = RX ∧ turnO r = OX by rw [← hRX, ← hOX]; exact HQ.out)
        clear hcon hRX hOX HQ
        have g2 : (r.view == 1000000000) = false := g1
        (go_wp2_with (with_reducible refine wl_stop 25 ?_); refine stop_load (E4.out) rfl Tryz.underlying43 (by kernel_rfl) ?_; simp only [Act.put, List.setIfInBounds_toArray, List.set_cons_zero, List.set_cons_succ])
        go_wp2_with fail
        refine HCon.out.mono ?_
        rintro e v8 ⟨⟨a9, A9, c9, q9, Am, cm, om, rfl, f9, fm, mm⟩, x⟩
        obtain ⟨E2, X⟩ : Hid _ ∧ Hid _ := ⟨Lib.hid (x.box E2.out), Lib.hid (Ext.trans X.out x)⟩
        have hz_v8 := x.size
        clear x HCon HF E1 E4 d1 z1
        have XA := ext_alloc v8 Rp.zobj
        have EQ0 := Lib.hid (hNew (w := v8) (o := Rp.zobj) rfl)
        obtain ⟨E2, X⟩ : Hid _ ∧ Hid _ := ⟨Lib.hid (XA.box E2.out), Lib.hid (Ext.trans X.out XA)⟩
        have HF9 := Lib.hid (f9.keep XA)
        have HM := Lib.hid (fm.keep XA)
        have HMm := Lib.hid mm
        have hzA2 : (v8.alloc Rp.zobj).heap.size = v8.heap.size + 1 := by simp
        clear XA f9 fm mm
        (go_wp2_with (with_reducible refine wl_stopS 43 ?_); refine stop_store (v8.heap.size) (Rp.cs a9 A9 q9.length c9 RX) rfl rfl (EQ0.out) (by kernel_rfl) rfl (by simp [Value.oneCell']) ?_)
        intro W8 e8 k8
        have hlt_W8 := bx_lt EQ0.out
        obtain ⟨E2, X, HF9, HM⟩ : Hid _ ∧ Hid _ ∧ Hid _ ∧ Hid _ := ⟨Lib.hid (box_chg E2.out k8 (by omega)), Lib.hid (ext_chg X.out k8 (fun k hk => by rw [List.mem_singleton] at hk; omega)), Lib.hid (HF9.out.boxed EQ0.out k8), Lib.hid (HM.out.boxed EQ0.out (by decide) (by decide) (by decide) (by decide) k8)⟩
        have EQ := Lib.hid e8
        have hs_W8 := bx_lt e8
        have hz_W8 := k8.size
        clear e8 k8 EQ0
        (go_wp2_with (with_reducible refine wl_stop 32 ?_); refine stop_load (EQ.out) rfl Tryz.underlying43 (by kernel_rfl) ?_; simp only [Act.put, List.setIfInBounds_toArray, List.set_cons_zero, List.set_cons_succ])
        (go_wp2_with (with_reducible refine wl_stopS 43 ?_); refine stop_store ((w.heap.size + 1)) (Rp.cs a9 A9 q9.length c9 RX) rfl rfl (E2.out) (by kernel_rfl) rfl (by simp [Value.oneCell']) ?_)
        intro W9 e9 k9
        have X9 := Lib.hid (chg_new X.out k9 (by omega))
        have HE9 := Lib.hid e9
        have HT9 := Lib.hid (RoT.of (HF9.out.boxed E2.out k9) (HM.out.boxed E2.out (by decide) (by decide) (by decide) (by decide) k9) HMm.out)
        clear e9 k9
        go_wp2
        refine bodyPost_ret (results_box2 Tryz.results35 rfl rfl Tryz.underlying43 (by kernel_rfl) HE9.out) rfl ⟨_, rfl, ?_, X9.out⟩
        rw [HQ2.out.1, HQ2.out.2]
        exact HT9.out
      · have HQ := Lib.hid (turn_end q (show turnB r = false by unfold turnB; rw [gl, show decide (r.view < 1000000000) = false by simp at g1 ⊢; omega]; rfl))
        have EA := Lib.hid (hOld (o := .cells #[] 100) E2.out)
        have EB := Lib.hid (hNew (w := w5) (o := .cells #[] 100) rfl)
        have XA := Lib.hid (ext_alloc w5 (.cells #[] 100))
        (go_wp2_with (with_reducible refine wl_stop 22 ?_); refine stop_load (E4.out) rfl Tryz.underlying43 (by kernel_rfl) ?_; simp only [Act.put, List.setIfInBounds_toArray, List.set_cons_zero, List.set_cons_succ])
        (go_wp2_with (with_reducible refine wl_stopS 43 ?_); refine stop_store ((w.heap.size + 1)) (Rp.cs a1 A1 qs.length c1 (sameR r)) rfl rfl (EA.out) (by kernel_rfl) rfl (by simp [Value.oneCell']) ?_)
        intro W9 e9 k9
        have X9 := Lib.hid (chg_new (Ext.trans X.out XA.out) k9 (by omega))
        have HE9 := Lib.hid e9
        have HT9 := Lib.hid (RoT.of (O := []) ((HF.out.keep XA.out).boxed EA.out k9) (OsK.nil (B := 0) (box_chg EB.out k9 (by omega)) (by omega)) rfl)
        clear e9 k9
        go_wp2
        refine bodyPost_ret (results_box2 Tryz.results35 rfl rfl Tryz.underlying43 (by kernel_rfl) HE9.out) rfl ⟨_, rfl, ?_, X9.out⟩
        rw [HQ.out.1, HQ.out.2]
        exact HT9.out
end Go.Proofs.YtkenlhdiehaemaaGreat
