/- OnDo of the reference. -/
import Derived.Test.YtkenlhdiehaemaaGreatJb
import Derived.Test.YtkenlhdiehaemaaGreatGi
namespace Go.Proofs.YtkenlhdiehaemaaGreat
open Go.ChangeShapes Go.WideShapes Go.ChangeAt Go.RowKit Go.Sort
set_option linter.unusedVariables false
set_option linter.unusedSimpArgs false


set_option maxRecDepth 100000 in
set_option maxHeartbeats 16000000 in
theorem c_sOnDo (a : LAd) (A : Option Addr) (c : Nat) (ps : List VtE) (r : Rp) (am : LAd) (m : Mg) (w : World) (hr : RpR w a A c ps r) (hs : r.log.small) (hn : ps.length ≤ 1048576) (hv : LgS ps) (hm : LgR w am m.log) (hms : m.log.small) :
    Calls Tryz.prog 39 #[Rp.val a A ps.length c r, Mg.val am m] w fun e w' => ∃ v, e = .returned v ∧ RoT w' (hearR2 r m 6 (onDoR r m)) (hearO r m 6 (onDoO r m)) v ∧ Ext w w' := by
  have X0 : Ext w (((w.alloc (Rp.obj a A ps.length c r)).alloc (Mg.obj am m)).alloc Rp.zobj) := ext_to (ext_to (ext_alloc _ _) _) _
  have HSm := Lib.hid (c_l6Same a A c ps r _ (hr.keep X0) hs hn hv)
  have HHr := Lib.hid (fun W (h : Ext w W) => c_l6Hears a A c ps r am m 6 W (hr.keep h) hs hn hv (hm.keep h) hms)
  have D1 := Lib.hid (hOld (o := Rp.zobj) (hOld (o := Mg.obj am m) (hNew (w := w) (o := Rp.obj a A ps.length c r) rfl)))
  have D2 := Lib.hid (hOld (o := Rp.zobj) (hNew (w := w.alloc (Rp.obj a A ps.length c r)) (o := Mg.obj am m) (k := w.heap.size + 1) (by simp)))
  have D3 := Lib.hid (hNew (w := (w.alloc (Rp.obj a A ps.length c r)).alloc (Mg.obj am m)) (o := Rp.zobj) (k := w.heap.size + 1 + 1) (by simp))
  have HX0 := Lib.hid X0
  have HR := Lib.hid hr
  have HM := Lib.hid hm
  have HMs := Lib.hid hms
  have HRs := Lib.hid hs
  have hheq : sHearB r m 6 = hearB r m 6 := (hear_eq (by decide +kernel) (by decide +kernel) rfl).symm
  have HHe := Lib.hid hheq
  clear X0 hr hv hm hheq hms hs
  go_enter Tryz.func39, Tryz.ntmps39
  (go_wp2_with (with_reducible refine wl_stop 10 ?_); refine stop_load (D1.out) rfl Tryz.underlying43 (by kernel_rfl) ?_; simp only [Act.put, List.setIfInBounds_toArray, List.set_cons_zero, List.set_cons_succ])
  go_wp2_with fail
  refine HSm.out.mono ?_
  rintro e w1 ⟨v1, rfl, ⟨a1, A1, c1, qs, rfl, f1⟩, x1⟩
  have HF1 := Lib.hid f1
  have X1 := Lib.hid (Ext.trans HX0.out x1)
  have XO := Lib.hid (show Ext w1 ((w1.alloc (.cells #[] 100)).alloc Rp.zobj) from ext_to (ext_alloc _ _) _)
  have B1 := Lib.hid (XO.out.box (x1.box D1.out))
  have B2 := Lib.hid (XO.out.box (x1.box D2.out))
  have B3 := Lib.hid (XO.out.box (x1.box D3.out))
  have BS := Lib.hid (hOld (o := Rp.zobj) (hNew (w := w1) (o := .cells #[] 100) rfl))
  have Z1 := Lib.hid (hNew (w := w1.alloc (.cells #[] 100)) (o := Rp.zobj) (k := w1.heap.size + 1) (by simp))
  have hs1 := x1.size
  simp only [sz_alloc] at hs1
  clear f1 x1 D1 D2 D3 HX0 HSm
  (go_wp2_with (with_reducible refine wl_stopS 43 ?_); refine stop_store ((w1.heap.size + 1)) (Rp.cs a1 A1 qs.length c1 (sameR r)) rfl rfl (Z1.out) (by kernel_rfl) rfl (by simp [Value.oneCell']) ?_)
  intro W3 e3 k3
  have x3 : Ext w1 W3 := ext_chg XO.out k3 (fun g hg => by rw [List.mem_singleton] at hg; omega)
  have E3 := Lib.hid e3
  have F1 := Lib.hid (box_chg B1.out k3 (by omega))
  have F2 := Lib.hid (box_chg B2.out k3 (by omega))
  have F3 := Lib.hid (box_chg B3.out k3 (by omega))
  have FS := Lib.hid (OsK.nil (B := w.heap.size + 1 + 1 + 1) (box_chg BS.out k3 (by omega)) (by omega))
  have HF3 := Lib.hid ((HF1.out.keep x3).less (B' := w.heap.size + 1 + 1 + 1) (by simp))
  have X3 := Lib.hid (Ext.trans X1.out x3)
  have hs3 := bx_lt e3
  clear e3 k3 x3 Z1 B1 B2 B3 BS HF1 X1 XO
  obtain ⟨E1, EM, E2, E6, HF, FS, X⟩ : Hid _ ∧ Hid _ ∧ Hid _ ∧ Hid _ ∧ Hid _ ∧ Hid _ ∧ Hid _ := ⟨F1, F2, F3, E3, HF3, FS, X3⟩
  clear F1 F2 F3 E3 HF3 X3
  go_wp2
  have HMl := Lib.hid HM.out
  cases qh : (rpOk r && sHearB r m 6)
  · have HQ := Lib.hid (hearR2_no (R2 := onDoR r m) (O := onDoO r m) (by rw [← HHe.out]; exact qh))
    (refine Rm.wp_region_mix' (R := relE W3.heap.size) (fun _ _ _ => True) (fun _ _ _ _ _ hq => hq) 19 (by first | exact Nat.le_refl _ | omega | (simp; omega)) (by kernel_rfl) (by kernel_rfl) ?_; simp only [List.take_succ_cons, List.take_zero, List.drop_succ_cons, List.drop_zero])
    (refine Rm.wpMix_loadAgg (fun W9' h9 => rp_whole E1.out h9) rfl rfl rfl Tryz.underlying43 (by kernel_rfl) ?_; simp only [Act.put, List.setIfInBounds_toArray, List.set_cons_zero, List.set_cons_succ])
    (refine Rm.wpMix_loadAgg (fun W9' h9 => mg_whole EM.out h9) rfl rfl rfl Tryz.underlying60 (by kernel_rfl) ?_; simp only [Act.put, List.setIfInBounds_toArray, List.set_cons_zero, List.set_cons_succ])
    (refine Rm.wpMix_det rfl rfl rfl (enters Tryz.func64 (by kernel_rfl) rfl) (fun W9' h9 => HHr.out W9' (Ext.trans X.out h9)) rfl ?_; simp only [Act.put, List.setIfInBounds_toArray, List.set_cons_zero, List.set_cons_succ])
    ((try simp only [qh, Bool.not_true, Bool.not_false]); (iterate 2 (refine Rm.wpMix_plain rfl rfl ?_; go_big_quiet_step (fail); refine wpQuiet_nil ?_)); (iterate 3 (refine Rm.wpMix_skip rfl rfl ?_; simp only [Act.put, List.setIfInBounds_toArray, List.set_cons_zero, List.set_cons_succ])); (iterate 2 (refine Rm.wpMix_plain rfl rfl ?_; go_big_quiet_step (fail); refine wpQuiet_nil ?_)); (iterate 8 (refine Rm.wpMix_skip rfl rfl ?_; simp only [Act.put, List.setIfInBounds_toArray, List.set_cons_zero, List.set_cons_succ])); (iterate 1 (refine Rm.wpMix_plain rfl rfl ?_; go_big_quiet_step (fail); refine wpQuiet_nil ?_)))
    refine Rm.wpMix_nil ?_
    rintro w4 hW
    have x : Ext W3 w4 := hW
    obtain ⟨E1, EM, E2, E6, HF, FS, X⟩ : Hid _ ∧ Hid _ ∧ Hid _ ∧ Hid _ ∧ Hid _ ∧ Hid _ ∧ Hid _ := ⟨Lib.hid (x.box E1.out), Lib.hid (x.box EM.out), Lib.hid (x.box E2.out), Lib.hid (x.box E6.out), Lib.hid (HF.out.keep x), Lib.hid (FS.out.keep x), Lib.hid (Ext.trans X.out x)⟩
    have hz_w4 := x.size
    clear x hW
    clear HHr
    (go_wp2_with (with_reducible refine wl_stop 32 ?_); refine stop_load (E6.out) rfl Tryz.underlying43 (by kernel_rfl) ?_; simp only [Act.put, List.setIfInBounds_toArray, List.set_cons_zero, List.set_cons_succ])
    (go_wp2_with (with_reducible refine wl_stopS 43 ?_); refine stop_store ((w.heap.size + 1 + 1)) (Rp.cs a1 A1 qs.length c1 (sameR r)) rfl rfl (E2.out) (by kernel_rfl) rfl (by simp [Value.oneCell']) ?_)
    intro W9 e9 k9
    have X9 := Lib.hid (chg_new X.out k9 (by omega))
    have HE9 := Lib.hid e9
    have HT9 := Lib.hid (RoT.of (HF.out.boxed E2.out k9) (FS.out.boxed E2.out (by decide) (by decide) (by decide) (by decide) k9) rfl)
    clear e9 k9
    go_wp2
    refine bodyPost_ret (results_box2 Tryz.results39 rfl rfl Tryz.underlying43 (by kernel_rfl) HE9.out) rfl ⟨_, rfl, ?_, X9.out⟩
    rw [HQ.out.1, HQ.out.2]
    exact HT9.out
  · obtain ⟨hy1, hy2, hy3⟩ := hearR2_yes (r := r) (m := m) (kind := 6) (R2 := onDoR r m) (O := onDoO r m) (by rw [← HHe.out]; exact qh)
    have HY := Lib.hid (And.intro hy1 hy2)
    obtain ⟨hq1, hq2, hq3⟩ := hear_facts (show (rpOk r && hearB r m 6) = true by rw [← HHe.out]; exact qh)
    have HL := Lib.hid (show liveB r = true → RpT r from fun h => rpOk_T hq1 h)
    have HV := Lib.hid (fits_view hq2 (by rw [hq3]; decide +kernel))
    have HVm := Lib.hid (fits_in hq2 (by rw [hq3]; decide +kernel))
    have HLg := Lib.hid (fits_log hq2 (by rw [hq3]; decide +kernel))
    have HIV := Lib.hid (rpOk_in hq1)
    have HS3 := Lib.hid hy3
    clear hy1 hy2 hy3 hq1 hq2 hq3
    cases gl : liveB r
    · have HQ := Lib.hid (show hearR2 r m 6 (onDoR r m) = r ∧ hearO r m 6 (onDoO r m) = [] from by
        rw [HY.out.1, HY.out.2]
        unfold onDoR onDoO doB
        rw [gl]
        simp)
      (refine Rm.wp_region_mix' (R := relE W3.heap.size) (fun _ _ _ => True) (fun _ _ _ _ _ hq => hq) 19 (by first | exact Nat.le_refl _ | omega | (simp; omega)) (by kernel_rfl) (by kernel_rfl) ?_; simp only [List.take_succ_cons, List.take_zero, List.drop_succ_cons, List.drop_zero])
      (refine Rm.wpMix_loadAgg (fun W9' h9 => rp_whole E1.out h9) rfl rfl rfl Tryz.underlying43 (by kernel_rfl) ?_; simp only [Act.put, List.setIfInBounds_toArray, List.set_cons_zero, List.set_cons_succ])
      (refine Rm.wpMix_loadAgg (fun W9' h9 => mg_whole EM.out h9) rfl rfl rfl Tryz.underlying60 (by kernel_rfl) ?_; simp only [Act.put, List.setIfInBounds_toArray, List.set_cons_zero, List.set_cons_succ])
      (refine Rm.wpMix_det rfl rfl rfl (enters Tryz.func64 (by kernel_rfl) rfl) (fun W9' h9 => HHr.out W9' (Ext.trans X.out h9)) rfl ?_; simp only [Act.put, List.setIfInBounds_toArray, List.set_cons_zero, List.set_cons_succ])
      ((try simp only [qh, Bool.not_true, Bool.not_false]); (iterate 2 (refine Rm.wpMix_plain rfl rfl ?_; go_big_quiet_step (fail); refine wpQuiet_nil ?_)))
      (refine Rm.wpMix_loadAgg (fun W9' h9 => rp_whole E1.out h9) rfl rfl rfl Tryz.underlying43 (by kernel_rfl) ?_; simp only [Act.put, List.setIfInBounds_toArray, List.set_cons_zero, List.set_cons_succ])
      (refine Rm.wpMix_det rfl rfl rfl (enters Tryz.func65 (by kernel_rfl) rfl) (fun W9' h9 => c_l6Live a A ps.length c r W9') rfl ?_; simp only [Act.put, List.setIfInBounds_toArray, List.set_cons_zero, List.set_cons_succ])
      ((try simp only [gl, Bool.not_true, Bool.not_false]); (iterate 3 (refine Rm.wpMix_plain rfl rfl ?_; go_big_quiet_step (fail); refine wpQuiet_nil ?_)); (iterate 8 (refine Rm.wpMix_skip rfl rfl ?_; simp only [Act.put, List.setIfInBounds_toArray, List.set_cons_zero, List.set_cons_succ])); (iterate 1 (refine Rm.wpMix_plain rfl rfl ?_; go_big_quiet_step (fail); refine wpQuiet_nil ?_)))
      refine Rm.wpMix_nil ?_
      rintro w4 hW
      have x : Ext W3 w4 := hW
      obtain ⟨E1, EM, E2, E6, HF, FS, X⟩ : Hid _ ∧ Hid _ ∧ Hid _ ∧ Hid _ ∧ Hid _ ∧ Hid _ ∧ Hid _ := ⟨Lib.hid (x.box E1.out), Lib.hid (x.box EM.out), Lib.hid (x.box E2.out), Lib.hid (x.box E6.out), Lib.hid (HF.out.keep x), Lib.hid (FS.out.keep x), Lib.hid (Ext.trans X.out x)⟩
      have hz_w4 := x.size
      clear x hW
      clear HHr
      rw [HS3.out] at E6 HF
      (go_wp2_with (with_reducible refine wl_stop 32 ?_); refine stop_load (E6.out) rfl Tryz.underlying43 (by kernel_rfl) ?_; simp only [Act.put, List.setIfInBounds_toArray, List.set_cons_zero, List.set_cons_succ])
      (go_wp2_with (with_reducible refine wl_stopS 43 ?_); refine stop_store ((w.heap.size + 1 + 1)) (Rp.cs a1 A1 qs.length c1 (r)) rfl rfl (E2.out) (by kernel_rfl) rfl (by simp [Value.oneCell']) ?_)
      intro W9 e9 k9
      have X9 := Lib.hid (chg_new X.out k9 (by omega))
      have HE9 := Lib.hid e9
      have HT9 := Lib.hid (RoT.of (HF.out.boxed E2.out k9) (FS.out.boxed E2.out (by decide) (by decide) (by decide) (by decide) k9) rfl)
      clear e9 k9
      go_wp2
      refine bodyPost_ret (results_box2 Tryz.results39 rfl rfl Tryz.underlying43 (by kernel_rfl) HE9.out) rfl ⟨_, rfl, ?_, X9.out⟩
      rw [HQ.out.1, HQ.out.2]
      exact HT9.out
    · cases g2 : (m.view % r.of != r.me)
      · have HdB := Lib.hid (show doB r m = true by
          unfold doB
          rw [gl]
          simp at g2 ⊢
          exact g2.symm)
        (refine Rm.wp_region_mix' (R := relE W3.heap.size) (fun _ _ _ => True) (fun _ _ _ _ _ hq => hq) 19 (by first | exact Nat.le_refl _ | omega | (simp; omega)) (by kernel_rfl) (by kernel_rfl) ?_; simp only [List.take_succ_cons, List.take_zero, List.drop_succ_cons, List.drop_zero])
        (refine Rm.wpMix_loadAgg (fun W9' h9 => rp_whole E1.out h9) rfl rfl rfl Tryz.underlying43 (by kernel_rfl) ?_; simp only [Act.put, List.setIfInBounds_toArray, List.set_cons_zero, List.set_cons_succ])
        (refine Rm.wpMix_loadAgg (fun W9' h9 => mg_whole EM.out h9) rfl rfl rfl Tryz.underlying60 (by kernel_rfl) ?_; simp only [Act.put, List.setIfInBounds_toArray, List.set_cons_zero, List.set_cons_succ])
        (refine Rm.wpMix_det rfl rfl rfl (enters Tryz.func64 (by kernel_rfl) rfl) (fun W9' h9 => HHr.out W9' (Ext.trans X.out h9)) rfl ?_; simp only [Act.put, List.setIfInBounds_toArray, List.set_cons_zero, List.set_cons_succ])
        ((try simp only [qh, Bool.not_true, Bool.not_false]); (iterate 2 (refine Rm.wpMix_plain rfl rfl ?_; go_big_quiet_step (fail); refine wpQuiet_nil ?_)))
        (refine Rm.wpMix_loadAgg (fun W9' h9 => rp_whole E1.out h9) rfl rfl rfl Tryz.underlying43 (by kernel_rfl) ?_; simp only [Act.put, List.setIfInBounds_toArray, List.set_cons_zero, List.set_cons_succ])
        (refine Rm.wpMix_det rfl rfl rfl (enters Tryz.func65 (by kernel_rfl) rfl) (fun W9' h9 => c_l6Live a A ps.length c r W9') rfl ?_; simp only [Act.put, List.setIfInBounds_toArray, List.set_cons_zero, List.set_cons_succ])
        ((try simp only [gl, Bool.not_true, Bool.not_false]); (iterate 3 (refine Rm.wpMix_plain rfl rfl ?_; go_big_quiet_step (fail); refine wpQuiet_nil ?_)); (iterate 1 (refine Rm.wpMix_plain rfl rfl ?_; go_big_quiet_step (fail); refine wpQuiet_nil ?_)); (refine Rm.wpMix_load1 (fun W9' h9 => show W9'.cell? _ = some (.int .i64 m.view) from bx_cell (Ext.box h9 EM.out) 2) rfl rfl rfl Tryz.underlying3 rfl ?_; simp only [Act.put, List.setIfInBounds_toArray, List.set_cons_zero, List.set_cons_succ]); (iterate 1 (refine Rm.wpMix_plain rfl rfl ?_; go_big_quiet_step (fail); refine wpQuiet_nil ?_)); (refine Rm.wpMix_load1 (fun W9' h9 => show W9'.cell? _ = some (.int .i64 r.of) from bx_cell (Ext.box h9 E1.out) 1) rfl rfl rfl Tryz.underlying3 rfl ?_; simp only [Act.put, List.setIfInBounds_toArray, List.set_cons_zero, List.set_cons_succ]))
        (refine Rm.wpMix_det rfl rfl rfl (enters Tryz.func68 (by kernel_rfl) rfl) (fun W9' h9 => c_sPrimaryOf m.view r.of W9' HVm.out HIV.out.2) rfl ?_; simp only [Act.put, List.setIfInBounds_toArray, List.set_cons_zero, List.set_cons_succ])
        ((iterate 1 (refine Rm.wpMix_plain rfl rfl ?_; go_big_quiet_step (fail); refine wpQuiet_nil ?_)); (refine Rm.wpMix_load1 (fun W9' h9 => show W9'.cell? _ = some (.int .i64 r.me) from bx_cell (Ext.box h9 E1.out) 0) rfl rfl rfl Tryz.underlying3 rfl ?_; simp only [Act.put, List.setIfInBounds_toArray, List.set_cons_zero, List.set_cons_succ]); (iterate 1 (refine Rm.wpMix_plain rfl rfl ?_; go_big_quiet_step (fail); refine wpQuiet_nil ?_)); (try simp only [g2, Bool.not_true, Bool.not_false]); (iterate 1 (refine Rm.wpMix_plain rfl rfl ?_; go_big_quiet_step (fail); refine wpQuiet_nil ?_)))
        refine Rm.wpMix_nil ?_
        rintro w4 hW
        have x : Ext W3 w4 := hW
        obtain ⟨E1, EM, E2, E6, HF, FS, X⟩ : Hid _ ∧ Hid _ ∧ Hid _ ∧ Hid _ ∧ Hid _ ∧ Hid _ ∧ Hid _ := ⟨Lib.hid (x.box E1.out), Lib.hid (x.box EM.out), Lib.hid (x.box E2.out), Lib.hid (x.box E6.out), Lib.hid (HF.out.keep x), Lib.hid (FS.out.keep x), Lib.hid (Ext.trans X.out x)⟩
        have hz_w4 := x.size
        clear x hW
        clear HHr
        rw [HS3.out] at E6 HF
        have HT := Lib.hid (HL.out gl)
        have d1 := bx_cell E1.out
        have dM1 := bx_cell EM.out
        have z1 := bx_lt E1.out
        have zM1 := bx_lt EM.out
        cases h1 : (r.mode == 1)
        · have HdS := Lib.hid (show doS r m = false by unfold doS; rw [h1]; rfl)
          cases g0 : decide (r.view < m.view)
          · have HtR := Lib.hid (show ttR r m.view = r by unfold ttR; rw [gl, g0]; rfl)
            have HtO := Lib.hid (show ttO r m.view = [] by unfold ttO; rw [gl, g0]; rfl)
            have HOs := Lib.hid (show List.map Prod.snd ([] : List OtE) = [] from rfl)
            have d6 := bx_cell E6.out
            have dM := bx_cell EM.out
            have z6 := bx_lt E6.out
            have zM := bx_lt EM.out
            cases g6 : (r.mode != 2)
            · cases g7 : (r.view != m.view)
              · have HtB := Lib.hid (show ttB r m.view = true by
                  unfold ttB
                  rw [gl, HtR.out]
                  have h1 := g6
                  have h2 := g7
                  simp at h1 h2 ⊢
                  exact ⟨h1, h2.symm⟩)
                have hT1 := ttB_T (fun _ => HT.out) HV.out.1 HV.out.2 HtB.out
                rw [HtR.out] at hT1
                have HT1 := Lib.hid hT1
                have hq20 : qs.length ≤ 20 := by have h1 := hT1.votes; rw [← HF.out.e, List.length_map] at h1; exact h1
                clear hT1
                obtain ⟨f8, hf8⟩ : ∃ f, findV 6 m.frm r.votes = f := ⟨_, rfl⟩
                have hcon := c_l6Find A1 c1 qs 6 m.frm w4 HF.out.v.1 (by omega)
                rw [HF.out.e, hf8] at hcon
                have HFi := Lib.hid hcon
                have HF8 := Lib.hid hf8
                clear hcon hf8
                have HGo := Lib.hid (show hearR2 r m 6 (onDoR r m) = lookR (heard 6 r m (doV2 m)) ∧ hearO r m 6 (onDoO r m) = [] ++ lookO (heard 6 r m (doV2 m)) from by
                  rw [HY.out.1, HY.out.2]
                  unfold onDoR onDoO
                  rw [HdB.out, HdS.out]
                  rw [HtB.out, HtR.out, HtO.out]
                  simp)
                go_wp2_with fail
                refine HFi.out.mono ?_
                rintro e u2 ⟨rfl, x⟩
                obtain ⟨E1, EM, E2, E6, HF, FS, X⟩ : Hid _ ∧ Hid _ ∧ Hid _ ∧ Hid _ ∧ Hid _ ∧ Hid _ ∧ Hid _ := ⟨Lib.hid (x.box E1.out), Lib.hid (x.box EM.out), Lib.hid (x.box E2.out), Lib.hid (x.box E6.out), Lib.hid (HF.out.keep x), Lib.hid (FS.out.keep x), Lib.hid (Ext.trans X.out x)⟩
                have hz_u2 := x.size
                clear x
                clear d6 dM z6 zM HFi d1 dM1 z1 zM1
                cases g8 : decide (f8 < 0)
                · have HH := Lib.hid (show heard 6 r m (doV2 m) = r by unfold heard; rw [HF8.out, g8]; rfl)
                  have HG := Lib.hid (show _ ∧ _ from by have h := HGo.out; rw [HH.out] at h; exact h)
                  have HT2 := Lib.hid HT1.out
                  have HA0 := Lib.hid (fun k (hk : k ∈ blk (some ⟨w1.heap.size, 0, none⟩)) => (FS.out.row.inB k hk).2)
                  have E2v := Lib.hid E2.out
                  obtain ⟨RX, hRX⟩ : ∃ X, lookR r = X := ⟨_, rfl⟩
                  obtain ⟨OX, hOX⟩ : ∃ X, lookO r = X := ⟨_, rfl⟩
                  have hcon := c_l7Look (w.heap.size + 1 + 1 + 1) a1 A1 c1 qs r u2 HF.out HT2.out (by omega)
                  have hOl : OX.length ≤ 6 := by rw [← hOX]; exact lookO_len HT2.out
                  have HGx := HG.out
                  rw [hRX, hOX] at hcon HGx
                  have HGL := Lib.hid HGx
                  have HCon := Lib.hid hcon
                  clear hcon hRX hOX HGx HG
                  (go_wp2_with (with_reducible refine wl_stop 104 ?_); refine stop_load (E6.out) rfl Tryz.underlying43 (by kernel_rfl) ?_; simp only [Act.put, List.setIfInBounds_toArray, List.set_cons_zero, List.set_cons_succ])
                  go_wp2_with fail
                  refine HCon.out.mono ?_
                  rintro e v8 ⟨⟨a9, A9, c9, q9, Am, cm, om, rfl, f9, fm, mm⟩, x⟩
                  obtain ⟨E2, FS, X⟩ : Hid _ ∧ Hid _ ∧ Hid _ := ⟨Lib.hid (x.box E2.out), Lib.hid (FS.out.keep x), Lib.hid (Ext.trans X.out x)⟩
                  have hz_v8 := x.size
                  clear x HCon HF
                  have XA := ext_alloc v8 Rp.zobj
                  have EQ0 := Lib.hid (hNew (w := v8) (o := Rp.zobj) rfl)
                  obtain ⟨E2, FS, X⟩ : Hid _ ∧ Hid _ ∧ Hid _ := ⟨Lib.hid (XA.box E2.out), Lib.hid (FS.out.keep XA), Lib.hid (Ext.trans X.out XA)⟩
                  have HF9 := Lib.hid (f9.keep XA)
                  have HM := Lib.hid (fm.keep XA)
                  have HMm := Lib.hid mm
                  have hml : om.length ≤ 6 := by rw [← List.length_map (f := Prod.snd), mm]; exact hOl
                  have hzA : (v8.alloc Rp.zobj).heap.size = v8.heap.size + 1 := by simp
                  clear XA f9 fm mm
                  have hv7 := bx_lt E2v.out
                  (go_wp2_with (with_reducible refine wl_stopS 43 ?_); refine stop_store (v8.heap.size) (Rp.cs a9 A9 q9.length c9 RX) rfl rfl (EQ0.out) (by kernel_rfl) rfl (by simp [Value.oneCell']) ?_)
                  intro W8 e8 k8
                  have hlt_W8 := bx_lt EQ0.out
                  obtain ⟨E2, FS, X, HF9, HM⟩ : Hid _ ∧ Hid _ ∧ Hid _ ∧ Hid _ ∧ Hid _ := ⟨Lib.hid (box_chg E2.out k8 (by omega)), Lib.hid (FS.out.boxed EQ0.out (by decide) (by decide) (by decide) (by decide) k8), Lib.hid (ext_chg X.out k8 (fun k hk => by rw [List.mem_singleton] at hk; omega)), Lib.hid (HF9.out.boxed EQ0.out k8), Lib.hid (HM.out.boxed EQ0.out (by decide) (by decide) (by decide) (by decide) k8)⟩
                  have EQ := Lib.hid e8
                  have hs_W8 := bx_lt e8
                  have hz_W8 := k8.size
                  clear e8 k8 E1 E6 EQ0
                  go_wp2
                  obtain ⟨g, obj1, hg1, hg2, hp8, hg8, hrun⟩ := outs_plan (.cells (Rp.cs a9 A9 q9.length c9 RX) 43) FS.out HM.out E2.out hv7 HA0.out (by first | omega | (simp; omega)) (by omega)
                  have HOth := Lib.hid (outs_oth FS.out E2.out hg2)
                  have HQ := Lib.hid (relM_box (hp := hp8) (hg := hg8) (obj := (.cells (Rp.cs a9 A9 q9.length c9 RX) 43)) (obj1 := obj1) EQ.out (by omega) (outs_apart FS.out EQ.out (by omega) hg2))
                  have HQw := Lib.hid (fun W' (h : (relM (w.heap.size + 1 + 1) g (.cells (Rp.cs a9 A9 q9.length c9 RX) 43) obj1 W8.heap.size hp8 hg8).rel W8 W') => cells_mid (cs := Rp.cs a9 A9 q9.length c9 RX) (HQ.out W' h) [] [] rfl rfl)
                  have HRun := Lib.hid hrun
                  have HG1 := Lib.hid hg1
                  have HG2 := Lib.hid hg2
                  clear hrun hg1 hg2
                  (refine Rm.wp_region_mix' (R := relM (w.heap.size + 1 + 1) g (.cells (Rp.cs a9 A9 q9.length c9 RX) 43) obj1 W8.heap.size hp8 hg8) (joinΦ (w.heap.size + 1 + 1) (.cells (Rp.cs a9 A9 q9.length c9 RX) 43) g obj1 W8.heap.size (w.heap.size + 1 + 1 + 1) (([] : List OtE) ++ om)) (fun _ _ _ _ _ hq => hq) 6 (by first | exact Nat.le_refl _ | omega | (simp; omega)) (by kernel_rfl) (by kernel_rfl) ?_; simp only [List.take_succ_cons, List.take_zero, List.drop_succ_cons, List.drop_zero])
                  (refine Rm.wpMix_loadAgg (HQw.out) rfl rfl rfl Tryz.underlying43 (by kernel_rfl) ?_; simp only [Act.put, List.setIfInBounds_toArray, List.set_cons_zero, List.set_cons_succ])
                  (iterate 2 (refine Rm.wpMix_plain rfl rfl ?_; go_big_quiet_step (fail); refine wpQuiet_nil ?_))
                  refine rm_own (enc := OtE.enc) _ _ 55 100 18 (w.heap.size + 1 + 1 + 1) rfl rfl (some ⟨w1.heap.size, 0, none⟩) _ 0 ([] : List OtE) rfl rfl Am _ cm om rfl rfl (fun W hW => HRun.out W hW) rfl (fun A5 c5 => ?_)
                  simp only [Act.put, List.setIfInBounds_toArray, List.set_cons_zero, List.set_cons_succ]
                  refine wpMix_stM HG1.out E2.out rfl rfl rfl rfl rfl (by kernel_rfl) rfl (by simp [Value.oneCell']) rfl ?_
                  simp only [Act.put, List.setIfInBounds_toArray, List.set_cons_zero, List.set_cons_succ]
                  (iterate 1 (refine Rm.wpMix_plain rfl rfl ?_; go_big_quiet_step (fail); refine wpQuiet_nil ?_))
                  refine Rm.wpMix_nil ?_
                  rintro W9 ⟨⟨h9, hv9⟩, e9⟩
                  have HE9 := Lib.hid e9
                  have HOS9 := Lib.hid (outs_join FS.out HM.out (by omega) HOth.out h9 hv9)
                  have HF9 := Lib.hid (HF9.out.other h9.1 HOth.out)
                  have HX9 := Lib.hid (ext_chg X.out h9.1 (fun k hk => by
                    have hgg := HG2.out
                    simp only [List.mem_cons, List.not_mem_nil, or_false] at hk
                    rcases hk with rfl | rfl
                    · omega
                    · rcases hgg with h | h <;> omega))
                  clear h9 hv9 e9
                  go_wp2
                  have hT9 := RoT.of HF9.out HOS9.out (show List.map Prod.snd (([] : List OtE) ++ om) = hearO r m 6 (onDoO r m) by rw [HGL.out.2, List.map_append, HOs.out, HMm.out])
                  refine bodyPost_ret (results_box2 Tryz.results39 rfl rfl Tryz.underlying43 (by kernel_rfl) HE9.out) rfl ⟨_, rfl, ?_, HX9.out⟩
                  rw [HGL.out.1]
                  first | exact hT9 | (rw [List.length_append] at hT9; exact hT9)
                · obtain ⟨R2, hR2⟩ : ∃ X, r.voted (doV2 m) = X := ⟨_, rfl⟩
                  have HR2 := Lib.hid hR2
                  clear hR2
                  have HH := Lib.hid (show heard 6 r m (doV2 m) = R2 by unfold heard; rw [HF8.out, g8]; exact HR2.out)
                  have HG := Lib.hid (show _ ∧ _ from by have h := HGo.out; rw [HH.out] at h; exact h)
                  have hT2 := heard_T (kind := 6) (m := m) (v := doV2 m) HT1.out HLg.out
                  rw [HH.out] at hT2
                  have HT2 := Lib.hid hT2
                  clear hT2
                  have HVt := Lib.hid (show ∀ W (av : LAd), Ext u2 W → LgF W (w.heap.size + 1 + 1 + 1) av m.log → Calls Tryz.prog 96 #[Rp.val a1 A1 qs.length c1 r, VtE.val av (doV2 m)] W fun e w' => ∃ v, e = .returned v ∧ RvV (w.heap.size + 1 + 1 + 1) a1 R2 v w' ∧ Ext W w' from fun W av h hl => by
                    have h5 := c_l6Vote (w.heap.size + 1 + 1 + 1) a1 A1 c1 qs r av (doV2 m) W (HF.out.keep h) hl (by have := h.size; omega) HT1.out.votes
                    rw [HR2.out] at h5
                    exact h5.mono fun e w' ⟨⟨A7, c7, q7, he, hf⟩, hx⟩ => ⟨_, he, ⟨A7, c7, q7, rfl, hf⟩, hx⟩)
                  go_wp2
                  have HW1 := Lib.hid (fun W' (h : (relE u2.heap.size).rel u2 W') => rp_whole E6.out h)
                  (refine Rm.wp_region_mix' (R := relE u2.heap.size) (fun _ _ _ => True) (fun _ _ _ _ _ hq => hq) 14 (by first | exact Nat.le_refl _ | omega | (simp; omega)) (by kernel_rfl) (by kernel_rfl) ?_; simp only [List.take_succ_cons, List.take_zero, List.drop_succ_cons, List.drop_zero])
                  (refine Rm.wpMix_loadAgg (HW1.out) rfl rfl rfl Tryz.underlying43 (by kernel_rfl) ?_; simp only [Act.put, List.setIfInBounds_toArray, List.set_cons_zero, List.set_cons_succ])
                  ((iterate 1 (refine Rm.wpMix_plain rfl rfl ?_; go_big_quiet_step (fail); refine wpQuiet_nil ?_)); (refine Rm.wpMix_load1 (fun W9' h9 => show W9'.cell? _ = some (.int .i64 m.frm) from bx_cell (Ext.box h9 EM.out) 1) rfl rfl rfl Tryz.underlying3 rfl ?_; simp only [Act.put, List.setIfInBounds_toArray, List.set_cons_zero, List.set_cons_succ]); (iterate 1 (refine Rm.wpMix_plain rfl rfl ?_; go_big_quiet_step (fail); refine wpQuiet_nil ?_)); (refine Rm.wpMix_load1 (fun W9' h9 => show W9'.cell? _ = some (.int .i64 m.view) from bx_cell (Ext.box h9 EM.out) 2) rfl rfl rfl Tryz.underlying3 rfl ?_; simp only [Act.put, List.setIfInBounds_toArray, List.set_cons_zero, List.set_cons_succ]); (iterate 1 (refine Rm.wpMix_plain rfl rfl ?_; go_big_quiet_step (fail); refine wpQuiet_nil ?_)); (refine Rm.wpMix_load1 (fun W9' h9 => show W9'.cell? _ = some (.int .i64 m.normal) from bx_cell (Ext.box h9 EM.out) 5) rfl rfl rfl Tryz.underlying3 rfl ?_; simp only [Act.put, List.setIfInBounds_toArray, List.set_cons_zero, List.set_cons_succ]); (iterate 1 (refine Rm.wpMix_plain rfl rfl ?_; go_big_quiet_step (fail); refine wpQuiet_nil ?_)); (refine Rm.wpMix_load1 (fun W9' h9 => show W9'.cell? _ = some (.int .i64 m.commit) from bx_cell (Ext.box h9 EM.out) 4) rfl rfl rfl Tryz.underlying3 rfl ?_; simp only [Act.put, List.setIfInBounds_toArray, List.set_cons_zero, List.set_cons_succ]); (iterate 1 (refine Rm.wpMix_plain rfl rfl ?_; go_big_quiet_step (fail); refine wpQuiet_nil ?_)))
                  (refine Rm.wpMix_loadAgg (fun W9' h9 => mg_log2 EM.out h9) rfl rfl rfl Tryz.underlying40 (by kernel_rfl) ?_; simp only [Act.put, List.setIfInBounds_toArray, List.set_cons_zero, List.set_cons_succ])
                  refine Rm.wpMix_call (LgV9 (w.heap.size + 1 + 1 + 1) m.log) rfl rfl rfl (enters Tryz.func103 (by kernel_rfl) rfl) (LgV9.mono _ _ _) (fun W' hW' => (c_l3Copy am m.log HMs.out W' (HMl.out.keep (Ext.trans X.out hW'))).mono fun e w' ⟨a4, he, hf, hx⟩ => ⟨_, he, ⟨a4, rfl, hf.less (by have := (show Ext _ _ from hW').size; omega)⟩, hx⟩) rfl (fun v6 hv6 => ?_)
                  obtain ⟨_, _, a6, rfl, _⟩ := hv6
                  simp only [Act.put, List.setIfInBounds_toArray, List.set_cons_zero, List.set_cons_succ]
                  (iterate 1 (refine Rm.wpMix_plain rfl rfl ?_; go_big_quiet_step (fail); refine wpQuiet_nil ?_))
                  refine Rm.wpMix_call (RvV (w.heap.size + 1 + 1 + 1) a1 R2) rfl rfl rfl (enters Tryz.func96 (by kernel_rfl) rfl) (RvV.mono _ _ _ _) (fun W' hW' => HVt.out W' a6 hW'.1 hW'.2.inv) rfl (fun v7 hv7 => ?_)
                  obtain ⟨_, _, A4, c4, q4_, rfl, _⟩ := hv7
                  simp only [Act.put, List.setIfInBounds_toArray, List.set_cons_zero, List.set_cons_succ]
                  refine Rm.wpMix_nil ?_
                  rintro u3 ⟨⟨hW, _⟩, hv5⟩
                  have x : Ext u2 u3 := hW
                  obtain ⟨q4, hq4, hf4⟩ := hv5.inv
                  rw [hq4]
                  have HF2 := Lib.hid hf4
                  clear hv5 hf4 hq4
                  obtain ⟨E1, EM, E2, E6, FS, X⟩ : Hid _ ∧ Hid _ ∧ Hid _ ∧ Hid _ ∧ Hid _ ∧ Hid _ := ⟨Lib.hid (x.box E1.out), Lib.hid (x.box EM.out), Lib.hid (x.box E2.out), Lib.hid (x.box E6.out), Lib.hid (FS.out.keep x), Lib.hid (Ext.trans X.out x)⟩
                  have hz_u3 := x.size
                  clear x hW HF HVt HW1
                  (go_wp2_with (with_reducible refine wl_stopS 43 ?_); refine stop_store ((w1.heap.size + 1)) (Rp.cs a1 A4 q4.length c4 R2) rfl rfl (E6.out) (by kernel_rfl) rfl (by simp [Value.oneCell']) ?_)
                  intro u4 e4 k4
                  have hlt_u4 := bx_lt E6.out
                  obtain ⟨E1, EM, E2, FS, X, HF2⟩ : Hid _ ∧ Hid _ ∧ Hid _ ∧ Hid _ ∧ Hid _ ∧ Hid _ := ⟨Lib.hid (box_chg E1.out k4 (by omega)), Lib.hid (box_chg EM.out k4 (by omega)), Lib.hid (box_chg E2.out k4 (by omega)), Lib.hid (FS.out.boxed E6.out (by decide) (by decide) (by decide) (by decide) k4), Lib.hid (ext_chg X.out k4 (fun k hk => by rw [List.mem_singleton] at hk; omega)), Lib.hid (HF2.out.boxed E6.out k4)⟩
                  have E6 := Lib.hid e4
                  have hs_u4 := bx_lt e4
                  have hz_u4 := k4.size
                  clear e4 k4
                  have HF := Lib.hid HF2.out
                  clear HF2
                  have HA0 := Lib.hid (fun k (hk : k ∈ blk (some ⟨w1.heap.size, 0, none⟩)) => (FS.out.row.inB k hk).2)
                  have E2v := Lib.hid E2.out
                  obtain ⟨RX, hRX⟩ : ∃ X, lookR R2 = X := ⟨_, rfl⟩
                  obtain ⟨OX, hOX⟩ : ∃ X, lookO R2 = X := ⟨_, rfl⟩
                  have hcon := c_l7Look (w.heap.size + 1 + 1 + 1) a1 A4 c4 q4 R2 u4 HF.out HT2.out (by omega)
                  have hOl : OX.length ≤ 6 := by rw [← hOX]; exact lookO_len HT2.out
                  have HGx := HG.out
                  rw [hRX, hOX] at hcon HGx
                  have HGL := Lib.hid HGx
                  have HCon := Lib.hid hcon
                  clear hcon hRX hOX HGx HG
                  (go_wp2_with (with_reducible refine wl_stop 104 ?_); refine stop_load (E6.out) rfl Tryz.underlying43 (by kernel_rfl) ?_; simp only [Act.put, List.setIfInBounds_toArray, List.set_cons_zero, List.set_cons_succ])
                  go_wp2_with fail
                  refine HCon.out.mono ?_
                  rintro e v8 ⟨⟨a9, A9, c9, q9, Am, cm, om, rfl, f9, fm, mm⟩, x⟩
                  obtain ⟨E2, FS, X⟩ : Hid _ ∧ Hid _ ∧ Hid _ := ⟨Lib.hid (x.box E2.out), Lib.hid (FS.out.keep x), Lib.hid (Ext.trans X.out x)⟩
                  have hz_v8 := x.size
                  clear x HCon HF
                  have XA := ext_alloc v8 Rp.zobj
                  have EQ0 := Lib.hid (hNew (w := v8) (o := Rp.zobj) rfl)
                  obtain ⟨E2, FS, X⟩ : Hid _ ∧ Hid _ ∧ Hid _ := ⟨Lib.hid (XA.box E2.out), Lib.hid (FS.out.keep XA), Lib.hid (Ext.trans X.out XA)⟩
                  have HF9 := Lib.hid (f9.keep XA)
                  have HM := Lib.hid (fm.keep XA)
                  have HMm := Lib.hid mm
                  have hml : om.length ≤ 6 := by rw [← List.length_map (f := Prod.snd), mm]; exact hOl
                  have hzA : (v8.alloc Rp.zobj).heap.size = v8.heap.size + 1 := by simp
                  clear XA f9 fm mm
                  have hv7 := bx_lt E2v.out
                  (go_wp2_with (with_reducible refine wl_stopS 43 ?_); refine stop_store (v8.heap.size) (Rp.cs a9 A9 q9.length c9 RX) rfl rfl (EQ0.out) (by kernel_rfl) rfl (by simp [Value.oneCell']) ?_)
                  intro W8 e8 k8
                  have hlt_W8 := bx_lt EQ0.out
                  obtain ⟨E2, FS, X, HF9, HM⟩ : Hid _ ∧ Hid _ ∧ Hid _ ∧ Hid _ ∧ Hid _ := ⟨Lib.hid (box_chg E2.out k8 (by omega)), Lib.hid (FS.out.boxed EQ0.out (by decide) (by decide) (by decide) (by decide) k8), Lib.hid (ext_chg X.out k8 (fun k hk => by rw [List.mem_singleton] at hk; omega)), Lib.hid (HF9.out.boxed EQ0.out k8), Lib.hid (HM.out.boxed EQ0.out (by decide) (by decide) (by decide) (by decide) k8)⟩
                  have EQ := Lib.hid e8
                  have hs_W8 := bx_lt e8
                  have hz_W8 := k8.size
                  clear e8 k8 E1 E6 EQ0
                  go_wp2
                  obtain ⟨g, obj1, hg1, hg2, hp8, hg8, hrun⟩ := outs_plan (.cells (Rp.cs a9 A9 q9.length c9 RX) 43) FS.out HM.out E2.out hv7 HA0.out (by first | omega | (simp; omega)) (by omega)
                  have HOth := Lib.hid (outs_oth FS.out E2.out hg2)
                  have HQ := Lib.hid (relM_box (hp := hp8) (hg := hg8) (obj := (.cells (Rp.cs a9 A9 q9.length c9 RX) 43)) (obj1 := obj1) EQ.out (by omega) (outs_apart FS.out EQ.out (by omega) hg2))
                  have HQw := Lib.hid (fun W' (h : (relM (w.heap.size + 1 + 1) g (.cells (Rp.cs a9 A9 q9.length c9 RX) 43) obj1 W8.heap.size hp8 hg8).rel W8 W') => cells_mid (cs := Rp.cs a9 A9 q9.length c9 RX) (HQ.out W' h) [] [] rfl rfl)
                  have HRun := Lib.hid hrun
                  have HG1 := Lib.hid hg1
                  have HG2 := Lib.hid hg2
                  clear hrun hg1 hg2
                  (refine Rm.wp_region_mix' (R := relM (w.heap.size + 1 + 1) g (.cells (Rp.cs a9 A9 q9.length c9 RX) 43) obj1 W8.heap.size hp8 hg8) (joinΦ (w.heap.size + 1 + 1) (.cells (Rp.cs a9 A9 q9.length c9 RX) 43) g obj1 W8.heap.size (w.heap.size + 1 + 1 + 1) (([] : List OtE) ++ om)) (fun _ _ _ _ _ hq => hq) 6 (by first | exact Nat.le_refl _ | omega | (simp; omega)) (by kernel_rfl) (by kernel_rfl) ?_; simp only [List.take_succ_cons, List.take_zero, List.drop_succ_cons, List.drop_zero])
                  (refine Rm.wpMix_loadAgg (HQw.out) rfl rfl rfl Tryz.underlying43 (by kernel_rfl) ?_; simp only [Act.put, List.setIfInBounds_toArray, List.set_cons_zero, List.set_cons_succ])
                  (iterate 2 (refine Rm.wpMix_plain rfl rfl ?_; go_big_quiet_step (fail); refine wpQuiet_nil ?_))
                  refine rm_own (enc := OtE.enc) _ _ 55 100 18 (w.heap.size + 1 + 1 + 1) rfl rfl (some ⟨w1.heap.size, 0, none⟩) _ 0 ([] : List OtE) rfl rfl Am _ cm om rfl rfl (fun W hW => HRun.out W hW) rfl (fun A5 c5 => ?_)
                  simp only [Act.put, List.setIfInBounds_toArray, List.set_cons_zero, List.set_cons_succ]
                  refine wpMix_stM HG1.out E2.out rfl rfl rfl rfl rfl (by kernel_rfl) rfl (by simp [Value.oneCell']) rfl ?_
                  simp only [Act.put, List.setIfInBounds_toArray, List.set_cons_zero, List.set_cons_succ]
                  (iterate 1 (refine Rm.wpMix_plain rfl rfl ?_; go_big_quiet_step (fail); refine wpQuiet_nil ?_))
                  refine Rm.wpMix_nil ?_
                  rintro W9 ⟨⟨h9, hv9⟩, e9⟩
                  have HE9 := Lib.hid e9
                  have HOS9 := Lib.hid (outs_join FS.out HM.out (by omega) HOth.out h9 hv9)
                  have HF9 := Lib.hid (HF9.out.other h9.1 HOth.out)
                  have HX9 := Lib.hid (ext_chg X.out h9.1 (fun k hk => by
                    have hgg := HG2.out
                    simp only [List.mem_cons, List.not_mem_nil, or_false] at hk
                    rcases hk with rfl | rfl
                    · omega
                    · rcases hgg with h | h <;> omega))
                  clear h9 hv9 e9
                  go_wp2
                  have hT9 := RoT.of HF9.out HOS9.out (show List.map Prod.snd (([] : List OtE) ++ om) = hearO r m 6 (onDoO r m) by rw [HGL.out.2, List.map_append, HOs.out, HMm.out])
                  refine bodyPost_ret (results_box2 Tryz.results39 rfl rfl Tryz.underlying43 (by kernel_rfl) HE9.out) rfl ⟨_, rfl, ?_, HX9.out⟩
                  rw [HGL.out.1]
                  first | exact hT9 | (rw [List.length_append] at hT9; exact hT9)
              · have HQ := Lib.hid (show hearR2 r m 6 (onDoR r m) = r ∧ hearO r m 6 (onDoO r m) = [] from by
                  have hB : ttB r m.view = false := by
                    unfold ttB
                    rw [HtR.out, gl]
                    have h := g7
                    simp at h ⊢
                    exact fun _ h2 => h h2.symm
                  rw [HY.out.1, HY.out.2]
                  unfold onDoR onDoO
                  rw [HdB.out, HdS.out]
                  rw [hB, HtR.out, HtO.out]
                  simp)
                (go_wp2_with (with_reducible refine wl_stop 81 ?_); refine stop_load (E6.out) rfl Tryz.underlying43 (by kernel_rfl) ?_; simp only [Act.put, List.setIfInBounds_toArray, List.set_cons_zero, List.set_cons_succ])
                clear d6 dM z6 zM d1 dM1 z1 zM1
                (go_wp2_with (with_reducible refine wl_stopS 43 ?_); refine stop_store ((w.heap.size + 1 + 1)) (Rp.cs a1 A1 qs.length c1 (r)) rfl rfl (E2.out) (by kernel_rfl) rfl (by simp [Value.oneCell']) ?_)
                intro W9 e9 k9
                have X9 := Lib.hid (chg_new X.out k9 (by omega))
                have HE9 := Lib.hid e9
                have HT9 := Lib.hid (RoT.of (HF.out.boxed E2.out k9) (FS.out.boxed E2.out (by decide) (by decide) (by decide) (by decide) k9) HOs.out)
                clear e9 k9
                go_wp2
                refine bodyPost_ret (results_box2 Tryz.results39 rfl rfl Tryz.underlying43 (by kernel_rfl) HE9.out) rfl ⟨_, rfl, ?_, X9.out⟩
                rw [HQ.out.1, HQ.out.2]
                exact HT9.out
            · have HQ := Lib.hid (show hearR2 r m 6 (onDoR r m) = r ∧ hearO r m 6 (onDoO r m) = [] from by
                have hB : ttB r m.view = false := by
                  unfold ttB
                  rw [HtR.out, gl]
                  have h := g6
                  simp at h ⊢
                  exact fun h2 => absurd h2 h
                rw [HY.out.1, HY.out.2]
                unfold onDoR onDoO
                rw [HdB.out, HdS.out]
                rw [hB, HtR.out, HtO.out]
                simp)
              (go_wp2_with (with_reducible refine wl_stop 81 ?_); refine stop_load (E6.out) rfl Tryz.underlying43 (by kernel_rfl) ?_; simp only [Act.put, List.setIfInBounds_toArray, List.set_cons_zero, List.set_cons_succ])
              clear d6 dM z6 zM d1 dM1 z1 zM1
              (go_wp2_with (with_reducible refine wl_stopS 43 ?_); refine stop_store ((w.heap.size + 1 + 1)) (Rp.cs a1 A1 qs.length c1 (r)) rfl rfl (E2.out) (by kernel_rfl) rfl (by simp [Value.oneCell']) ?_)
              intro W9 e9 k9
              have X9 := Lib.hid (chg_new X.out k9 (by omega))
              have HE9 := Lib.hid e9
              have HT9 := Lib.hid (RoT.of (HF.out.boxed E2.out k9) (FS.out.boxed E2.out (by decide) (by decide) (by decide) (by decide) k9) HOs.out)
              clear e9 k9
              go_wp2
              refine bodyPost_ret (results_box2 Tryz.results39 rfl rfl Tryz.underlying43 (by kernel_rfl) HE9.out) rfl ⟨_, rfl, ?_, X9.out⟩
              rw [HQ.out.1, HQ.out.2]
              exact HT9.out
          · have HtR0 := Lib.hid (show ttR r m.view = beginR r m.view by unfold ttR; rw [gl, g0]; rfl)
            have HtO0 := Lib.hid (show ttO r m.view = beginO r m.view by unfold ttO; rw [gl, g0]; rfl)
            obtain ⟨R1, hR1⟩ : ∃ X, beginR r m.view = X := ⟨_, rfl⟩
            obtain ⟨O1, hO1⟩ : ∃ X, beginO r m.view = X := ⟨_, rfl⟩
            have hcon := c_l7Begin (w.heap.size + 1 + 1 + 1) a1 A1 c1 qs r m.view w4 HF.out HT.out HV.out.1 HV.out.2 (by omega)
            rw [hR1, hO1] at hcon
            have HCon := Lib.hid hcon
            have HtR := Lib.hid (HtR0.out.trans hR1)
            have HtO := Lib.hid (HtO0.out.trans hO1)
            have hO1l : O1.length ≤ 11 := by rw [← hO1]; exact (beginO_small HT.out HV.out.1 HV.out.2).2
            clear hcon hR1 hO1 HtR0 HtO0
            (go_wp2_with (with_reducible refine wl_stop 65 ?_); refine stop_load (E6.out) rfl Tryz.underlying43 (by kernel_rfl) ?_; simp only [Act.put, List.setIfInBounds_toArray, List.set_cons_zero, List.set_cons_succ])
            go_wp2_with fail
            refine HCon.out.mono ?_
            rintro e w6 ⟨⟨a2, A2, c2, q2, Ao, co, os, rfl, f2, fo, mo⟩, x⟩
            obtain ⟨E1, EM, E2, E6, X⟩ : Hid _ ∧ Hid _ ∧ Hid _ ∧ Hid _ ∧ Hid _ := ⟨Lib.hid (x.box E1.out), Lib.hid (x.box EM.out), Lib.hid (x.box E2.out), Lib.hid (x.box E6.out), Lib.hid (Ext.trans X.out x)⟩
            have hz_w6 := x.size
            have HF2 := Lib.hid f2
            have FS2 := Lib.hid (fo.less (B' := w.heap.size + 1 + 1 + 1) (by omega))
            have HOs := Lib.hid mo
            have hos : os.length ≤ 11 := by rw [← List.length_map (f := Prod.snd), mo]; exact hO1l
            clear x f2 fo mo HF FS HCon d1 dM1 z1 zM1
            obtain ⟨HF, FS⟩ : Hid _ ∧ Hid _ := ⟨Lib.hid HF2.out, Lib.hid FS2.out⟩
            clear HF2 FS2
            (go_wp2_with (with_reducible refine wl_stopS 43 ?_); refine stop_store ((w1.heap.size + 1)) (Rp.cs a2 A2 q2.length c2 R1) rfl rfl (E6.out) (by kernel_rfl) rfl (by simp [Value.oneCell']) ?_)
            intro w7 e7 k7
            have hlt_w7 := bx_lt E6.out
            obtain ⟨E1, EM, E2, HF, FS, X⟩ : Hid _ ∧ Hid _ ∧ Hid _ ∧ Hid _ ∧ Hid _ ∧ Hid _ := ⟨Lib.hid (box_chg E1.out k7 (by omega)), Lib.hid (box_chg EM.out k7 (by omega)), Lib.hid (box_chg E2.out k7 (by omega)), Lib.hid (HF.out.boxed E6.out k7), Lib.hid (FS.out.boxed E6.out (by decide) (by decide) (by decide) (by decide) k7), Lib.hid (ext_chg X.out k7 (fun k hk => by rw [List.mem_singleton] at hk; omega))⟩
            have E6 := Lib.hid e7
            have hs_w7 := bx_lt e7
            have hz_w7 := k7.size
            clear e7 k7
            have d6 := bx_cell E6.out
            have dM := bx_cell EM.out
            have z6 := bx_lt E6.out
            have zM := bx_lt EM.out
            cases g6 : (R1.mode != 2)
            · cases g7 : (R1.view != m.view)
              · have HtB := Lib.hid (show ttB r m.view = true by
                  unfold ttB
                  rw [gl, HtR.out]
                  have h1 := g6
                  have h2 := g7
                  simp at h1 h2 ⊢
                  exact ⟨h1, h2.symm⟩)
                have hT1 := ttB_T (fun _ => HT.out) HV.out.1 HV.out.2 HtB.out
                rw [HtR.out] at hT1
                have HT1 := Lib.hid hT1
                have hq20 : q2.length ≤ 20 := by have h1 := hT1.votes; rw [← HF.out.e, List.length_map] at h1; exact h1
                clear hT1
                obtain ⟨f8, hf8⟩ : ∃ f, findV 6 m.frm R1.votes = f := ⟨_, rfl⟩
                have hcon := c_l6Find A2 c2 q2 6 m.frm w7 HF.out.v.1 (by omega)
                rw [HF.out.e, hf8] at hcon
                have HFi := Lib.hid hcon
                have HF8 := Lib.hid hf8
                clear hcon hf8
                have HGo := Lib.hid (show hearR2 r m 6 (onDoR r m) = lookR (heard 6 R1 m (doV2 m)) ∧ hearO r m 6 (onDoO r m) = O1 ++ lookO (heard 6 R1 m (doV2 m)) from by
                  rw [HY.out.1, HY.out.2]
                  unfold onDoR onDoO
                  rw [HdB.out, HdS.out]
                  rw [HtB.out, HtR.out, HtO.out]
                  simp)
                go_wp2_with fail
                refine HFi.out.mono ?_
                rintro e u2 ⟨rfl, x⟩
                obtain ⟨E1, EM, E2, E6, HF, FS, X⟩ : Hid _ ∧ Hid _ ∧ Hid _ ∧ Hid _ ∧ Hid _ ∧ Hid _ ∧ Hid _ := ⟨Lib.hid (x.box E1.out), Lib.hid (x.box EM.out), Lib.hid (x.box E2.out), Lib.hid (x.box E6.out), Lib.hid (HF.out.keep x), Lib.hid (FS.out.keep x), Lib.hid (Ext.trans X.out x)⟩
                have hz_u2 := x.size
                clear x
                clear d6 dM z6 zM HFi
                cases g8 : decide (f8 < 0)
                · have HH := Lib.hid (show heard 6 R1 m (doV2 m) = R1 by unfold heard; rw [HF8.out, g8]; rfl)
                  have HG := Lib.hid (show _ ∧ _ from by have h := HGo.out; rw [HH.out] at h; exact h)
                  have HT2 := Lib.hid HT1.out
                  have HA0 := Lib.hid (fun k (hk : k ∈ blk Ao) => (FS.out.row.inB k hk).2)
                  have E2v := Lib.hid E2.out
                  obtain ⟨RX, hRX⟩ : ∃ X, lookR R1 = X := ⟨_, rfl⟩
                  obtain ⟨OX, hOX⟩ : ∃ X, lookO R1 = X := ⟨_, rfl⟩
                  have hcon := c_l7Look (w.heap.size + 1 + 1 + 1) a2 A2 c2 q2 R1 u2 HF.out HT2.out (by omega)
                  have hOl : OX.length ≤ 6 := by rw [← hOX]; exact lookO_len HT2.out
                  have HGx := HG.out
                  rw [hRX, hOX] at hcon HGx
                  have HGL := Lib.hid HGx
                  have HCon := Lib.hid hcon
                  clear hcon hRX hOX HGx HG
                  (go_wp2_with (with_reducible refine wl_stop 104 ?_); refine stop_load (E6.out) rfl Tryz.underlying43 (by kernel_rfl) ?_; simp only [Act.put, List.setIfInBounds_toArray, List.set_cons_zero, List.set_cons_succ])
                  go_wp2_with fail
                  refine HCon.out.mono ?_
                  rintro e v8 ⟨⟨a9, A9, c9, q9, Am, cm, om, rfl, f9, fm, mm⟩, x⟩
                  obtain ⟨E2, FS, X⟩ : Hid _ ∧ Hid _ ∧ Hid _ := ⟨Lib.hid (x.box E2.out), Lib.hid (FS.out.keep x), Lib.hid (Ext.trans X.out x)⟩
                  have hz_v8 := x.size
                  clear x HCon HF
                  have XA := ext_alloc v8 Rp.zobj
                  have EQ0 := Lib.hid (hNew (w := v8) (o := Rp.zobj) rfl)
                  obtain ⟨E2, FS, X⟩ : Hid _ ∧ Hid _ ∧ Hid _ := ⟨Lib.hid (XA.box E2.out), Lib.hid (FS.out.keep XA), Lib.hid (Ext.trans X.out XA)⟩
                  have HF9 := Lib.hid (f9.keep XA)
                  have HM := Lib.hid (fm.keep XA)
                  have HMm := Lib.hid mm
                  have hml : om.length ≤ 6 := by rw [← List.length_map (f := Prod.snd), mm]; exact hOl
                  have hzA : (v8.alloc Rp.zobj).heap.size = v8.heap.size + 1 := by simp
                  clear XA f9 fm mm
                  have hv7 := bx_lt E2v.out
                  (go_wp2_with (with_reducible refine wl_stopS 43 ?_); refine stop_store (v8.heap.size) (Rp.cs a9 A9 q9.length c9 RX) rfl rfl (EQ0.out) (by kernel_rfl) rfl (by simp [Value.oneCell']) ?_)
                  intro W8 e8 k8
                  have hlt_W8 := bx_lt EQ0.out
                  obtain ⟨E2, FS, X, HF9, HM⟩ : Hid _ ∧ Hid _ ∧ Hid _ ∧ Hid _ ∧ Hid _ := ⟨Lib.hid (box_chg E2.out k8 (by omega)), Lib.hid (FS.out.boxed EQ0.out (by decide) (by decide) (by decide) (by decide) k8), Lib.hid (ext_chg X.out k8 (fun k hk => by rw [List.mem_singleton] at hk; omega)), Lib.hid (HF9.out.boxed EQ0.out k8), Lib.hid (HM.out.boxed EQ0.out (by decide) (by decide) (by decide) (by decide) k8)⟩
                  have EQ := Lib.hid e8
                  have hs_W8 := bx_lt e8
                  have hz_W8 := k8.size
                  clear e8 k8 E1 E6 EQ0
                  go_wp2
                  obtain ⟨g, obj1, hg1, hg2, hp8, hg8, hrun⟩ := outs_plan (.cells (Rp.cs a9 A9 q9.length c9 RX) 43) FS.out HM.out E2.out hv7 HA0.out (by first | omega | (simp; omega)) (by omega)
                  have HOth := Lib.hid (outs_oth FS.out E2.out hg2)
                  have HQ := Lib.hid (relM_box (hp := hp8) (hg := hg8) (obj := (.cells (Rp.cs a9 A9 q9.length c9 RX) 43)) (obj1 := obj1) EQ.out (by omega) (outs_apart FS.out EQ.out (by omega) hg2))
                  have HQw := Lib.hid (fun W' (h : (relM (w.heap.size + 1 + 1) g (.cells (Rp.cs a9 A9 q9.length c9 RX) 43) obj1 W8.heap.size hp8 hg8).rel W8 W') => cells_mid (cs := Rp.cs a9 A9 q9.length c9 RX) (HQ.out W' h) [] [] rfl rfl)
                  have HRun := Lib.hid hrun
                  have HG1 := Lib.hid hg1
                  have HG2 := Lib.hid hg2
                  clear hrun hg1 hg2
                  (refine Rm.wp_region_mix' (R := relM (w.heap.size + 1 + 1) g (.cells (Rp.cs a9 A9 q9.length c9 RX) 43) obj1 W8.heap.size hp8 hg8) (joinΦ (w.heap.size + 1 + 1) (.cells (Rp.cs a9 A9 q9.length c9 RX) 43) g obj1 W8.heap.size (w.heap.size + 1 + 1 + 1) (os ++ om)) (fun _ _ _ _ _ hq => hq) 6 (by first | exact Nat.le_refl _ | omega | (simp; omega)) (by kernel_rfl) (by kernel_rfl) ?_; simp only [List.take_succ_cons, List.take_zero, List.drop_succ_cons, List.drop_zero])
                  (refine Rm.wpMix_loadAgg (HQw.out) rfl rfl rfl Tryz.underlying43 (by kernel_rfl) ?_; simp only [Act.put, List.setIfInBounds_toArray, List.set_cons_zero, List.set_cons_succ])
                  (iterate 2 (refine Rm.wpMix_plain rfl rfl ?_; go_big_quiet_step (fail); refine wpQuiet_nil ?_))
                  refine rm_own (enc := OtE.enc) _ _ 55 100 18 (w.heap.size + 1 + 1 + 1) rfl rfl Ao _ co os rfl rfl Am _ cm om rfl rfl (fun W hW => HRun.out W hW) rfl (fun A5 c5 => ?_)
                  simp only [Act.put, List.setIfInBounds_toArray, List.set_cons_zero, List.set_cons_succ]
                  refine wpMix_stM HG1.out E2.out rfl rfl rfl rfl rfl (by kernel_rfl) rfl (by simp [Value.oneCell']) rfl ?_
                  simp only [Act.put, List.setIfInBounds_toArray, List.set_cons_zero, List.set_cons_succ]
                  (iterate 1 (refine Rm.wpMix_plain rfl rfl ?_; go_big_quiet_step (fail); refine wpQuiet_nil ?_))
                  refine Rm.wpMix_nil ?_
                  rintro W9 ⟨⟨h9, hv9⟩, e9⟩
                  have HE9 := Lib.hid e9
                  have HOS9 := Lib.hid (outs_join FS.out HM.out (by omega) HOth.out h9 hv9)
                  have HF9 := Lib.hid (HF9.out.other h9.1 HOth.out)
                  have HX9 := Lib.hid (ext_chg X.out h9.1 (fun k hk => by
                    have hgg := HG2.out
                    simp only [List.mem_cons, List.not_mem_nil, or_false] at hk
                    rcases hk with rfl | rfl
                    · omega
                    · rcases hgg with h | h <;> omega))
                  clear h9 hv9 e9
                  go_wp2
                  have hT9 := RoT.of HF9.out HOS9.out (show List.map Prod.snd (os ++ om) = hearO r m 6 (onDoO r m) by rw [HGL.out.2, List.map_append, HOs.out, HMm.out])
                  refine bodyPost_ret (results_box2 Tryz.results39 rfl rfl Tryz.underlying43 (by kernel_rfl) HE9.out) rfl ⟨_, rfl, ?_, HX9.out⟩
                  rw [HGL.out.1]
                  first | exact hT9 | (rw [List.length_append] at hT9; exact hT9)
                · obtain ⟨R2, hR2⟩ : ∃ X, R1.voted (doV2 m) = X := ⟨_, rfl⟩
                  have HR2 := Lib.hid hR2
                  clear hR2
                  have HH := Lib.hid (show heard 6 R1 m (doV2 m) = R2 by unfold heard; rw [HF8.out, g8]; exact HR2.out)
                  have HG := Lib.hid (show _ ∧ _ from by have h := HGo.out; rw [HH.out] at h; exact h)
                  have hT2 := heard_T (kind := 6) (m := m) (v := doV2 m) HT1.out HLg.out
                  rw [HH.out] at hT2
                  have HT2 := Lib.hid hT2
                  clear hT2
                  have HVt := Lib.hid (show ∀ W (av : LAd), Ext u2 W → LgF W (w.heap.size + 1 + 1 + 1) av m.log → Calls Tryz.prog 96 #[Rp.val a2 A2 q2.length c2 R1, VtE.val av (doV2 m)] W fun e w' => ∃ v, e = .returned v ∧ RvV (w.heap.size + 1 + 1 + 1) a2 R2 v w' ∧ Ext W w' from fun W av h hl => by
                    have h5 := c_l6Vote (w.heap.size + 1 + 1 + 1) a2 A2 c2 q2 R1 av (doV2 m) W (HF.out.keep h) hl (by have := h.size; omega) HT1.out.votes
                    rw [HR2.out] at h5
                    exact h5.mono fun e w' ⟨⟨A7, c7, q7, he, hf⟩, hx⟩ => ⟨_, he, ⟨A7, c7, q7, rfl, hf⟩, hx⟩)
                  go_wp2
                  have HW1 := Lib.hid (fun W' (h : (relE u2.heap.size).rel u2 W') => rp_whole E6.out h)
                  (refine Rm.wp_region_mix' (R := relE u2.heap.size) (fun _ _ _ => True) (fun _ _ _ _ _ hq => hq) 14 (by first | exact Nat.le_refl _ | omega | (simp; omega)) (by kernel_rfl) (by kernel_rfl) ?_; simp only [List.take_succ_cons, List.take_zero, List.drop_succ_cons, List.drop_zero])
                  (refine Rm.wpMix_loadAgg (HW1.out) rfl rfl rfl Tryz.underlying43 (by kernel_rfl) ?_; simp only [Act.put, List.setIfInBounds_toArray, List.set_cons_zero, List.set_cons_succ])
                  ((iterate 1 (refine Rm.wpMix_plain rfl rfl ?_; go_big_quiet_step (fail); refine wpQuiet_nil ?_)); (refine Rm.wpMix_load1 (fun W9' h9 => show W9'.cell? _ = some (.int .i64 m.frm) from bx_cell (Ext.box h9 EM.out) 1) rfl rfl rfl Tryz.underlying3 rfl ?_; simp only [Act.put, List.setIfInBounds_toArray, List.set_cons_zero, List.set_cons_succ]); (iterate 1 (refine Rm.wpMix_plain rfl rfl ?_; go_big_quiet_step (fail); refine wpQuiet_nil ?_)); (refine Rm.wpMix_load1 (fun W9' h9 => show W9'.cell? _ = some (.int .i64 m.view) from bx_cell (Ext.box h9 EM.out) 2) rfl rfl rfl Tryz.underlying3 rfl ?_; simp only [Act.put, List.setIfInBounds_toArray, List.set_cons_zero, List.set_cons_succ]); (iterate 1 (refine Rm.wpMix_plain rfl rfl ?_; go_big_quiet_step (fail); refine wpQuiet_nil ?_)); (refine Rm.wpMix_load1 (fun W9' h9 => show W9'.cell? _ = some (.int .i64 m.normal) from bx_cell (Ext.box h9 EM.out) 5) rfl rfl rfl Tryz.underlying3 rfl ?_; simp only [Act.put, List.setIfInBounds_toArray, List.set_cons_zero, List.set_cons_succ]); (iterate 1 (refine Rm.wpMix_plain rfl rfl ?_; go_big_quiet_step (fail); refine wpQuiet_nil ?_)); (refine Rm.wpMix_load1 (fun W9' h9 => show W9'.cell? _ = some (.int .i64 m.commit) from bx_cell (Ext.box h9 EM.out) 4) rfl rfl rfl Tryz.underlying3 rfl ?_; simp only [Act.put, List.setIfInBounds_toArray, List.set_cons_zero, List.set_cons_succ]); (iterate 1 (refine Rm.wpMix_plain rfl rfl ?_; go_big_quiet_step (fail); refine wpQuiet_nil ?_)))
                  (refine Rm.wpMix_loadAgg (fun W9' h9 => mg_log2 EM.out h9) rfl rfl rfl Tryz.underlying40 (by kernel_rfl) ?_; simp only [Act.put, List.setIfInBounds_toArray, List.set_cons_zero, List.set_cons_succ])
                  refine Rm.wpMix_call (LgV9 (w.heap.size + 1 + 1 + 1) m.log) rfl rfl rfl (enters Tryz.func103 (by kernel_rfl) rfl) (LgV9.mono _ _ _) (fun W' hW' => (c_l3Copy am m.log HMs.out W' (HMl.out.keep (Ext.trans X.out hW'))).mono fun e w' ⟨a4, he, hf, hx⟩ => ⟨_, he, ⟨a4, rfl, hf.less (by have := (show Ext _ _ from hW').size; omega)⟩, hx⟩) rfl (fun v6 hv6 => ?_)
                  obtain ⟨_, _, a6, rfl, _⟩ := hv6
                  simp only [Act.put, List.setIfInBounds_toArray, List.set_cons_zero, List.set_cons_succ]
                  (iterate 1 (refine Rm.wpMix_plain rfl rfl ?_; go_big_quiet_step (fail); refine wpQuiet_nil ?_))
                  refine Rm.wpMix_call (RvV (w.heap.size + 1 + 1 + 1) a2 R2) rfl rfl rfl (enters Tryz.func96 (by kernel_rfl) rfl) (RvV.mono _ _ _ _) (fun W' hW' => HVt.out W' a6 hW'.1 hW'.2.inv) rfl (fun v7 hv7 => ?_)
                  obtain ⟨_, _, A4, c4, q4_, rfl, _⟩ := hv7
                  simp only [Act.put, List.setIfInBounds_toArray, List.set_cons_zero, List.set_cons_succ]
                  refine Rm.wpMix_nil ?_
                  rintro u3 ⟨⟨hW, _⟩, hv5⟩
                  have x : Ext u2 u3 := hW
                  obtain ⟨q4, hq4, hf4⟩ := hv5.inv
                  rw [hq4]
                  have HF2 := Lib.hid hf4
                  clear hv5 hf4 hq4
                  obtain ⟨E1, EM, E2, E6, FS, X⟩ : Hid _ ∧ Hid _ ∧ Hid _ ∧ Hid _ ∧ Hid _ ∧ Hid _ := ⟨Lib.hid (x.box E1.out), Lib.hid (x.box EM.out), Lib.hid (x.box E2.out), Lib.hid (x.box E6.out), Lib.hid (FS.out.keep x), Lib.hid (Ext.trans X.out x)⟩
                  have hz_u3 := x.size
                  clear x hW HF HVt HW1
                  (go_wp2_with (with_reducible refine wl_stopS 43 ?_); refine stop_store ((w1.heap.size + 1)) (Rp.cs a2 A4 q4.length c4 R2) rfl rfl (E6.out) (by kernel_rfl) rfl (by simp [Value.oneCell']) ?_)
                  intro u4 e4 k4
                  have hlt_u4 := bx_lt E6.out
                  obtain ⟨E1, EM, E2, FS, X, HF2⟩ : Hid _ ∧ Hid _ ∧ Hid _ ∧ Hid _ ∧ Hid _ ∧ Hid _ := ⟨Lib.hid (box_chg E1.out k4 (by omega)), Lib.hid (box_chg EM.out k4 (by omega)), Lib.hid (box_chg E2.out k4 (by omega)), Lib.hid (FS.out.boxed E6.out (by decide) (by decide) (by decide) (by decide) k4), Lib.hid (ext_chg X.out k4 (fun k hk => by rw [List.mem_singleton] at hk; omega)), Lib.hid (HF2.out.boxed E6.out k4)⟩
                  have E6 := Lib.hid e4
                  have hs_u4 := bx_lt e4
                  have hz_u4 := k4.size
                  clear e4 k4
                  have HF := Lib.hid HF2.out
                  clear HF2
                  have HA0 := Lib.hid (fun k (hk : k ∈ blk Ao) => (FS.out.row.inB k hk).2)
                  have E2v := Lib.hid E2.out
                  obtain ⟨RX, hRX⟩ : ∃ X, lookR R2 = X := ⟨_, rfl⟩
                  obtain ⟨OX, hOX⟩ : ∃ X, lookO R2 = X := ⟨_, rfl⟩
                  have hcon := c_l7Look (w.heap.size + 1 + 1 + 1) a2 A4 c4 q4 R2 u4 HF.out HT2.out (by omega)
                  have hOl : OX.length ≤ 6 := by rw [← hOX]; exact lookO_len HT2.out
                  have HGx := HG.out
                  rw [hRX, hOX] at hcon HGx
                  have HGL := Lib.hid HGx
                  have HCon := Lib.hid hcon
                  clear hcon hRX hOX HGx HG
                  (go_wp2_with (with_reducible refine wl_stop 104 ?_); refine stop_load (E6.out) rfl Tryz.underlying43 (by kernel_rfl) ?_; simp only [Act.put, List.setIfInBounds_toArray, List.set_cons_zero, List.set_cons_succ])
                  go_wp2_with fail
                  refine HCon.out.mono ?_
                  rintro e v8 ⟨⟨a9, A9, c9, q9, Am, cm, om, rfl, f9, fm, mm⟩, x⟩
                  obtain ⟨E2, FS, X⟩ : Hid _ ∧ Hid _ ∧ Hid _ := ⟨Lib.hid (x.box E2.out), Lib.hid (FS.out.keep x), Lib.hid (Ext.trans X.out x)⟩
                  have hz_v8 := x.size
                  clear x HCon HF
                  have XA := ext_alloc v8 Rp.zobj
                  have EQ0 := Lib.hid (hNew (w := v8) (o := Rp.zobj) rfl)
                  obtain ⟨E2, FS, X⟩ : Hid _ ∧ Hid _ ∧ Hid _ := ⟨Lib.hid (XA.box E2.out), Lib.hid (FS.out.keep XA), Lib.hid (Ext.trans X.out XA)⟩
                  have HF9 := Lib.hid (f9.keep XA)
                  have HM := Lib.hid (fm.keep XA)
                  have HMm := Lib.hid mm
                  have hml : om.length ≤ 6 := by rw [← List.length_map (f := Prod.snd), mm]; exact hOl
                  have hzA : (v8.alloc Rp.zobj).heap.size = v8.heap.size + 1 := by simp
                  clear XA f9 fm mm
                  have hv7 := bx_lt E2v.out
                  (go_wp2_with (with_reducible refine wl_stopS 43 ?_); refine stop_store (v8.heap.size) (Rp.cs a9 A9 q9.length c9 RX) rfl rfl (EQ0.out) (by kernel_rfl) rfl (by simp [Value.oneCell']) ?_)
                  intro W8 e8 k8
                  have hlt_W8 := bx_lt EQ0.out
                  obtain ⟨E2, FS, X, HF9, HM⟩ : Hid _ ∧ Hid _ ∧ Hid _ ∧ Hid _ ∧ Hid _ := ⟨Lib.hid (box_chg E2.out k8 (by omega)), Lib.hid (FS.out.boxed EQ0.out (by decide) (by decide) (by decide) (by decide) k8), Lib.hid (ext_chg X.out k8 (fun k hk => by rw [List.mem_singleton] at hk; omega)), Lib.hid (HF9.out.boxed EQ0.out k8), Lib.hid (HM.out.boxed EQ0.out (by decide) (by decide) (by decide) (by decide) k8)⟩
                  have EQ := Lib.hid e8
                  have hs_W8 := bx_lt e8
                  have hz_W8 := k8.size
                  clear e8 k8 E1 E6 EQ0
                  go_wp2
                  obtain ⟨g, obj1, hg1, hg2, hp8, hg8, hrun⟩ := outs_plan (.cells (Rp.cs a9 A9 q9.length c9 RX) 43) FS.out HM.out E2.out hv7 HA0.out (by first | omega | (simp; omega)) (by omega)
                  have HOth := Lib.hid (outs_oth FS.out E2.out hg2)
                  have HQ := Lib.hid (relM_box (hp := hp8) (hg := hg8) (obj := (.cells (Rp.cs a9 A9 q9.length c9 RX) 43)) (obj1 := obj1) EQ.out (by omega) (outs_apart FS.out EQ.out (by omega) hg2))
                  have HQw := Lib.hid (fun W' (h : (relM (w.heap.size + 1 + 1) g (.cells (Rp.cs a9 A9 q9.length c9 RX) 43) obj1 W8.heap.size hp8 hg8).rel W8 W') => cells_mid (cs := Rp.cs a9 A9 q9.length c9 RX) (HQ.out W' h) [] [] rfl rfl)
                  have HRun := Lib.hid hrun
                  have HG1 := Lib.hid hg1
                  have HG2 := Lib.hid hg2
                  clear hrun hg1 hg2
                  (refine Rm.wp_region_mix' (R := relM (w.heap.size + 1 + 1) g (.cells (Rp.cs a9 A9 q9.length c9 RX) 43) obj1 W8.heap.size hp8 hg8) (joinΦ (w.heap.size + 1 + 1) (.cells (Rp.cs a9 A9 q9.length c9 RX) 43) g obj1 W8.heap.size (w.heap.size + 1 + 1 + 1) (os ++ om)) (fun _ _ _ _ _ hq => hq) 6 (by first | exact Nat.le_refl _ | omega | (simp; omega)) (by kernel_rfl) (by kernel_rfl) ?_; simp only [List.take_succ_cons, List.take_zero, List.drop_succ_cons, List.drop_zero])
                  (refine Rm.wpMix_loadAgg (HQw.out) rfl rfl rfl Tryz.underlying43 (by kernel_rfl) ?_; simp only [Act.put, List.setIfInBounds_toArray, List.set_cons_zero, List.set_cons_succ])
                  (iterate 2 (refine Rm.wpMix_plain rfl rfl ?_; go_big_quiet_step (fail); refine wpQuiet_nil ?_))
                  refine rm_own (enc := OtE.enc) _ _ 55 100 18 (w.heap.size + 1 + 1 + 1) rfl rfl Ao _ co os rfl rfl Am _ cm om rfl rfl (fun W hW => HRun.out W hW) rfl (fun A5 c5 => ?_)
                  simp only [Act.put, List.setIfInBounds_toArray, List.set_cons_zero, List.set_cons_succ]
                  refine wpMix_stM HG1.out E2.out rfl rfl rfl rfl rfl (by kernel_rfl) rfl (by simp [Value.oneCell']) rfl ?_
                  simp only [Act.put, List.setIfInBounds_toArray, List.set_cons_zero, List.set_cons_succ]
                  (iterate 1 (refine Rm.wpMix_plain rfl rfl ?_; go_big_quiet_step (fail); refine wpQuiet_nil ?_))
                  refine Rm.wpMix_nil ?_
                  rintro W9 ⟨⟨h9, hv9⟩, e9⟩
                  have HE9 := Lib.hid e9
                  have HOS9 := Lib.hid (outs_join FS.out HM.out (by omega) HOth.out h9 hv9)
                  have HF9 := Lib.hid (HF9.out.other h9.1 HOth.out)
                  have HX9 := Lib.hid (ext_chg X.out h9.1 (fun k hk => by
                    have hgg := HG2.out
                    simp only [List.mem_cons, List.not_mem_nil, or_false] at hk
                    rcases hk with rfl | rfl
                    · omega
                    · rcases hgg with h | h <;> omega))
                  clear h9 hv9 e9
                  go_wp2
                  have hT9 := RoT.of HF9.out HOS9.out (show List.map Prod.snd (os ++ om) = hearO r m 6 (onDoO r m) by rw [HGL.out.2, List.map_append, HOs.out, HMm.out])
                  refine bodyPost_ret (results_box2 Tryz.results39 rfl rfl Tryz.underlying43 (by kernel_rfl) HE9.out) rfl ⟨_, rfl, ?_, HX9.out⟩
                  rw [HGL.out.1]
                  first | exact hT9 | (rw [List.length_append] at hT9; exact hT9)
              · have HQ := Lib.hid (show hearR2 r m 6 (onDoR r m) = R1 ∧ hearO r m 6 (onDoO r m) = O1 from by
                  have hB : ttB r m.view = false := by
                    unfold ttB
                    rw [HtR.out, gl]
                    have h := g7
                    simp at h ⊢
                    exact fun _ h2 => h h2.symm
                  rw [HY.out.1, HY.out.2]
                  unfold onDoR onDoO
                  rw [HdB.out, HdS.out]
                  rw [hB, HtR.out, HtO.out]
                  simp)
                (go_wp2_with (with_reducible refine wl_stop 81 ?_); refine stop_load (E6.out) rfl Tryz.underlying43 (by kernel_rfl) ?_; simp only [Act.put, List.setIfInBounds_toArray, List.set_cons_zero, List.set_cons_succ])
                clear d6 dM z6 zM
                (go_wp2_with (with_reducible refine wl_stopS 43 ?_); refine stop_store ((w.heap.size + 1 + 1)) (Rp.cs a2 A2 q2.length c2 (R1)) rfl rfl (E2.out) (by kernel_rfl) rfl (by simp [Value.oneCell']) ?_)
                intro W9 e9 k9
                have X9 := Lib.hid (chg_new X.out k9 (by omega))
                have HE9 := Lib.hid e9
                have HT9 := Lib.hid (RoT.of (HF.out.boxed E2.out k9) (FS.out.boxed E2.out (by decide) (by decide) (by decide) (by decide) k9) HOs.out)
                clear e9 k9
                go_wp2
                refine bodyPost_ret (results_box2 Tryz.results39 rfl rfl Tryz.underlying43 (by kernel_rfl) HE9.out) rfl ⟨_, rfl, ?_, X9.out⟩
                rw [HQ.out.1, HQ.out.2]
                exact HT9.out
            · have HQ := Lib.hid (show hearR2 r m 6 (onDoR r m) = R1 ∧ hearO r m 6 (onDoO r m) = O1 from by
                have hB : ttB r m.view = false := by
                  unfold ttB
                  rw [HtR.out, gl]
                  have h := g6
                  simp at h ⊢
                  exact fun h2 => absurd h2 h
                rw [HY.out.1, HY.out.2]
                unfold onDoR onDoO
                rw [HdB.out, HdS.out]
                rw [hB, HtR.out, HtO.out]
                simp)
              (go_wp2_with (with_reducible refine wl_stop 81 ?_); refine stop_load (E6.out) rfl Tryz.underlying43 (by kernel_rfl) ?_; simp only [Act.put, List.setIfInBounds_toArray, List.set_cons_zero, List.set_cons_succ])
              clear d6 dM z6 zM
              (go_wp2_with (with_reducible refine wl_stopS 43 ?_); refine stop_store ((w.heap.size + 1 + 1)) (Rp.cs a2 A2 q2.length c2 (R1)) rfl rfl (E2.out) (by kernel_rfl) rfl (by simp [Value.oneCell']) ?_)
              intro W9 e9 k9
              have X9 := Lib.hid (chg_new X.out k9 (by omega))
              have HE9 := Lib.hid e9
              have HT9 := Lib.hid (RoT.of (HF.out.boxed E2.out k9) (FS.out.boxed E2.out (by decide) (by decide) (by decide) (by decide) k9) HOs.out)
              clear e9 k9
              go_wp2
              refine bodyPost_ret (results_box2 Tryz.results39 rfl rfl Tryz.underlying43 (by kernel_rfl) HE9.out) rfl ⟨_, rfl, ?_, X9.out⟩
              rw [HQ.out.1, HQ.out.2]
              exact HT9.out
        · cases h2 : (r.view == m.view)
          · have HdS := Lib.hid (show doS r m = false by unfold doS; rw [h1, h2]; rfl)
            cases g0 : decide (r.view < m.view)
            · have HtR := Lib.hid (show ttR r m.view = r by unfold ttR; rw [gl, g0]; rfl)
              have HtO := Lib.hid (show ttO r m.view = [] by unfold ttO; rw [gl, g0]; rfl)
              have HOs := Lib.hid (show List.map Prod.snd ([] : List OtE) = [] from rfl)
              have d6 := bx_cell E6.out
              have dM := bx_cell EM.out
              have z6 := bx_lt E6.out
              have zM := bx_lt EM.out
              cases g6 : (r.mode != 2)
              · cases g7 : (r.view != m.view)
                · have HtB := Lib.hid (show ttB r m.view = true by
                    unfold ttB
                    rw [gl, HtR.out]
                    have h1 := g6
                    have h2 := g7
                    simp at h1 h2 ⊢
                    exact ⟨h1, h2.symm⟩)
                  have hT1 := ttB_T (fun _ => HT.out) HV.out.1 HV.out.2 HtB.out
                  rw [HtR.out] at hT1
                  have HT1 := Lib.hid hT1
                  have hq20 : qs.length ≤ 20 := by have h1 := hT1.votes; rw [← HF.out.e, List.length_map] at h1; exact h1
                  clear hT1
                  obtain ⟨f8, hf8⟩ : ∃ f, findV 6 m.frm r.votes = f := ⟨_, rfl⟩
                  have hcon := c_l6Find A1 c1 qs 6 m.frm w4 HF.out.v.1 (by omega)
                  rw [HF.out.e, hf8] at hcon
                  have HFi := Lib.hid hcon
                  have HF8 := Lib.hid hf8
                  clear hcon hf8
                  have HGo := Lib.hid (show hearR2 r m 6 (onDoR r m) = lookR (heard 6 r m (doV2 m)) ∧ hearO r m 6 (onDoO r m) = [] ++ lookO (heard 6 r m (doV2 m)) from by
                    rw [HY.out.1, HY.out.2]
                    unfold onDoR onDoO
                    rw [HdB.out, HdS.out]
                    rw [HtB.out, HtR.out, HtO.out]
                    simp)
                  go_wp2_with fail
                  refine HFi.out.mono ?_
                  rintro e u2 ⟨rfl, x⟩
                  obtain ⟨E1, EM, E2, E6, HF, FS, X⟩ : Hid _ ∧ Hid _ ∧ Hid _ ∧ Hid _ ∧ Hid _ ∧ Hid _ ∧ Hid _ := ⟨Lib.hid (x.box E1.out), Lib.hid (x.box EM.out), Lib.hid (x.box E2.out), Lib.hid (x.box E6.out), Lib.hid (HF.out.keep x), Lib.hid (FS.out.keep x), Lib.hid (Ext.trans X.out x)⟩
                  have hz_u2 := x.size
                  clear x
                  clear d6 dM z6 zM HFi d1 dM1 z1 zM1
                  cases g8 : decide (f8 < 0)
                  · have HH := Lib.hid (show heard 6 r m (doV2 m) = r by unfold heard; rw [HF8.out, g8]; rfl)
                    have HG := Lib.hid (show _ ∧ _ from by have h := HGo.out; rw [HH.out] at h; exact h)
                    have HT2 := Lib.hid HT1.out
                    have HA0 := Lib.hid (fun k (hk : k ∈ blk (some ⟨w1.heap.size, 0, none⟩)) => (FS.out.row.inB k hk).2)
                    have E2v := Lib.hid E2.out
                    obtain ⟨RX, hRX⟩ : ∃ X, lookR r = X := ⟨_, rfl⟩
                    obtain ⟨OX, hOX⟩ : ∃ X, lookO r = X := ⟨_, rfl⟩
                    have hcon := c_l7Look (w.heap.size + 1 + 1 + 1) a1 A1 c1 qs r u2 HF.out HT2.out (by omega)
                    have hOl : OX.length ≤ 6 := by rw [← hOX]; exact lookO_len HT2.out
                    have HGx := HG.out
                    rw [hRX, hOX] at hcon HGx
                    have HGL := Lib.hid HGx
                    have HCon := Lib.hid hcon
                    clear hcon hRX hOX HGx HG
                    (go_wp2_with (with_reducible refine wl_stop 104 ?_); refine stop_load (E6.out) rfl Tryz.underlying43 (by kernel_rfl) ?_; simp only [Act.put, List.setIfInBounds_toArray, List.set_cons_zero, List.set_cons_succ])
                    go_wp2_with fail
                    refine HCon.out.mono ?_
                    rintro e v8 ⟨⟨a9, A9, c9, q9, Am, cm, om, rfl, f9, fm, mm⟩, x⟩
                    obtain ⟨E2, FS, X⟩ : Hid _ ∧ Hid _ ∧ Hid _ := ⟨Lib.hid (x.box E2.out), Lib.hid (FS.out.keep x), Lib.hid (Ext.trans X.out x)⟩
                    have hz_v8 := x.size
                    clear x HCon HF
                    have XA := ext_alloc v8 Rp.zobj
                    have EQ0 := Lib.hid (hNew (w := v8) (o := Rp.zobj) rfl)
                    obtain ⟨E2, FS, X⟩ : Hid _ ∧ Hid _ ∧ Hid _ := ⟨Lib.hid (XA.box E2.out), Lib.hid (FS.out.keep XA), Lib.hid (Ext.trans X.out XA)⟩
                    have HF9 := Lib.hid (f9.keep XA)
                    have HM := Lib.hid (fm.keep XA)
                    have HMm := Lib.hid mm
                    have hml : om.length ≤ 6 := by rw [← List.length_map (f := Prod.snd), mm]; exact hOl
                    have hzA : (v8.alloc Rp.zobj).heap.size = v8.heap.size + 1 := by simp
                    clear XA f9 fm mm
                    have hv7 := bx_lt E2v.out
                    (go_wp2_with (with_reducible refine wl_stopS 43 ?_); refine stop_store (v8.heap.size) (Rp.cs a9 A9 q9.length c9 RX) rfl rfl (EQ0.out) (by kernel_rfl) rfl (by simp [Value.oneCell']) ?_)
                    intro W8 e8 k8
                    have hlt_W8 := bx_lt EQ0.out
                    obtain ⟨E2, FS, X, HF9, HM⟩ : Hid _ ∧ Hid _ ∧ Hid _ ∧ Hid _ ∧ Hid _ := ⟨Lib.hid (box_chg E2.out k8 (by omega)), Lib.hid (FS.out.boxed EQ0.out (by decide) (by decide) (by decide) (by decide) k8), Lib.hid (ext_chg X.out k8 (fun k hk => by rw [List.mem_singleton] at hk; omega)), Lib.hid (HF9.out.boxed EQ0.out k8), Lib.hid (HM.out.boxed EQ0.out (by decide) (by decide) (by decide) (by decide) k8)⟩
                    have EQ := Lib.hid e8
                    have hs_W8 := bx_lt e8
                    have hz_W8 := k8.size
                    clear e8 k8 E1 E6 EQ0
                    go_wp2
                    obtain ⟨g, obj1, hg1, hg2, hp8, hg8, hrun⟩ := outs_plan (.cells (Rp.cs a9 A9 q9.length c9 RX) 43) FS.out HM.out E2.out hv7 HA0.out (by first | omega | (simp; omega)) (by omega)
                    have HOth := Lib.hid (outs_oth FS.out E2.out hg2)
                    have HQ := Lib.hid (relM_box (hp := hp8) (hg := hg8) (obj := (.cells (Rp.cs a9 A9 q9.length c9 RX) 43)) (obj1 := obj1) EQ.out (by omega) (outs_apart FS.out EQ.out (by omega) hg2))
                    have HQw := Lib.hid (fun W' (h : (relM (w.heap.size + 1 + 1) g (.cells (Rp.cs a9 A9 q9.length c9 RX) 43) obj1 W8.heap.size hp8 hg8).rel W8 W') => cells_mid (cs := Rp.cs a9 A9 q9.length c9 RX) (HQ.out W' h) [] [] rfl rfl)
                    have HRun := Lib.hid hrun
                    have HG1 := Lib.hid hg1
                    have HG2 := Lib.hid hg2
                    clear hrun hg1 hg2
                    (refine Rm.wp_region_mix' (R := relM (w.heap.size + 1 + 1) g (.cells (Rp.cs a9 A9 q9.length c9 RX) 43) obj1 W8.heap.size hp8 hg8) (joinΦ (w.heap.size + 1 + 1) (.cells (Rp.cs a9 A9 q9.length c9 RX) 43) g obj1 W8.heap.size (w.heap.size + 1 + 1 + 1) (([] : List OtE) ++ om)) (fun _ _ _ _ _ hq => hq) 6 (by first | exact Nat.le_refl _ | omega | (simp; omega)) (by kernel_rfl) (by kernel_rfl) ?_; simp only [List.take_succ_cons, List.take_zero, List.drop_succ_cons, List.drop_zero])
                    (refine Rm.wpMix_loadAgg (HQw.out) rfl rfl rfl Tryz.underlying43 (by kernel_rfl) ?_; simp only [Act.put, List.setIfInBounds_toArray, List.set_cons_zero, List.set_cons_succ])
                    (iterate 2 (refine Rm.wpMix_plain rfl rfl ?_; go_big_quiet_step (fail); refine wpQuiet_nil ?_))
                    refine rm_own (enc := OtE.enc) _ _ 55 100 18 (w.heap.size + 1 + 1 + 1) rfl rfl (some ⟨w1.heap.size, 0, none⟩) _ 0 ([] : List OtE) rfl rfl Am _ cm om rfl rfl (fun W hW => HRun.out W hW) rfl (fun A5 c5 => ?_)
                    simp only [Act.put, List.setIfInBounds_toArray, List.set_cons_zero, List.set_cons_succ]
                    refine wpMix_stM HG1.out E2.out rfl rfl rfl rfl rfl (by kernel_rfl) rfl (by simp [Value.oneCell']) rfl ?_
                    simp only [Act.put, List.setIfInBounds_toArray, List.set_cons_zero, List.set_cons_succ]
                    (iterate 1 (refine Rm.wpMix_plain rfl rfl ?_; go_big_quiet_step (fail); refine wpQuiet_nil ?_))
                    refine Rm.wpMix_nil ?_
                    rintro W9 ⟨⟨h9, hv9⟩, e9⟩
                    have HE9 := Lib.hid e9
                    have HOS9 := Lib.hid (outs_join FS.out HM.out (by omega) HOth.out h9 hv9)
                    have HF9 := Lib.hid (HF9.out.other h9.1 HOth.out)
                    have HX9 := Lib.hid (ext_chg X.out h9.1 (fun k hk => by
                      have hgg := HG2.out
                      simp only [List.mem_cons, List.not_mem_nil, or_false] at hk
                      rcases hk with rfl | rfl
                      · omega
                      · rcases hgg with h | h <;> omega))
                    clear h9 hv9 e9
                    go_wp2
                    have hT9 := RoT.of HF9.out HOS9.out (show List.map Prod.snd (([] : List OtE) ++ om) = hearO r m 6 (onDoO r m) by rw [HGL.out.2, List.map_append, HOs.out, HMm.out])
                    refine bodyPost_ret (results_box2 Tryz.results39 rfl rfl Tryz.underlying43 (by kernel_rfl) HE9.out) rfl ⟨_, rfl, ?_, HX9.out⟩
                    rw [HGL.out.1]
                    first | exact hT9 | (rw [List.length_append] at hT9; exact hT9)
                  · obtain ⟨R2, hR2⟩ : ∃ X, r.voted (doV2 m) = X := ⟨_, rfl⟩
                    have HR2 := Lib.hid hR2
                    clear hR2
                    have HH := Lib.hid (show heard 6 r m (doV2 m) = R2 by unfold heard; rw [HF8.out, g8]; exact HR2.out)
                    have HG := Lib.hid (show _ ∧ _ from by have h := HGo.out; rw [HH.out] at h; exact h)
                    have hT2 := heard_T (kind := 6) (m := m) (v := doV2 m) HT1.out HLg.out
                    rw [HH.out] at hT2
                    have HT2 := Lib.hid hT2
                    clear hT2
                    have HVt := Lib.hid (show ∀ W (av : LAd), Ext u2 W → LgF W (w.heap.size + 1 + 1 + 1) av m.log → Calls Tryz.prog 96 #[Rp.val a1 A1 qs.length c1 r, VtE.val av (doV2 m)] W fun e w' => ∃ v, e = .returned v ∧ RvV (w.heap.size + 1 + 1 + 1) a1 R2 v w' ∧ Ext W w' from fun W av h hl => by
                      have h5 := c_l6Vote (w.heap.size + 1 + 1 + 1) a1 A1 c1 qs r av (doV2 m) W (HF.out.keep h) hl (by have := h.size; omega) HT1.out.votes
                      rw [HR2.out] at h5
                      exact h5.mono fun e w' ⟨⟨A7, c7, q7, he, hf⟩, hx⟩ => ⟨_, he, ⟨A7, c7, q7, rfl, hf⟩, hx⟩)
                    go_wp2
                    have HW1 := Lib.hid (fun W' (h : (relE u2.heap.size).rel u2 W') => rp_whole E6.out h)
                    (refine Rm.wp_region_mix' (R := relE u2.heap.size) (fun _ _ _ => True) (fun _ _ _ _ _ hq => hq) 14 (by first | exact Nat.le_refl _ | omega | (simp; omega)) (by kernel_rfl) (by kernel_rfl) ?_; simp only [List.take_succ_cons, List.take_zero, List.drop_succ_cons, List.drop_zero])
                    (refine Rm.wpMix_loadAgg (HW1.out) rfl rfl rfl Tryz.underlying43 (by kernel_rfl) ?_; simp only [Act.put, List.setIfInBounds_toArray, List.set_cons_zero, List.set_cons_succ])
                    ((iterate 1 (refine Rm.wpMix_plain rfl rfl ?_; go_big_quiet_step (fail); refine wpQuiet_nil ?_)); (refine Rm.wpMix_load1 (fun W9' h9 => show W9'.cell? _ = some (.int .i64 m.frm) from bx_cell (Ext.box h9 EM.out) 1) rfl rfl rfl Tryz.underlying3 rfl ?_; simp only [Act.put, List.setIfInBounds_toArray, List.set_cons_zero, List.set_cons_succ]); (iterate 1 (refine Rm.wpMix_plain rfl rfl ?_; go_big_quiet_step (fail); refine wpQuiet_nil ?_)); (refine Rm.wpMix_load1 (fun W9' h9 => show W9'.cell? _ = some (.int .i64 m.view) from bx_cell (Ext.box h9 EM.out) 2) rfl rfl rfl Tryz.underlying3 rfl ?_; simp only [Act.put, List.setIfInBounds_toArray, List.set_cons_zero, List.set_cons_succ]); (iterate 1 (refine Rm.wpMix_plain rfl rfl ?_; go_big_quiet_step (fail); refine wpQuiet_nil ?_)); (refine Rm.wpMix_load1 (fun W9' h9 => show W9'.cell? _ = some (.int .i64 m.normal) from bx_cell (Ext.box h9 EM.out) 5) rfl rfl rfl Tryz.underlying3 rfl ?_; simp only [Act.put, List.setIfInBounds_toArray, List.set_cons_zero, List.set_cons_succ]); (iterate 1 (refine Rm.wpMix_plain rfl rfl ?_; go_big_quiet_step (fail); refine wpQuiet_nil ?_)); (refine Rm.wpMix_load1 (fun W9' h9 => show W9'.cell? _ = some (.int .i64 m.commit) from bx_cell (Ext.box h9 EM.out) 4) rfl rfl rfl Tryz.underlying3 rfl ?_; simp only [Act.put, List.setIfInBounds_toArray, List.set_cons_zero, List.set_cons_succ]); (iterate 1 (refine Rm.wpMix_plain rfl rfl ?_; go_big_quiet_step (fail); refine wpQuiet_nil ?_)))
                    (refine Rm.wpMix_loadAgg (fun W9' h9 => mg_log2 EM.out h9) rfl rfl rfl Tryz.underlying40 (by kernel_rfl) ?_; simp only [Act.put, List.setIfInBounds_toArray, List.set_cons_zero, List.set_cons_succ])
                    refine Rm.wpMix_call (LgV9 (w.heap.size + 1 + 1 + 1) m.log) rfl rfl rfl (enters Tryz.func103 (by kernel_rfl) rfl) (LgV9.mono _ _ _) (fun W' hW' => (c_l3Copy am m.log HMs.out W' (HMl.out.keep (Ext.trans X.out hW'))).mono fun e w' ⟨a4, he, hf, hx⟩ => ⟨_, he, ⟨a4, rfl, hf.less (by have := (show Ext _ _ from hW').size; omega)⟩, hx⟩) rfl (fun v6 hv6 => ?_)
                    obtain ⟨_, _, a6, rfl, _⟩ := hv6
                    simp only [Act.put, List.setIfInBounds_toArray, List.set_cons_zero, List.set_cons_succ]
                    (iterate 1 (refine Rm.wpMix_plain rfl rfl ?_; go_big_quiet_step (fail); refine wpQuiet_nil ?_))
                    refine Rm.wpMix_call (RvV (w.heap.size + 1 + 1 + 1) a1 R2) rfl rfl rfl (enters Tryz.func96 (by kernel_rfl) rfl) (RvV.mono _ _ _ _) (fun W' hW' => HVt.out W' a6 hW'.1 hW'.2.inv) rfl (fun v7 hv7 => ?_)
                    obtain ⟨_, _, A4, c4, q4_, rfl, _⟩ := hv7
                    simp only [Act.put, List.setIfInBounds_toArray, List.set_cons_zero, List.set_cons_succ]
                    refine Rm.wpMix_nil ?_
                    rintro u3 ⟨⟨hW, _⟩, hv5⟩
                    have x : Ext u2 u3 := hW
                    obtain ⟨q4, hq4, hf4⟩ := hv5.inv
                    rw [hq4]
                    have HF2 := Lib.hid hf4
                    clear hv5 hf4 hq4
                    obtain ⟨E1, EM, E2, E6, FS, X⟩ : Hid _ ∧ Hid _ ∧ Hid _ ∧ Hid _ ∧ Hid _ ∧ Hid _ := ⟨Lib.hid (x.box E1.out), Lib.hid (x.box EM.out), Lib.hid (x.box E2.out), Lib.hid (x.box E6.out), Lib.hid (FS.out.keep x), Lib.hid (Ext.trans X.out x)⟩
                    have hz_u3 := x.size
                    clear x hW HF HVt HW1
                    (go_wp2_with (with_reducible refine wl_stopS 43 ?_); refine stop_store ((w1.heap.size + 1)) (Rp.cs a1 A4 q4.length c4 R2) rfl rfl (E6.out) (by kernel_rfl) rfl (by simp [Value.oneCell']) ?_)
                    intro u4 e4 k4
                    have hlt_u4 := bx_lt E6.out
                    obtain ⟨E1, EM, E2, FS, X, HF2⟩ : Hid _ ∧ Hid _ ∧ Hid _ ∧ Hid _ ∧ Hid _ ∧ Hid _ := ⟨Lib.hid (box_chg E1.out k4 (by omega)), Lib.hid (box_chg EM.out k4 (by omega)), Lib.hid (box_chg E2.out k4 (by omega)), Lib.hid (FS.out.boxed E6.out (by decide) (by decide) (by decide) (by decide) k4), Lib.hid (ext_chg X.out k4 (fun k hk => by rw [List.mem_singleton] at hk; omega)), Lib.hid (HF2.out.boxed E6.out k4)⟩
                    have E6 := Lib.hid e4
                    have hs_u4 := bx_lt e4
                    have hz_u4 := k4.size
                    clear e4 k4
                    have HF := Lib.hid HF2.out
                    clear HF2
                    have HA0 := Lib.hid (fun k (hk : k ∈ blk (some ⟨w1.heap.size, 0, none⟩)) => (FS.out.row.inB k hk).2)
                    have E2v := Lib.hid E2.out
                    obtain ⟨RX, hRX⟩ : ∃ X, lookR R2 = X := ⟨_, rfl⟩
                    obtain ⟨OX, hOX⟩ : ∃ X, lookO R2 = X := ⟨_, rfl⟩
                    have hcon := c_l7Look (w.heap.size + 1 + 1 + 1) a1 A4 c4 q4 R2 u4 HF.out HT2.out (by omega)
                    have hOl : OX.length ≤ 6 := by rw [← hOX]; exact lookO_len HT2.out
                    have HGx := HG.out
                    rw [hRX, hOX] at hcon HGx
                    have HGL := Lib.hid HGx
                    have HCon := Lib.hid hcon
                    clear hcon hRX hOX HGx HG
                    (go_wp2_with (with_reducible refine wl_stop 104 ?_); refine stop_load (E6.out) rfl Tryz.underlying43 (by kernel_rfl) ?_; simp only [Act.put, List.setIfInBounds_toArray, List.set_cons_zero, List.set_cons_succ])
                    go_wp2_with fail
                    refine HCon.out.mono ?_
                    rintro e v8 ⟨⟨a9, A9, c9, q9, Am, cm, om, rfl, f9, fm, mm⟩, x⟩
                    obtain ⟨E2, FS, X⟩ : Hid _ ∧ Hid _ ∧ Hid _ := ⟨Lib.hid (x.box E2.out), Lib.hid (FS.out.keep x), Lib.hid (Ext.trans X.out x)⟩
                    have hz_v8 := x.size
                    clear x HCon HF
                    have XA := ext_alloc v8 Rp.zobj
                    have EQ0 := Lib.hid (hNew (w := v8) (o := Rp.zobj) rfl)
                    obtain ⟨E2, FS, X⟩ : Hid _ ∧ Hid _ ∧ Hid _ := ⟨Lib.hid (XA.box E2.out), Lib.hid (FS.out.keep XA), Lib.hid (Ext.trans X.out XA)⟩
                    have HF9 := Lib.hid (f9.keep XA)
                    have HM := Lib.hid (fm.keep XA)
                    have HMm := Lib.hid mm
                    have hml : om.length ≤ 6 := by rw [← List.length_map (f := Prod.snd), mm]; exact hOl
                    have hzA : (v8.alloc Rp.zobj).heap.size = v8.heap.size + 1 := by simp
                    clear XA f9 fm mm
                    have hv7 := bx_lt E2v.out
                    (go_wp2_with (with_reducible refine wl_stopS 43 ?_); refine stop_store (v8.heap.size) (Rp.cs a9 A9 q9.length c9 RX) rfl rfl (EQ0.out) (by kernel_rfl) rfl (by simp [Value.oneCell']) ?_)
                    intro W8 e8 k8
                    have hlt_W8 := bx_lt EQ0.out
                    obtain ⟨E2, FS, X, HF9, HM⟩ : Hid _ ∧ Hid _ ∧ Hid _ ∧ Hid _ ∧ Hid _ := ⟨Lib.hid (box_chg E2.out k8 (by omega)), Lib.hid (FS.out.boxed EQ0.out (by decide) (by decide) (by decide) (by decide) k8), Lib.hid (ext_chg X.out k8 (fun k hk => by rw [List.mem_singleton] at hk; omega)), Lib.hid (HF9.out.boxed EQ0.out k8), Lib.hid (HM.out.boxed EQ0.out (by decide) (by decide) (by decide) (by decide) k8)⟩
                    have EQ := Lib.hid e8
                    have hs_W8 := bx_lt e8
                    have hz_W8 := k8.size
                    clear e8 k8 E1 E6 EQ0
                    go_wp2
                    obtain ⟨g, obj1, hg1, hg2, hp8, hg8, hrun⟩ := outs_plan (.cells (Rp.cs a9 A9 q9.length c9 RX) 43) FS.out HM.out E2.out hv7 HA0.out (by first | omega | (simp; omega)) (by omega)
                    have HOth := Lib.hid (outs_oth FS.out E2.out hg2)
                    have HQ := Lib.hid (relM_box (hp := hp8) (hg := hg8) (obj := (.cells (Rp.cs a9 A9 q9.length c9 RX) 43)) (obj1 := obj1) EQ.out (by omega) (outs_apart FS.out EQ.out (by omega) hg2))
                    have HQw := Lib.hid (fun W' (h : (relM (w.heap.size + 1 + 1) g (.cells (Rp.cs a9 A9 q9.length c9 RX) 43) obj1 W8.heap.size hp8 hg8).rel W8 W') => cells_mid (cs := Rp.cs a9 A9 q9.length c9 RX) (HQ.out W' h) [] [] rfl rfl)
                    have HRun := Lib.hid hrun
                    have HG1 := Lib.hid hg1
                    have HG2 := Lib.hid hg2
                    clear hrun hg1 hg2
                    (refine Rm.wp_region_mix' (R := relM (w.heap.size + 1 + 1) g (.cells (Rp.cs a9 A9 q9.length c9 RX) 43) obj1 W8.heap.size hp8 hg8) (joinΦ (w.heap.size + 1 + 1) (.cells (Rp.cs a9 A9 q9.length c9 RX) 43) g obj1 W8.heap.size (w.heap.size + 1 + 1 + 1) (([] : List OtE) ++ om)) (fun _ _ _ _ _ hq => hq) 6 (by first | exact Nat.le_refl _ | omega | (simp; omega)) (by kernel_rfl) (by kernel_rfl) ?_; simp only [List.take_succ_cons, List.take_zero, List.drop_succ_cons, List.drop_zero])
                    (refine Rm.wpMix_loadAgg (HQw.out) rfl rfl rfl Tryz.underlying43 (by kernel_rfl) ?_; simp only [Act.put, List.setIfInBounds_toArray, List.set_cons_zero, List.set_cons_succ])
                    (iterate 2 (refine Rm.wpMix_plain rfl rfl ?_; go_big_quiet_step (fail); refine wpQuiet_nil ?_))
                    refine rm_own (enc := OtE.enc) _ _ 55 100 18 (w.heap.size + 1 + 1 + 1) rfl rfl (some ⟨w1.heap.size, 0, none⟩) _ 0 ([] : List OtE) rfl rfl Am _ cm om rfl rfl (fun W hW => HRun.out W hW) rfl (fun A5 c5 => ?_)
                    simp only [Act.put, List.setIfInBounds_toArray, List.set_cons_zero, List.set_cons_succ]
                    refine wpMix_stM HG1.out E2.out rfl rfl rfl rfl rfl (by kernel_rfl) rfl (by simp [Value.oneCell']) rfl ?_
                    simp only [Act.put, List.setIfInBounds_toArray, List.set_cons_zero, List.set_cons_succ]
                    (iterate 1 (refine Rm.wpMix_plain rfl rfl ?_; go_big_quiet_step (fail); refine wpQuiet_nil ?_))
                    refine Rm.wpMix_nil ?_
                    rintro W9 ⟨⟨h9, hv9⟩, e9⟩
                    have HE9 := Lib.hid e9
                    have HOS9 := Lib.hid (outs_join FS.out HM.out (by omega) HOth.out h9 hv9)
                    have HF9 := Lib.hid (HF9.out.other h9.1 HOth.out)
                    have HX9 := Lib.hid (ext_chg X.out h9.1 (fun k hk => by
                      have hgg := HG2.out
                      simp only [List.mem_cons, List.not_mem_nil, or_false] at hk
                      rcases hk with rfl | rfl
                      · omega
                      · rcases hgg with h | h <;> omega))
                    clear h9 hv9 e9
                    go_wp2
                    have hT9 := RoT.of HF9.out HOS9.out (show List.map Prod.snd (([] : List OtE) ++ om) = hearO r m 6 (onDoO r m) by rw [HGL.out.2, List.map_append, HOs.out, HMm.out])
                    refine bodyPost_ret (results_box2 Tryz.results39 rfl rfl Tryz.underlying43 (by kernel_rfl) HE9.out) rfl ⟨_, rfl, ?_, HX9.out⟩
                    rw [HGL.out.1]
                    first | exact hT9 | (rw [List.length_append] at hT9; exact hT9)
                · have HQ := Lib.hid (show hearR2 r m 6 (onDoR r m) = r ∧ hearO r m 6 (onDoO r m) = [] from by
                    have hB : ttB r m.view = false := by
                      unfold ttB
                      rw [HtR.out, gl]
                      have h := g7
                      simp at h ⊢
                      exact fun _ h2 => h h2.symm
                    rw [HY.out.1, HY.out.2]
                    unfold onDoR onDoO
                    rw [HdB.out, HdS.out]
                    rw [hB, HtR.out, HtO.out]
                    simp)
                  (go_wp2_with (with_reducible refine wl_stop 81 ?_); refine stop_load (E6.out) rfl Tryz.underlying43 (by kernel_rfl) ?_; simp only [Act.put, List.setIfInBounds_toArray, List.set_cons_zero, List.set_cons_succ])
                  clear d6 dM z6 zM d1 dM1 z1 zM1
                  (go_wp2_with (with_reducible refine wl_stopS 43 ?_); refine stop_store ((w.heap.size + 1 + 1)) (Rp.cs a1 A1 qs.length c1 (r)) rfl rfl (E2.out) (by kernel_rfl) rfl (by simp [Value.oneCell']) ?_)
                  intro W9 e9 k9
                  have X9 := Lib.hid (chg_new X.out k9 (by omega))
                  have HE9 := Lib.hid e9
                  have HT9 := Lib.hid (RoT.of (HF.out.boxed E2.out k9) (FS.out.boxed E2.out (by decide) (by decide) (by decide) (by decide) k9) HOs.out)
                  clear e9 k9
                  go_wp2
                  refine bodyPost_ret (results_box2 Tryz.results39 rfl rfl Tryz.underlying43 (by kernel_rfl) HE9.out) rfl ⟨_, rfl, ?_, X9.out⟩
                  rw [HQ.out.1, HQ.out.2]
                  exact HT9.out
              · have HQ := Lib.hid (show hearR2 r m 6 (onDoR r m) = r ∧ hearO r m 6 (onDoO r m) = [] from by
                  have hB : ttB r m.view = false := by
                    unfold ttB
                    rw [HtR.out, gl]
                    have h := g6
                    simp at h ⊢
                    exact fun h2 => absurd h2 h
                  rw [HY.out.1, HY.out.2]
                  unfold onDoR onDoO
                  rw [HdB.out, HdS.out]
                  rw [hB, HtR.out, HtO.out]
                  simp)
                (go_wp2_with (with_reducible refine wl_stop 81 ?_); refine stop_load (E6.out) rfl Tryz.underlying43 (by kernel_rfl) ?_; simp only [Act.put, List.setIfInBounds_toArray, List.set_cons_zero, List.set_cons_succ])
                clear d6 dM z6 zM d1 dM1 z1 zM1
                (go_wp2_with (with_reducible refine wl_stopS 43 ?_); refine stop_store ((w.heap.size + 1 + 1)) (Rp.cs a1 A1 qs.length c1 (r)) rfl rfl (E2.out) (by kernel_rfl) rfl (by simp [Value.oneCell']) ?_)
                intro W9 e9 k9
                have X9 := Lib.hid (chg_new X.out k9 (by omega))
                have HE9 := Lib.hid e9
                have HT9 := Lib.hid (RoT.of (HF.out.boxed E2.out k9) (FS.out.boxed E2.out (by decide) (by decide) (by decide) (by decide) k9) HOs.out)
                clear e9 k9
                go_wp2
                refine bodyPost_ret (results_box2 Tryz.results39 rfl rfl Tryz.underlying43 (by kernel_rfl) HE9.out) rfl ⟨_, rfl, ?_, X9.out⟩
                rw [HQ.out.1, HQ.out.2]
                exact HT9.out
            · have HtR0 := Lib.hid (show ttR r m.view = beginR r m.view by unfold ttR; rw [gl, g0]; rfl)
              have HtO0 := Lib.hid (show ttO r m.view = beginO r m.view by unfold ttO; rw [gl, g0]; rfl)
              obtain ⟨R1, hR1⟩ : ∃ X, beginR r m.view = X := ⟨_, rfl⟩
              obtain ⟨O1, hO1⟩ : ∃ X, beginO r m.view = X := ⟨_, rfl⟩
              have hcon := c_l7Begin (w.heap.size + 1 + 1 + 1) a1 A1 c1 qs r m.view w4 HF.out HT.out HV.out.1 HV.out.2 (by omega)
              rw [hR1, hO1] at hcon
              have HCon := Lib.hid hcon
              have HtR := Lib.hid (HtR0.out.trans hR1)
              have HtO := Lib.hid (HtO0.out.trans hO1)
              have hO1l : O1.length ≤ 11 := by rw [← hO1]; exact (beginO_small HT.out HV.out.1 HV.out.2).2
              clear hcon hR1 hO1 HtR0 HtO0
              (go_wp2_with (with_reducible refine wl_stop 65 ?_); refine stop_load (E6.out) rfl Tryz.underlying43 (by kernel_rfl) ?_; simp only [Act.put, List.setIfInBounds_toArray, List.set_cons_zero, List.set_cons_succ])
              go_wp2_with fail
              refine HCon.out.mono ?_
              rintro e w6 ⟨⟨a2, A2, c2, q2, Ao, co, os, rfl, f2, fo, mo⟩, x⟩
              obtain ⟨E1, EM, E2, E6, X⟩ : Hid _ ∧ Hid _ ∧ Hid _ ∧ Hid _ ∧ Hid _ := ⟨Lib.hid (x.box E1.out), Lib.hid (x.box EM.out), Lib.hid (x.box E2.out), Lib.hid (x.box E6.out), Lib.hid (Ext.trans X.out x)⟩
              have hz_w6 := x.size
              have HF2 := Lib.hid f2
              have FS2 := Lib.hid (fo.less (B' := w.heap.size + 1 + 1 + 1) (by omega))
              have HOs := Lib.hid mo
              have hos : os.length ≤ 11 := by rw [← List.length_map (f := Prod.snd), mo]; exact hO1l
              clear x f2 fo mo HF FS HCon d1 dM1 z1 zM1
              obtain ⟨HF, FS⟩ : Hid _ ∧ Hid _ := ⟨Lib.hid HF2.out, Lib.hid FS2.out⟩
              clear HF2 FS2
              (go_wp2_with (with_reducible refine wl_stopS 43 ?_); refine stop_store ((w1.heap.size + 1)) (Rp.cs a2 A2 q2.length c2 R1) rfl rfl (E6.out) (by kernel_rfl) rfl (by simp [Value.oneCell']) ?_)
              intro w7 e7 k7
              have hlt_w7 := bx_lt E6.out
              obtain ⟨E1, EM, E2, HF, FS, X⟩ : Hid _ ∧ Hid _ ∧ Hid _ ∧ Hid _ ∧ Hid _ ∧ Hid _ := ⟨Lib.hid (box_chg E1.out k7 (by omega)), Lib.hid (box_chg EM.out k7 (by omega)), Lib.hid (box_chg E2.out k7 (by omega)), Lib.hid (HF.out.boxed E6.out k7), Lib.hid (FS.out.boxed E6.out (by decide) (by decide) (by decide) (by decide) k7), Lib.hid (ext_chg X.out k7 (fun k hk => by rw [List.mem_singleton] at hk; omega))⟩
              have E6 := Lib.hid e7
              have hs_w7 := bx_lt e7
              have hz_w7 := k7.size
              clear e7 k7
              have d6 := bx_cell E6.out
              have dM := bx_cell EM.out
              have z6 := bx_lt E6.out
              have zM := bx_lt EM.out
              cases g6 : (R1.mode != 2)
              · cases g7 : (R1.view != m.view)
                · have HtB := Lib.hid (show ttB r m.view = true by
                    unfold ttB
                    rw [gl, HtR.out]
                    have h1 := g6
                    have h2 := g7
                    simp at h1 h2 ⊢
                    exact ⟨h1, h2.symm⟩)
                  have hT1 := ttB_T (fun _ => HT.out) HV.out.1 HV.out.2 HtB.out
                  rw [HtR.out] at hT1
                  have HT1 := Lib.hid hT1
                  have hq20 : q2.length ≤ 20 := by have h1 := hT1.votes; rw [← HF.out.e, List.length_map] at h1; exact h1
                  clear hT1
                  obtain ⟨f8, hf8⟩ : ∃ f, findV 6 m.frm R1.votes = f := ⟨_, rfl⟩
                  have hcon := c_l6Find A2 c2 q2 6 m.frm w7 HF.out.v.1 (by omega)
                  rw [HF.out.e, hf8] at hcon
                  have HFi := Lib.hid hcon
                  have HF8 := Lib.hid hf8
                  clear hcon hf8
                  have HGo := Lib.hid (show hearR2 r m 6 (onDoR r m) = lookR (heard 6 R1 m (doV2 m)) ∧ hearO r m 6 (onDoO r m) = O1 ++ lookO (heard 6 R1 m (doV2 m)) from by
                    rw [HY.out.1, HY.out.2]
                    unfold onDoR onDoO
                    rw [HdB.out, HdS.out]
                    rw [HtB.out, HtR.out, HtO.out]
                    simp)
                  go_wp2_with fail
                  refine HFi.out.mono ?_
                  rintro e u2 ⟨rfl, x⟩
                  obtain ⟨E1, EM, E2, E6, HF, FS, X⟩ : Hid _ ∧ Hid _ ∧ Hid _ ∧ Hid _ ∧ Hid _ ∧ Hid _ ∧ Hid _ := ⟨Lib.hid (x.box E1.out), Lib.hid (x.box EM.out), Lib.hid (x.box E2.out), Lib.hid (x.box E6.out), Lib.hid (HF.out.keep x), Lib.hid (FS.out.keep x), Lib.hid (Ext.trans X.out x)⟩
                  have hz_u2 := x.size
                  clear x
                  clear d6 dM z6 zM HFi
                  cases g8 : decide (f8 < 0)
                  · have HH := Lib.hid (show heard 6 R1 m (doV2 m) = R1 by unfold heard; rw [HF8.out, g8]; rfl)
                    have HG := Lib.hid (show _ ∧ _ from by have h := HGo.out; rw [HH.out] at h; exact h)
                    have HT2 := Lib.hid HT1.out
                    have HA0 := Lib.hid (fun k (hk : k ∈ blk Ao) => (FS.out.row.inB k hk).2)
                    have E2v := Lib.hid E2.out
                    obtain ⟨RX, hRX⟩ : ∃ X, lookR R1 = X := ⟨_, rfl⟩
                    obtain ⟨OX, hOX⟩ : ∃ X, lookO R1 = X := ⟨_, rfl⟩
                    have hcon := c_l7Look (w.heap.size + 1 + 1 + 1) a2 A2 c2 q2 R1 u2 HF.out HT2.out (by omega)
                    have hOl : OX.length ≤ 6 := by rw [← hOX]; exact lookO_len HT2.out
                    have HGx := HG.out
                    rw [hRX, hOX] at hcon HGx
                    have HGL := Lib.hid HGx
                    have HCon := Lib.hid hcon
                    clear hcon hRX hOX HGx HG
                    (go_wp2_with (with_reducible refine wl_stop 104 ?_); refine stop_load (E6.out) rfl Tryz.underlying43 (by kernel_rfl) ?_; simp only [Act.put, List.setIfInBounds_toArray, List.set_cons_zero, List.set_cons_succ])
                    go_wp2_with fail
                    refine HCon.out.mono ?_
                    rintro e v8 ⟨⟨a9, A9, c9, q9, Am, cm, om, rfl, f9, fm, mm⟩, x⟩
                    obtain ⟨E2, FS, X⟩ : Hid _ ∧ Hid _ ∧ Hid _ := ⟨Lib.hid (x.box E2.out), Lib.hid (FS.out.keep x), Lib.hid (Ext.trans X.out x)⟩
                    have hz_v8 := x.size
                    clear x HCon HF
                    have XA := ext_alloc v8 Rp.zobj
                    have EQ0 := Lib.hid (hNew (w := v8) (o := Rp.zobj) rfl)
                    obtain ⟨E2, FS, X⟩ : Hid _ ∧ Hid _ ∧ Hid _ := ⟨Lib.hid (XA.box E2.out), Lib.hid (FS.out.keep XA), Lib.hid (Ext.trans X.out XA)⟩
                    have HF9 := Lib.hid (f9.keep XA)
                    have HM := Lib.hid (fm.keep XA)
                    have HMm := Lib.hid mm
                    have hml : om.length ≤ 6 := by rw [← List.length_map (f := Prod.snd), mm]; exact hOl
                    have hzA : (v8.alloc Rp.zobj).heap.size = v8.heap.size + 1 := by simp
                    clear XA f9 fm mm
                    have hv7 := bx_lt E2v.out
                    (go_wp2_with (with_reducible refine wl_stopS 43 ?_); refine stop_store (v8.heap.size) (Rp.cs a9 A9 q9.length c9 RX) rfl rfl (EQ0.out) (by kernel_rfl) rfl (by simp [Value.oneCell']) ?_)
                    intro W8 e8 k8
                    have hlt_W8 := bx_lt EQ0.out
                    obtain ⟨E2, FS, X, HF9, HM⟩ : Hid _ ∧ Hid _ ∧ Hid _ ∧ Hid _ ∧ Hid _ := ⟨Lib.hid (box_chg E2.out k8 (by omega)), Lib.hid (FS.out.boxed EQ0.out (by decide) (by decide) (by decide) (by decide) k8), Lib.hid (ext_chg X.out k8 (fun k hk => by rw [List.mem_singleton] at hk; omega)), Lib.hid (HF9.out.boxed EQ0.out k8), Lib.hid (HM.out.boxed EQ0.out (by decide) (by decide) (by decide) (by decide) k8)⟩
                    have EQ := Lib.hid e8
                    have hs_W8 := bx_lt e8
                    have hz_W8 := k8.size
                    clear e8 k8 E1 E6 EQ0
                    go_wp2
                    obtain ⟨g, obj1, hg1, hg2, hp8, hg8, hrun⟩ := outs_plan (.cells (Rp.cs a9 A9 q9.length c9 RX) 43) FS.out HM.out E2.out hv7 HA0.out (by first | omega | (simp; omega)) (by omega)
                    have HOth := Lib.hid (outs_oth FS.out E2.out hg2)
                    have HQ := Lib.hid (relM_box (hp := hp8) (hg := hg8) (obj := (.cells (Rp.cs a9 A9 q9.length c9 RX) 43)) (obj1 := obj1) EQ.out (by omega) (outs_apart FS.out EQ.out (by omega) hg2))
                    have HQw := Lib.hid (fun W' (h : (relM (w.heap.size + 1 + 1) g (.cells (Rp.cs a9 A9 q9.length c9 RX) 43) obj1 W8.heap.size hp8 hg8).rel W8 W') => cells_mid (cs := Rp.cs a9 A9 q9.length c9 RX) (HQ.out W' h) [] [] rfl rfl)
                    have HRun := Lib.hid hrun
                    have HG1 := Lib.hid hg1
                    have HG2 := Lib.hid hg2
                    clear hrun hg1 hg2
                    (refine Rm.wp_region_mix' (R := relM (w.heap.size + 1 + 1) g (.cells (Rp.cs a9 A9 q9.length c9 RX) 43) obj1 W8.heap.size hp8 hg8) (joinΦ (w.heap.size + 1 + 1) (.cells (Rp.cs a9 A9 q9.length c9 RX) 43) g obj1 W8.heap.size (w.heap.size + 1 + 1 + 1) (os ++ om)) (fun _ _ _ _ _ hq => hq) 6 (by first | exact Nat.le_refl _ | omega | (simp; omega)) (by kernel_rfl) (by kernel_rfl) ?_; simp only [List.take_succ_cons, List.take_zero, List.drop_succ_cons, List.drop_zero])
                    (refine Rm.wpMix_loadAgg (HQw.out) rfl rfl rfl Tryz.underlying43 (by kernel_rfl) ?_; simp only [Act.put, List.setIfInBounds_toArray, List.set_cons_zero, List.set_cons_succ])
                    (iterate 2 (refine Rm.wpMix_plain rfl rfl ?_; go_big_quiet_step (fail); refine wpQuiet_nil ?_))
                    refine rm_own (enc := OtE.enc) _ _ 55 100 18 (w.heap.size + 1 + 1 + 1) rfl rfl Ao _ co os rfl rfl Am _ cm om rfl rfl (fun W hW => HRun.out W hW) rfl (fun A5 c5 => ?_)
                    simp only [Act.put, List.setIfInBounds_toArray, List.set_cons_zero, List.set_cons_succ]
                    refine wpMix_stM HG1.out E2.out rfl rfl rfl rfl rfl (by kernel_rfl) rfl (by simp [Value.oneCell']) rfl ?_
                    simp only [Act.put, List.setIfInBounds_toArray, List.set_cons_zero, List.set_cons_succ]
                    (iterate 1 (refine Rm.wpMix_plain rfl rfl ?_; go_big_quiet_step (fail); refine wpQuiet_nil ?_))
                    refine Rm.wpMix_nil ?_
                    rintro W9 ⟨⟨h9, hv9⟩, e9⟩
                    have HE9 := Lib.hid e9
                    have HOS9 := Lib.hid (outs_join FS.out HM.out (by omega) HOth.out h9 hv9)
                    have HF9 := Lib.hid (HF9.out.other h9.1 HOth.out)
                    have HX9 := Lib.hid (ext_chg X.out h9.1 (fun k hk => by
                      have hgg := HG2.out
                      simp only [List.mem_cons, List.not_mem_nil, or_false] at hk
                      rcases hk with rfl | rfl
                      · omega
                      · rcases hgg with h | h <;> omega))
                    clear h9 hv9 e9
                    go_wp2
                    have hT9 := RoT.of HF9.out HOS9.out (show List.map Prod.snd (os ++ om) = hearO r m 6 (onDoO r m) by rw [HGL.out.2, List.map_append, HOs.out, HMm.out])
                    refine bodyPost_ret (results_box2 Tryz.results39 rfl rfl Tryz.underlying43 (by kernel_rfl) HE9.out) rfl ⟨_, rfl, ?_, HX9.out⟩
                    rw [HGL.out.1]
                    first | exact hT9 | (rw [List.length_append] at hT9; exact hT9)
                  · obtain ⟨R2, hR2⟩ : ∃ X, R1.voted (doV2 m) = X := ⟨_, rfl⟩
                    have HR2 := Lib.hid hR2
                    clear hR2
                    have HH := Lib.hid (show heard 6 R1 m (doV2 m) = R2 by unfold heard; rw [HF8.out, g8]; exact HR2.out)
                    have HG := Lib.hid (show _ ∧ _ from by have h := HGo.out; rw [HH.out] at h; exact h)
                    have hT2 := heard_T (kind := 6) (m := m) (v := doV2 m) HT1.out HLg.out
                    rw [HH.out] at hT2
                    have HT2 := Lib.hid hT2
                    clear hT2
                    have HVt := Lib.hid (show ∀ W (av : LAd), Ext u2 W → LgF W (w.heap.size + 1 + 1 + 1) av m.log → Calls Tryz.prog 96 #[Rp.val a2 A2 q2.length c2 R1, VtE.val av (doV2 m)] W fun e w' => ∃ v, e = .returned v ∧ RvV (w.heap.size + 1 + 1 + 1) a2 R2 v w' ∧ Ext W w' from fun W av h hl => by
                      have h5 := c_l6Vote (w.heap.size + 1 + 1 + 1) a2 A2 c2 q2 R1 av (doV2 m) W (HF.out.keep h) hl (by have := h.size; omega) HT1.out.votes
                      rw [HR2.out] at h5
                      exact h5.mono fun e w' ⟨⟨A7, c7, q7, he, hf⟩, hx⟩ => ⟨_, he, ⟨A7, c7, q7, rfl, hf⟩, hx⟩)
                    go_wp2
                    have HW1 := Lib.hid (fun W' (h : (relE u2.heap.size).rel u2 W') => rp_whole E6.out h)
                    (refine Rm.wp_region_mix' (R := relE u2.heap.size) (fun _ _ _ => True) (fun _ _ _ _ _ hq => hq) 14 (by first | exact Nat.le_refl _ | omega | (simp; omega)) (by kernel_rfl) (by kernel_rfl) ?_; simp only [List.take_succ_cons, List.take_zero, List.drop_succ_cons, List.drop_zero])
                    (refine Rm.wpMix_loadAgg (HW1.out) rfl rfl rfl Tryz.underlying43 (by kernel_rfl) ?_; simp only [Act.put, List.setIfInBounds_toArray, List.set_cons_zero, List.set_cons_succ])
                    ((iterate 1 (refine Rm.wpMix_plain rfl rfl ?_; go_big_quiet_step (fail); refine wpQuiet_nil ?_)); (refine Rm.wpMix_load1 (fun W9' h9 => show W9'.cell? _ = some (.int .i64 m.frm) from bx_cell (Ext.box h9 EM.out) 1) rfl rfl rfl Tryz.underlying3 rfl ?_; simp only [Act.put, List.setIfInBounds_toArray, List.set_cons_zero, List.set_cons_succ]); (iterate 1 (refine Rm.wpMix_plain rfl rfl ?_; go_big_quiet_step (fail); refine wpQuiet_nil ?_)); (refine Rm.wpMix_load1 (fun W9' h9 => show W9'.cell? _ = some (.int .i64 m.view) from bx_cell (Ext.box h9 EM.out) 2) rfl rfl rfl Tryz.underlying3 rfl ?_; simp only [Act.put, List.setIfInBounds_toArray, List.set_cons_zero, List.set_cons_succ]); (iterate 1 (refine Rm.wpMix_plain rfl rfl ?_; go_big_quiet_step (fail); refine wpQuiet_nil ?_)); (refine Rm.wpMix_load1 (fun W9' h9 => show W9'.cell? _ = some (.int .i64 m.normal) from bx_cell (Ext.box h9 EM.out) 5) rfl rfl rfl Tryz.underlying3 rfl ?_; simp only [Act.put, List.setIfInBounds_toArray, List.set_cons_zero, List.set_cons_succ]); (iterate 1 (refine Rm.wpMix_plain rfl rfl ?_; go_big_quiet_step (fail); refine wpQuiet_nil ?_)); (refine Rm.wpMix_load1 (fun W9' h9 => show W9'.cell? _ = some (.int .i64 m.commit) from bx_cell (Ext.box h9 EM.out) 4) rfl rfl rfl Tryz.underlying3 rfl ?_; simp only [Act.put, List.setIfInBounds_toArray, List.set_cons_zero, List.set_cons_succ]); (iterate 1 (refine Rm.wpMix_plain rfl rfl ?_; go_big_quiet_step (fail); refine wpQuiet_nil ?_)))
                    (refine Rm.wpMix_loadAgg (fun W9' h9 => mg_log2 EM.out h9) rfl rfl rfl Tryz.underlying40 (by kernel_rfl) ?_; simp only [Act.put, List.setIfInBounds_toArray, List.set_cons_zero, List.set_cons_succ])
                    refine Rm.wpMix_call (LgV9 (w.heap.size + 1 + 1 + 1) m.log) rfl rfl rfl (enters Tryz.func103 (by kernel_rfl) rfl) (LgV9.mono _ _ _) (fun W' hW' => (c_l3Copy am m.log HMs.out W' (HMl.out.keep (Ext.trans X.out hW'))).mono fun e w' ⟨a4, he, hf, hx⟩ => ⟨_, he, ⟨a4, rfl, hf.less (by have := (show Ext _ _ from hW').size; omega)⟩, hx⟩) rfl (fun v6 hv6 => ?_)
                    obtain ⟨_, _, a6, rfl, _⟩ := hv6
                    simp only [Act.put, List.setIfInBounds_toArray, List.set_cons_zero, List.set_cons_succ]
                    (iterate 1 (refine Rm.wpMix_plain rfl rfl ?_; go_big_quiet_step (fail); refine wpQuiet_nil ?_))
                    refine Rm.wpMix_call (RvV (w.heap.size + 1 + 1 + 1) a2 R2) rfl rfl rfl (enters Tryz.func96 (by kernel_rfl) rfl) (RvV.mono _ _ _ _) (fun W' hW' => HVt.out W' a6 hW'.1 hW'.2.inv) rfl (fun v7 hv7 => ?_)
                    obtain ⟨_, _, A4, c4, q4_, rfl, _⟩ := hv7
                    simp only [Act.put, List.setIfInBounds_toArray, List.set_cons_zero, List.set_cons_succ]
                    refine Rm.wpMix_nil ?_
                    rintro u3 ⟨⟨hW, _⟩, hv5⟩
                    have x : Ext u2 u3 := hW
                    obtain ⟨q4, hq4, hf4⟩ := hv5.inv
                    rw [hq4]
                    have HF2 := Lib.hid hf4
                    clear hv5 hf4 hq4
                    obtain ⟨E1, EM, E2, E6, FS, X⟩ : Hid _ ∧ Hid _ ∧ Hid _ ∧ Hid _ ∧ Hid _ ∧ Hid _ := ⟨Lib.hid (x.box E1.out), Lib.hid (x.box EM.out), Lib.hid (x.box E2.out), Lib.hid (x.box E6.out), Lib.hid (FS.out.keep x), Lib.hid (Ext.trans X.out x)⟩
                    have hz_u3 := x.size
                    clear x hW HF HVt HW1
                    (go_wp2_with (with_reducible refine wl_stopS 43 ?_); refine stop_store ((w1.heap.size + 1)) (Rp.cs a2 A4 q4.length c4 R2) rfl rfl (E6.out) (by kernel_rfl) rfl (by simp [Value.oneCell']) ?_)
                    intro u4 e4 k4
                    have hlt_u4 := bx_lt E6.out
                    obtain ⟨E1, EM, E2, FS, X, HF2⟩ : Hid _ ∧ Hid _ ∧ Hid _ ∧ Hid _ ∧ Hid _ ∧ Hid _ := ⟨Lib.hid (box_chg E1.out k4 (by omega)), Lib.hid (box_chg EM.out k4 (by omega)), Lib.hid (box_chg E2.out k4 (by omega)), Lib.hid (FS.out.boxed E6.out (by decide) (by decide) (by decide) (by decide) k4), Lib.hid (ext_chg X.out k4 (fun k hk => by rw [List.mem_singleton] at hk; omega)), Lib.hid (HF2.out.boxed E6.out k4)⟩
                    have E6 := Lib.hid e4
                    have hs_u4 := bx_lt e4
                    have hz_u4 := k4.size
                    clear e4 k4
                    have HF := Lib.hid HF2.out
                    clear HF2
                    have HA0 := Lib.hid (fun k (hk : k ∈ blk Ao) => (FS.out.row.inB k hk).2)
                    have E2v := Lib.hid E2.out
                    obtain ⟨RX, hRX⟩ : ∃ X, lookR R2 = X := ⟨_, rfl⟩
                    obtain ⟨OX, hOX⟩ : ∃ X, lookO R2 = X := ⟨_, rfl⟩
                    have hcon := c_l7Look (w.heap.size + 1 + 1 + 1) a2 A4 c4 q4 R2 u4 HF.out HT2.out (by omega)
                    have hOl : OX.length ≤ 6 := by rw [← hOX]; exact lookO_len HT2.out
                    have HGx := HG.out
                    rw [hRX, hOX] at hcon HGx
                    have HGL := Lib.hid HGx
                    have HCon := Lib.hid hcon
                    clear hcon hRX hOX HGx HG
                    (go_wp2_with (with_reducible refine wl_stop 104 ?_); refine stop_load (E6.out) rfl Tryz.underlying43 (by kernel_rfl) ?_; simp only [Act.put, List.setIfInBounds_toArray, List.set_cons_zero, List.set_cons_succ])
                    go_wp2_with fail
                    refine HCon.out.mono ?_
                    rintro e v8 ⟨⟨a9, A9, c9, q9, Am, cm, om, rfl, f9, fm, mm⟩, x⟩
                    obtain ⟨E2, FS, X⟩ : Hid _ ∧ Hid _ ∧ Hid _ := ⟨Lib.hid (x.box E2.out), Lib.hid (FS.out.keep x), Lib.hid (Ext.trans X.out x)⟩
                    have hz_v8 := x.size
                    clear x HCon HF
                    have XA := ext_alloc v8 Rp.zobj
                    have EQ0 := Lib.hid (hNew (w := v8) (o := Rp.zobj) rfl)
                    obtain ⟨E2, FS, X⟩ : Hid _ ∧ Hid _ ∧ Hid _ := ⟨Lib.hid (XA.box E2.out), Lib.hid (FS.out.keep XA), Lib.hid (Ext.trans X.out XA)⟩
                    have HF9 := Lib.hid (f9.keep XA)
                    have HM := Lib.hid (fm.keep XA)
                    have HMm := Lib.hid mm
                    have hml : om.length ≤ 6 := by rw [← List.length_map (f := Prod.snd), mm]; exact hOl
                    have hzA : (v8.alloc Rp.zobj).heap.size = v8.heap.size + 1 := by simp
                    clear XA f9 fm mm
                    have hv7 := bx_lt E2v.out
                    (go_wp2_with (with_reducible refine wl_stopS 43 ?_); refine stop_store (v8.heap.size) (Rp.cs a9 A9 q9.length c9 RX) rfl rfl (EQ0.out) (by kernel_rfl) rfl (by simp [Value.oneCell']) ?_)
                    intro W8 e8 k8
                    have hlt_W8 := bx_lt EQ0.out
                    obtain ⟨E2, FS, X, HF9, HM⟩ : Hid _ ∧ Hid _ ∧ Hid _ ∧ Hid _ ∧ Hid _ := ⟨Lib.hid (box_chg E2.out k8 (by omega)), Lib.hid (FS.out.boxed EQ0.out (by decide) (by decide) (by decide) (by decide) k8), Lib.hid (ext_chg X.out k8 (fun k hk => by rw [List.mem_singleton] at hk; omega)), Lib.hid (HF9.out.boxed EQ0.out k8), Lib.hid (HM.out.boxed EQ0.out (by decide) (by decide) (by decide) (by decide) k8)⟩
                    have EQ := Lib.hid e8
                    have hs_W8 := bx_lt e8
                    have hz_W8 := k8.size
                    clear e8 k8 E1 E6 EQ0
                    go_wp2
                    obtain ⟨g, obj1, hg1, hg2, hp8, hg8, hrun⟩ := outs_plan (.cells (Rp.cs a9 A9 q9.length c9 RX) 43) FS.out HM.out E2.out hv7 HA0.out (by first | omega | (simp; omega)) (by omega)
                    have HOth := Lib.hid (outs_oth FS.out E2.out hg2)
                    have HQ := Lib.hid (relM_box (hp := hp8) (hg := hg8) (obj := (.cells (Rp.cs a9 A9 q9.length c9 RX) 43)) (obj1 := obj1) EQ.out (by omega) (outs_apart FS.out EQ.out (by omega) hg2))
                    have HQw := Lib.hid (fun W' (h : (relM (w.heap.size + 1 + 1) g (.cells (Rp.cs a9 A9 q9.length c9 RX) 43) obj1 W8.heap.size hp8 hg8).rel W8 W') => cells_mid (cs := Rp.cs a9 A9 q9.length c9 RX) (HQ.out W' h) [] [] rfl rfl)
                    have HRun := Lib.hid hrun
                    have HG1 := Lib.hid hg1
                    have HG2 := Lib.hid hg2
                    clear hrun hg1 hg2
                    (refine Rm.wp_region_mix' (R := relM (w.heap.size + 1 + 1) g (.cells (Rp.cs a9 A9 q9.length c9 RX) 43) obj1 W8.heap.size hp8 hg8) (joinΦ (w.heap.size + 1 + 1) (.cells (Rp.cs a9 A9 q9.length c9 RX) 43) g obj1 W8.heap.size (w.heap.size + 1 + 1 + 1) (os ++ om)) (fun _ _ _ _ _ hq => hq) 6 (by first | exact Nat.le_refl _ | omega | (simp; omega)) (by kernel_rfl) (by kernel_rfl) ?_; simp only [List.take_succ_cons, List.take_zero, List.drop_succ_cons, List.drop_zero])
                    (refine Rm.wpMix_loadAgg (HQw.out) rfl rfl rfl Tryz.underlying43 (by kernel_rfl) ?_; simp only [Act.put, List.setIfInBounds_toArray, List.set_cons_zero, List.set_cons_succ])
                    (iterate 2 (refine Rm.wpMix_plain rfl rfl ?_; go_big_quiet_step (fail); refine wpQuiet_nil ?_))
                    refine rm_own (enc := OtE.enc) _ _ 55 100 18 (w.heap.size + 1 + 1 + 1) rfl rfl Ao _ co os rfl rfl Am _ cm om rfl rfl (fun W hW => HRun.out W hW) rfl (fun A5 c5 => ?_)
                    simp only [Act.put, List.setIfInBounds_toArray, List.set_cons_zero, List.set_cons_succ]
                    refine wpMix_stM HG1.out E2.out rfl rfl rfl rfl rfl (by kernel_rfl) rfl (by simp [Value.oneCell']) rfl ?_
                    simp only [Act.put, List.setIfInBounds_toArray, List.set_cons_zero, List.set_cons_succ]
                    (iterate 1 (refine Rm.wpMix_plain rfl rfl ?_; go_big_quiet_step (fail); refine wpQuiet_nil ?_))
                    refine Rm.wpMix_nil ?_
                    rintro W9 ⟨⟨h9, hv9⟩, e9⟩
                    have HE9 := Lib.hid e9
                    have HOS9 := Lib.hid (outs_join FS.out HM.out (by omega) HOth.out h9 hv9)
                    have HF9 := Lib.hid (HF9.out.other h9.1 HOth.out)
                    have HX9 := Lib.hid (ext_chg X.out h9.1 (fun k hk => by
                      have hgg := HG2.out
                      simp only [List.mem_cons, List.not_mem_nil, or_false] at hk
                      rcases hk with rfl | rfl
                      · omega
                      · rcases hgg with h | h <;> omega))
                    clear h9 hv9 e9
                    go_wp2
                    have hT9 := RoT.of HF9.out HOS9.out (show List.map Prod.snd (os ++ om) = hearO r m 6 (onDoO r m) by rw [HGL.out.2, List.map_append, HOs.out, HMm.out])
                    refine bodyPost_ret (results_box2 Tryz.results39 rfl rfl Tryz.underlying43 (by kernel_rfl) HE9.out) rfl ⟨_, rfl, ?_, HX9.out⟩
                    rw [HGL.out.1]
                    first | exact hT9 | (rw [List.length_append] at hT9; exact hT9)
                · have HQ := Lib.hid (show hearR2 r m 6 (onDoR r m) = R1 ∧ hearO r m 6 (onDoO r m) = O1 from by
                    have hB : ttB r m.view = false := by
                      unfold ttB
                      rw [HtR.out, gl]
                      have h := g7
                      simp at h ⊢
                      exact fun _ h2 => h h2.symm
                    rw [HY.out.1, HY.out.2]
                    unfold onDoR onDoO
                    rw [HdB.out, HdS.out]
                    rw [hB, HtR.out, HtO.out]
                    simp)
                  (go_wp2_with (with_reducible refine wl_stop 81 ?_); refine stop_load (E6.out) rfl Tryz.underlying43 (by kernel_rfl) ?_; simp only [Act.put, List.setIfInBounds_toArray, List.set_cons_zero, List.set_cons_succ])
                  clear d6 dM z6 zM
                  (go_wp2_with (with_reducible refine wl_stopS 43 ?_); refine stop_store ((w.heap.size + 1 + 1)) (Rp.cs a2 A2 q2.length c2 (R1)) rfl rfl (E2.out) (by kernel_rfl) rfl (by simp [Value.oneCell']) ?_)
                  intro W9 e9 k9
                  have X9 := Lib.hid (chg_new X.out k9 (by omega))
                  have HE9 := Lib.hid e9
                  have HT9 := Lib.hid (RoT.of (HF.out.boxed E2.out k9) (FS.out.boxed E2.out (by decide) (by decide) (by decide) (by decide) k9) HOs.out)
                  clear e9 k9
                  go_wp2
                  refine bodyPost_ret (results_box2 Tryz.results39 rfl rfl Tryz.underlying43 (by kernel_rfl) HE9.out) rfl ⟨_, rfl, ?_, X9.out⟩
                  rw [HQ.out.1, HQ.out.2]
                  exact HT9.out
              · have HQ := Lib.hid (show hearR2 r m 6 (onDoR r m) = R1 ∧ hearO r m 6 (onDoO r m) = O1 from by
                  have hB : ttB r m.view = false := by
                    unfold ttB
                    rw [HtR.out, gl]
                    have h := g6
                    simp at h ⊢
                    exact fun h2 => absurd h2 h
                  rw [HY.out.1, HY.out.2]
                  unfold onDoR onDoO
                  rw [HdB.out, HdS.out]
                  rw [hB, HtR.out, HtO.out]
                  simp)
                (go_wp2_with (with_reducible refine wl_stop 81 ?_); refine stop_load (E6.out) rfl Tryz.underlying43 (by kernel_rfl) ?_; simp only [Act.put, List.setIfInBounds_toArray, List.set_cons_zero, List.set_cons_succ])
                clear d6 dM z6 zM
                (go_wp2_with (with_reducible refine wl_stopS 43 ?_); refine stop_store ((w.heap.size + 1 + 1)) (Rp.cs a2 A2 q2.length c2 (R1)) rfl rfl (E2.out) (by kernel_rfl) rfl (by simp [Value.oneCell']) ?_)
                intro W9 e9 k9
                have X9 := Lib.hid (chg_new X.out k9 (by omega))
                have HE9 := Lib.hid e9
                have HT9 := Lib.hid (RoT.of (HF.out.boxed E2.out k9) (FS.out.boxed E2.out (by decide) (by decide) (by decide) (by decide) k9) HOs.out)
                clear e9 k9
                go_wp2
                refine bodyPost_ret (results_box2 Tryz.results39 rfl rfl Tryz.underlying43 (by kernel_rfl) HE9.out) rfl ⟨_, rfl, ?_, X9.out⟩
                rw [HQ.out.1, HQ.out.2]
                exact HT9.out
          · have HQ := Lib.hid (show hearR2 r m 6 (onDoR r m) = r ∧ hearO r m 6 (onDoO r m) = [⟨m.frm, startM r⟩] from by
              have hS : doS r m = true := by unfold doS; rw [h1, h2]; rfl
              rw [HY.out.1, HY.out.2]
              unfold onDoR onDoO
              rw [HdB.out, hS]
              simp)
            go_wp2
            have hq9 : w.heap.size + 1 + 1 < w4.heap.size := bx_lt E2.out
            clear d1 dM1 z1 zM1
            have HW6 := Lib.hid (fun W' (h : (relS (w.heap.size + 1 + 1) (.cells (Rp.cs a1 A1 qs.length c1 r) 43) w4.heap.size hq9).rel w4 W') => cells_mid (cs := Rp.cs a1 A1 qs.length c1 r) (relS_box E6.out (by omega) W' h) [] [] rfl rfl)
            have HWL := Lib.hid (fun W' (h : (relS (w.heap.size + 1 + 1) (.cells (Rp.cs a1 A1 qs.length c1 r) 43) w4.heap.size hq9).rel w4 W') => cells_mid (cs := Lg.cs a r.log) (relS_box E1.out (by omega) W' h) [.int .i64 r.me, .int .i64 r.of, .int .i64 r.mode, .int .i64 r.view, .int .i64 r.normal, .int .i64 r.commit] [.slice A ps.length c, .int .i64 r.cell, .int .i64 r.nonce] rfl rfl)
            (refine Rm.wp_region_mix' (R := relS (w.heap.size + 1 + 1) (.cells (Rp.cs a1 A1 qs.length c1 r) 43) w4.heap.size hq9) (stored (w.heap.size + 1 + 1) (.cells (Rp.cs a1 A1 qs.length c1 r) 43)) (fun _ _ _ _ _ hq => hq) 16 (by first | exact Nat.le_refl _ | omega | (simp; omega)) (by kernel_rfl) (by kernel_rfl) ?_; simp only [List.take_succ_cons, List.take_zero, List.drop_succ_cons, List.drop_zero])
            (refine Rm.wpMix_loadAgg (HW6.out) rfl rfl rfl Tryz.underlying43 (by kernel_rfl) ?_; simp only [Act.put, List.setIfInBounds_toArray, List.set_cons_zero, List.set_cons_succ])
            ((iterate 1 (refine Rm.wpMix_plain rfl rfl ?_; go_big_quiet_step (fail); refine wpQuiet_nil ?_)); (refine Rm.wpMix_load1 (fun W9' h9 => show W9'.cell? _ = some (.int .i64 m.frm) from bx_cell (relS_box EM.out (by omega) W9' h9) 1) rfl rfl rfl Tryz.underlying3 rfl ?_; simp only [Act.put, List.setIfInBounds_toArray, List.set_cons_zero, List.set_cons_succ]); (iterate 1 (refine Rm.wpMix_plain rfl rfl ?_; go_big_quiet_step (fail); refine wpQuiet_nil ?_)); (refine Rm.wpMix_load1 (fun W9' h9 => show W9'.cell? _ = some (.int .i64 r.me) from bx_cell (relS_box E1.out (by omega) W9' h9) 0) rfl rfl rfl Tryz.underlying3 rfl ?_; simp only [Act.put, List.setIfInBounds_toArray, List.set_cons_zero, List.set_cons_succ]); (iterate 1 (refine Rm.wpMix_plain rfl rfl ?_; go_big_quiet_step (fail); refine wpQuiet_nil ?_)); (refine Rm.wpMix_load1 (fun W9' h9 => show W9'.cell? _ = some (.int .i64 r.view) from bx_cell (relS_box E1.out (by omega) W9' h9) 3) rfl rfl rfl Tryz.underlying3 rfl ?_; simp only [Act.put, List.setIfInBounds_toArray, List.set_cons_zero, List.set_cons_succ]); (iterate 1 (refine Rm.wpMix_plain rfl rfl ?_; go_big_quiet_step (fail); refine wpQuiet_nil ?_)); (refine Rm.wpMix_load1 (fun W9' h9 => show W9'.cell? _ = some (.int .i64 r.commit) from bx_cell (relS_box E1.out (by omega) W9' h9) 5) rfl rfl rfl Tryz.underlying3 rfl ?_; simp only [Act.put, List.setIfInBounds_toArray, List.set_cons_zero, List.set_cons_succ]); (iterate 1 (refine Rm.wpMix_plain rfl rfl ?_; go_big_quiet_step (fail); refine wpQuiet_nil ?_)))
            (refine Rm.wpMix_loadAgg (HWL.out) rfl rfl rfl Tryz.underlying40 (by kernel_rfl) ?_; simp only [Act.put, List.setIfInBounds_toArray, List.set_cons_zero, List.set_cons_succ])
            refine Rm.wpMix_call (LgV8 w4.heap.size r.log) rfl rfl rfl (enters Tryz.func103 (by kernel_rfl) rfl) (LgV8.mono _ _ _ _ _) (fun W' hW' => (c_l3Copy a r.log HRs.out W' (HR.out.l.keep (ext_chg X.out hW'.1 (fun g hg => by rw [List.mem_singleton] at hg; omega)))).mono fun e w' ⟨a4, he, hf, hx⟩ => ⟨_, he, ⟨a4, rfl, hf.less hW'.1.size⟩, Rm.Rel.ext _ _ _ hx⟩) rfl (fun v6 hv6 => ?_)
            obtain ⟨_, _, a4, rfl, _⟩ := hv6
            simp only [Act.put, List.setIfInBounds_toArray, List.set_cons_zero, List.set_cons_succ]
            (iterate 2 (refine Rm.wpMix_plain rfl rfl ?_; go_big_quiet_step (fail); refine wpQuiet_nil ?_))
            (refine Rm.wpMix_alloc (.cells (OtE.cells a4 ⟨m.frm, startM r⟩) 100) rfl (fun W => by kernel_rfl) ?_; intro p1 hp1 hps1 hpi1; simp only [layVal, Act.put, List.setIfInBounds_toArray, List.set_cons_zero, List.set_cons_succ])
            refine wpMix_st E2.out rfl rfl rfl rfl rfl (by kernel_rfl) rfl (by simp [Value.oneCell']) ?_
            simp only [Act.put, List.setIfInBounds_toArray, List.set_cons_zero, List.set_cons_succ]
            refine Rm.wpMix_nil ?_
            rintro W9 ⟨⟨⟨h9, hv9⟩, hp9⟩, e9⟩
            have c9 := h9.1
            have HE9 := Lib.hid e9
            have HX9 := Lib.hid (ext_chg X.out c9 (fun g hg => by rw [List.mem_singleton] at hg; omega))
            have HT9 := Lib.hid (RoT.of (B := 0) (HF.out.chg c9 (fun k hk => by rw [List.mem_singleton] at hk; omega)) (OsK.one hp9 (Nat.zero_le _) (hv9.inv.less (Nat.zero_le _))) rfl)
            clear c9 h9 e9 hv9 hp9 hp1 hps1 hpi1
            go_wp2
            refine bodyPost_ret (results_box2 Tryz.results39 rfl rfl Tryz.underlying43 (by kernel_rfl) HE9.out) rfl ⟨_, rfl, ?_, HX9.out⟩
            rw [HQ.out.1, HQ.out.2]
            exact HT9.out
      · have HQ := Lib.hid (show hearR2 r m 6 (onDoR r m) = r ∧ hearO r m 6 (onDoO r m) = [] from by
          have hB : doB r m = false := by
            unfold doB
            rw [gl]
            simp at g2 ⊢
            exact fun h => g2 h.symm
          rw [HY.out.1, HY.out.2]
          unfold onDoR onDoO
          rw [hB]
          simp)
        (refine Rm.wp_region_mix' (R := relE W3.heap.size) (fun _ _ _ => True) (fun _ _ _ _ _ hq => hq) 19 (by first | exact Nat.le_refl _ | omega | (simp; omega)) (by kernel_rfl) (by kernel_rfl) ?_; simp only [List.take_succ_cons, List.take_zero, List.drop_succ_cons, List.drop_zero])
        (refine Rm.wpMix_loadAgg (fun W9' h9 => rp_whole E1.out h9) rfl rfl rfl Tryz.underlying43 (by kernel_rfl) ?_; simp only [Act.put, List.setIfInBounds_toArray, List.set_cons_zero, List.set_cons_succ])
        (refine Rm.wpMix_loadAgg (fun W9' h9 => mg_whole EM.out h9) rfl rfl rfl Tryz.underlying60 (by kernel_rfl) ?_; simp only [Act.put, List.setIfInBounds_toArray, List.set_cons_zero, List.set_cons_succ])
        (refine Rm.wpMix_det rfl rfl rfl (enters Tryz.func64 (by kernel_rfl) rfl) (fun W9' h9 => HHr.out W9' (Ext.trans X.out h9)) rfl ?_; simp only [Act.put, List.setIfInBounds_toArray, List.set_cons_zero, List.set_cons_succ])
        ((try simp only [qh, Bool.not_true, Bool.not_false]); (iterate 2 (refine Rm.wpMix_plain rfl rfl ?_; go_big_quiet_step (fail); refine wpQuiet_nil ?_)))
        (refine Rm.wpMix_loadAgg (fun W9' h9 => rp_whole E1.out h9) rfl rfl rfl Tryz.underlying43 (by kernel_rfl) ?_; simp only [Act.put, List.setIfInBounds_toArray, List.set_cons_zero, List.set_cons_succ])
        (refine Rm.wpMix_det rfl rfl rfl (enters Tryz.func65 (by kernel_rfl) rfl) (fun W9' h9 => c_l6Live a A ps.length c r W9') rfl ?_; simp only [Act.put, List.setIfInBounds_toArray, List.set_cons_zero, List.set_cons_succ])
        ((try simp only [gl, Bool.not_true, Bool.not_false]); (iterate 3 (refine Rm.wpMix_plain rfl rfl ?_; go_big_quiet_step (fail); refine wpQuiet_nil ?_)); (iterate 1 (refine Rm.wpMix_plain rfl rfl ?_; go_big_quiet_step (fail); refine wpQuiet_nil ?_)); (refine Rm.wpMix_load1 (fun W9' h9 => show W9'.cell? _ = some (.int .i64 m.view) from bx_cell (Ext.box h9 EM.out) 2) rfl rfl rfl Tryz.underlying3 rfl ?_; simp only [Act.put, List.setIfInBounds_toArray, List.set_cons_zero, List.set_cons_succ]); (iterate 1 (refine Rm.wpMix_plain rfl rfl ?_; go_big_quiet_step (fail); refine wpQuiet_nil ?_)); (refine Rm.wpMix_load1 (fun W9' h9 => show W9'.cell? _ = some (.int .i64 r.of) from bx_cell (Ext.box h9 E1.out) 1) rfl rfl rfl Tryz.underlying3 rfl ?_; simp only [Act.put, List.setIfInBounds_toArray, List.set_cons_zero, List.set_cons_succ]))
        (refine Rm.wpMix_det rfl rfl rfl (enters Tryz.func68 (by kernel_rfl) rfl) (fun W9' h9 => c_sPrimaryOf m.view r.of W9' HVm.out HIV.out.2) rfl ?_; simp only [Act.put, List.setIfInBounds_toArray, List.set_cons_zero, List.set_cons_succ])
        ((iterate 1 (refine Rm.wpMix_plain rfl rfl ?_; go_big_quiet_step (fail); refine wpQuiet_nil ?_)); (refine Rm.wpMix_load1 (fun W9' h9 => show W9'.cell? _ = some (.int .i64 r.me) from bx_cell (Ext.box h9 E1.out) 0) rfl rfl rfl Tryz.underlying3 rfl ?_; simp only [Act.put, List.setIfInBounds_toArray, List.set_cons_zero, List.set_cons_succ]); (iterate 1 (refine Rm.wpMix_plain rfl rfl ?_; go_big_quiet_step (fail); refine wpQuiet_nil ?_)); (try simp only [g2, Bool.not_true, Bool.not_false]); (iterate 1 (refine Rm.wpMix_plain rfl rfl ?_; go_big_quiet_step (fail); refine wpQuiet_nil ?_)))
        refine Rm.wpMix_nil ?_
        rintro w4 hW
        have x : Ext W3 w4 := hW
        obtain ⟨E1, EM, E2, E6, HF, FS, X⟩ : Hid _ ∧ Hid _ ∧ Hid _ ∧ Hid _ ∧ Hid _ ∧ Hid _ ∧ Hid _ := ⟨Lib.hid (x.box E1.out), Lib.hid (x.box EM.out), Lib.hid (x.box E2.out), Lib.hid (x.box E6.out), Lib.hid (HF.out.keep x), Lib.hid (FS.out.keep x), Lib.hid (Ext.trans X.out x)⟩
        have hz_w4 := x.size
        clear x hW
        clear HHr
        rw [HS3.out] at E6 HF
        (go_wp2_with (with_reducible refine wl_stop 32 ?_); refine stop_load (E6.out) rfl Tryz.underlying43 (by kernel_rfl) ?_; simp only [Act.put, List.setIfInBounds_toArray, List.set_cons_zero, List.set_cons_succ])
        (go_wp2_with (with_reducible refine wl_stopS 43 ?_); refine stop_store ((w.heap.size + 1 + 1)) (Rp.cs a1 A1 qs.length c1 (r)) rfl rfl (E2.out) (by kernel_rfl) rfl (by simp [Value.oneCell']) ?_)
        intro W9 e9 k9
        have X9 := Lib.hid (chg_new X.out k9 (by omega))
        have HE9 := Lib.hid e9
        have HT9 := Lib.hid (RoT.of (HF.out.boxed E2.out k9) (FS.out.boxed E2.out (by decide) (by decide) (by decide) (by decide) k9) rfl)
        clear e9 k9
        go_wp2
        refine bodyPost_ret (results_box2 Tryz.results39 rfl rfl Tryz.underlying43 (by kernel_rfl) HE9.out) rfl ⟨_, rfl, ?_, X9.out⟩
        rw [HQ.out.1, HQ.out.2]
        exact HT9.out
end Go.Proofs.YtkenlhdiehaemaaGreat
