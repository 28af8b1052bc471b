/- OnCommit, OnStart, OnState of the reference. -/
import Derived.Test.YtkenlhdiehaemaaGreatGi
namespace Go.Proofs.YtkenlhdiehaemaaGreat
open Go.ChangeShapes Go.WideShapes Go.ChangeAt Go.RowKit Go.Sort
set_option linter.unusedVariables false
set_option linter.unusedSimpArgs false

set_option maxRecDepth 100000 in
set_option maxHeartbeats 16000000 in
theorem c_sOnCommit (a : LAd) (A : Option Addr) (c : Nat) (ps : List VtE) (r : Rp) (am : LAd) (m : Mg) (w : World) (hr : RpR w a A c ps r) (hs : r.log.small) (hn : ps.length ≤ 1048576) (hv : LgS ps) (hm : LgR w am m.log) (hms : m.log.small) :
    Calls Tryz.prog 22 #[Rp.val a A ps.length c r, Mg.val am m] w fun e w' => ∃ v, e = .returned v ∧ RoT w' (hearR2 r m 4 (commitR r m)) (hearO r m 4 (commitO r m)) v ∧ Ext w w' := by
  have X0 : Ext w (((w.alloc (Rp.obj a A ps.length c r)).alloc (Mg.obj am m)).alloc Rp.zobj) := ext_to (ext_to (ext_alloc _ _) _) _
  have HSm := Lib.hid (c_l6Same a A c ps r _ (hr.keep X0) hs hn hv)
  have HHr := Lib.hid (fun W (h : Ext w W) => c_l6Hears a A c ps r am m 4 W (hr.keep h) hs hn hv (hm.keep h) hms)
  have D1 := Lib.hid (hOld (o := Rp.zobj) (hOld (o := Mg.obj am m) (hNew (w := w) (o := Rp.obj a A ps.length c r) rfl)))
  have D2 := Lib.hid (hOld (o := Rp.zobj) (hNew (w := w.alloc (Rp.obj a A ps.length c r)) (o := Mg.obj am m) (k := w.heap.size + 1) (by simp)))
  have D3 := Lib.hid (hNew (w := (w.alloc (Rp.obj a A ps.length c r)).alloc (Mg.obj am m)) (o := Rp.zobj) (k := w.heap.size + 1 + 1) (by simp))
  have HX0 := Lib.hid X0
  have HR := Lib.hid hr
  have HM := Lib.hid hm
  have HMs := Lib.hid hms
  have HRs := Lib.hid hs
  have hheq : sHearB r m 4 = hearB r m 4 := (hear_eq (by decide +kernel) (by decide +kernel) rfl).symm
  have HHe := Lib.hid hheq
  clear X0 hr hv hm hheq hms hs
  go_enter Tryz.func22, Tryz.ntmps22
  (go_wp2_with (with_reducible refine wl_stop 9 ?_); refine stop_load (D1.out) rfl Tryz.underlying43 (by kernel_rfl) ?_; simp only [Act.put, List.setIfInBounds_toArray, List.set_cons_zero, List.set_cons_succ])
  go_wp2_with fail
  refine HSm.out.mono ?_
  rintro e w1 ⟨v1, rfl, ⟨a1, A1, c1, qs, rfl, f1⟩, x1⟩
  have HF1 := Lib.hid f1
  have X1 := Lib.hid (Ext.trans HX0.out x1)
  have XO := Lib.hid (show Ext w1 ((w1.alloc (.cells #[] 100)).alloc Rp.zobj) from ext_to (ext_alloc _ _) _)
  have B1 := Lib.hid (XO.out.box (x1.box D1.out))
  have B2 := Lib.hid (XO.out.box (x1.box D2.out))
  have B3 := Lib.hid (XO.out.box (x1.box D3.out))
  have BS := Lib.hid (hOld (o := Rp.zobj) (hNew (w := w1) (o := .cells #[] 100) rfl))
  have Z1 := Lib.hid (hNew (w := w1.alloc (.cells #[] 100)) (o := Rp.zobj) (k := w1.heap.size + 1) (by simp))
  have hs1 := x1.size
  simp only [sz_alloc] at hs1
  clear f1 x1 D1 D2 D3 HX0 HSm
  (go_wp2_with (with_reducible refine wl_stopS 43 ?_); refine stop_store ((w1.heap.size + 1)) (Rp.cs a1 A1 qs.length c1 (sameR r)) rfl rfl (Z1.out) (by kernel_rfl) rfl (by simp [Value.oneCell']) ?_)
  intro W3 e3 k3
  have x3 : Ext w1 W3 := ext_chg XO.out k3 (fun g hg => by rw [List.mem_singleton] at hg; omega)
  have E3 := Lib.hid e3
  have F1 := Lib.hid (box_chg B1.out k3 (by omega))
  have F2 := Lib.hid (box_chg B2.out k3 (by omega))
  have F3 := Lib.hid (box_chg B3.out k3 (by omega))
  have FS := Lib.hid (OsK.nil (B := w.heap.size + 1 + 1 + 1) (box_chg BS.out k3 (by omega)) (by omega))
  have HF3 := Lib.hid ((HF1.out.keep x3).less (B' := w.heap.size + 1 + 1 + 1) (by simp))
  have X3 := Lib.hid (Ext.trans X1.out x3)
  have hs3 := bx_lt e3
  clear e3 k3 x3 Z1 B1 B2 B3 BS HF1 X1 XO
  (go_wp2_with (with_reducible refine wl_stop 12 ?_); refine stop_load (F1.out) rfl Tryz.underlying43 (by kernel_rfl) ?_; simp only [Act.put, List.setIfInBounds_toArray, List.set_cons_zero, List.set_cons_succ])
  (go_wp2_with (with_reducible refine wl_stop 13 ?_); refine stop_load (F2.out) rfl Tryz.underlying60 (by kernel_rfl) ?_; simp only [Act.put, List.setIfInBounds_toArray, List.set_cons_zero, List.set_cons_succ])
  go_wp2_with fail
  refine (HHr.out _ X3.out).mono ?_
  rintro e w4 ⟨rfl, x⟩
  obtain ⟨F1, F2, F3, E3, FS, HF3, X3⟩ : Hid _ ∧ Hid _ ∧ Hid _ ∧ Hid _ ∧ Hid _ ∧ Hid _ ∧ Hid _ := ⟨Lib.hid (x.box F1.out), Lib.hid (x.box F2.out), Lib.hid (x.box F3.out), Lib.hid (x.box E3.out), Lib.hid (FS.out.keep x), Lib.hid (HF3.out.keep x), Lib.hid (Ext.trans X3.out x)⟩
  have hsz_w4 := x.size
  clear x
  clear HHr
  cases qh : (rpOk r && sHearB r m 4)
  · have HQ := Lib.hid (hearR2_no (R2 := commitR r m) (O := commitO r m) (by rw [← HHe.out]; exact qh))
    (go_wp2_with (with_reducible refine wl_stop 21 ?_); refine stop_load (E3.out) rfl Tryz.underlying43 (by kernel_rfl) ?_; simp only [Act.put, List.setIfInBounds_toArray, List.set_cons_zero, List.set_cons_succ])
    (go_wp2_with (with_reducible refine wl_stopS 43 ?_); refine stop_store ((w.heap.size + 1 + 1)) (Rp.cs a1 A1 qs.length c1 (sameR r)) rfl rfl (F3.out) (by kernel_rfl) rfl (by simp [Value.oneCell']) ?_)
    intro W9 e9 k9
    have X9 := Lib.hid (chg_new X3.out k9 (by omega))
    have HE9 := Lib.hid e9
    have HT9 := Lib.hid (RoT.of (O := []) (HF3.out.boxed F3.out k9) (FS.out.boxed F3.out (by decide) (by decide) (by decide) (by decide) k9) rfl)
    clear e9 k9
    go_wp2
    refine bodyPost_ret (results_box2 Tryz.results22 rfl rfl Tryz.underlying43 (by kernel_rfl) HE9.out) rfl ⟨_, rfl, ?_, X9.out⟩
    rw [HQ.out.1, HQ.out.2]
    exact HT9.out
  · obtain ⟨hy1, hy2, hy3⟩ := hearR2_yes (r := r) (m := m) (kind := 4) (R2 := commitR r m) (O := commitO r m) (by rw [← HHe.out]; exact qh)
    have HY := Lib.hid (And.intro hy1 hy2)
    have HS3 := Lib.hid hy3
    obtain ⟨hq1, hq2, hq3⟩ := hear_facts (show (rpOk r && hearB r m 4) = true by rw [← HHe.out]; exact qh)
    have G := Lib.hid (rpOk_good hq1)
    have HIV := Lib.hid (rpOk_in hq1)
    clear hy1 hy2 hy3
    clear hq1 hq2 hq3
    (go_wp2_with (with_reducible refine wl_stop 17 ?_); refine stop_loadG (F1.out) rfl rfl Tryz.underlying43 (by kernel_rfl) ?_; simp only [Act.put, List.setIfInBounds_toArray, List.set_cons_zero, List.set_cons_succ])
    go_wp2_with fail
    refine (c_l6Live a _ _ _ r _).mono ?_
    rintro e w5 ⟨rfl, x⟩
    obtain ⟨F1, F2, F3, E3, FS, HF3, X3⟩ : Hid _ ∧ Hid _ ∧ Hid _ ∧ Hid _ ∧ Hid _ ∧ Hid _ ∧ Hid _ := ⟨Lib.hid (x.box F1.out), Lib.hid (x.box F2.out), Lib.hid (x.box F3.out), Lib.hid (x.box E3.out), Lib.hid (FS.out.keep x), Lib.hid (HF3.out.keep x), Lib.hid (Ext.trans X3.out x)⟩
    have hsz_w5 := x.size
    clear x
    cases gl : liveB r
    · have HQ := Lib.hid (show hearR2 r m 4 (commitR r m) = sameR r ∧ hearO r m 4 (commitO r m) = [] by
      rw [HY.out.1, HY.out.2, HS3.out]
      constructor <;> simp only [commitR, commitO, followO, followB, gl, Bool.true_and, Bool.false_and, Bool.and_true, Bool.and_false, Bool.true_or, Bool.false_or, Bool.or_true, Bool.or_false, Bool.not_true, Bool.not_false, Bool.false_eq_true, if_false, eq_self, if_true, List.append_nil, List.nil_append])
      (go_wp2_with (with_reducible refine wl_stop 21 ?_); refine stop_load (E3.out) rfl Tryz.underlying43 (by kernel_rfl) ?_; simp only [Act.put, List.setIfInBounds_toArray, List.set_cons_zero, List.set_cons_succ])
      (go_wp2_with (with_reducible refine wl_stopS 43 ?_); refine stop_store ((w.heap.size + 1 + 1)) (Rp.cs a1 A1 qs.length c1 (sameR r)) rfl rfl (F3.out) (by kernel_rfl) rfl (by simp [Value.oneCell']) ?_)
      intro W9 e9 k9
      have X9 := Lib.hid (chg_new X3.out k9 (by omega))
      have HE9 := Lib.hid e9
      have HT9 := Lib.hid (RoT.of (O := []) (HF3.out.boxed F3.out k9) (FS.out.boxed F3.out (by decide) (by decide) (by decide) (by decide) k9) rfl)
      clear e9 k9
      go_wp2
      refine bodyPost_ret (results_box2 Tryz.results22 rfl rfl Tryz.underlying43 (by kernel_rfl) HE9.out) rfl ⟨_, rfl, ?_, X9.out⟩
      rw [HQ.out.1, HQ.out.2]
      exact HT9.out
    · have d1 := bx_cell F1.out
      have d2 := bx_cell F2.out
      have z1 := bx_lt F1.out
      have z2 := bx_lt F2.out
      cases g0 : decide (r.view < m.view)
      · cases g1 : (m.view != r.view)
        · cases g2 : (r.mode != 1)
          · cases g3 : leadsB r
            · cases g4 : (r.view % r.of != m.frm)
              · have hv1 : (m.view == r.view) = true := by simpa using g1
                have hm1 : (r.mode == 1) = true := by simpa using g2
                have hf1 : (m.frm == r.view % r.of) = true := by simp at g4 ⊢; exact g4.symm
                go_wp2
                clear d1 d2 z1 z2
                (refine Rm.wp_region_mix' (R := relE w5.heap.size) (fun _ _ _ => True) (fun _ _ _ _ _ hq => hq) 24 (by first | exact Nat.le_refl _ | omega | (simp; omega)) (by kernel_rfl) (by kernel_rfl) ?_; simp only [List.take_succ_cons, List.take_zero, List.drop_succ_cons, List.drop_zero])
                ((iterate 1 (refine Rm.wpMix_plain rfl rfl ?_; go_big_quiet_step (fail); refine wpQuiet_nil ?_)); (refine Rm.wpMix_load1 (fun W9' h9 => show W9'.cell? _ = some (.int .i64 m.view) from bx_cell (Ext.box h9 F2.out) 2) rfl rfl rfl Tryz.underlying3 rfl ?_; simp only [Act.put, List.setIfInBounds_toArray, List.set_cons_zero, List.set_cons_succ]); (iterate 1 (refine Rm.wpMix_plain rfl rfl ?_; go_big_quiet_step (fail); refine wpQuiet_nil ?_)); (refine Rm.wpMix_load1 (fun W9' h9 => show W9'.cell? _ = some (.int .i64 r.view) from bx_cell (Ext.box h9 F1.out) 3) rfl rfl rfl Tryz.underlying3 rfl ?_; simp only [Act.put, List.setIfInBounds_toArray, List.set_cons_zero, List.set_cons_succ]); (iterate 1 (refine Rm.wpMix_plain rfl rfl ?_; go_big_quiet_step (fail); refine wpQuiet_nil ?_)); (try simp only [g1, Bool.not_true, Bool.not_false]); (iterate 1 (refine Rm.wpMix_plain rfl rfl ?_; go_big_quiet_step (fail); refine wpQuiet_nil ?_)); (iterate 1 (refine Rm.wpMix_plain rfl rfl ?_; go_big_quiet_step (fail); refine wpQuiet_nil ?_)); (refine Rm.wpMix_load1 (fun W9' h9 => show W9'.cell? _ = some (.int .i64 r.mode) from bx_cell (Ext.box h9 F1.out) 2) rfl rfl rfl Tryz.underlying3 rfl ?_; simp only [Act.put, List.setIfInBounds_toArray, List.set_cons_zero, List.set_cons_succ]); (iterate 1 (refine Rm.wpMix_plain rfl rfl ?_; go_big_quiet_step (fail); refine wpQuiet_nil ?_)); (try simp only [g2, Bool.not_true, Bool.not_false]); (iterate 2 (refine Rm.wpMix_plain rfl rfl ?_; go_big_quiet_step (fail); refine wpQuiet_nil ?_)))
                (refine Rm.wpMix_loadAgg (fun W9' h9 => rp_whole F1.out h9) rfl rfl rfl Tryz.underlying43 (by kernel_rfl) ?_; simp only [Act.put, List.setIfInBounds_toArray, List.set_cons_zero, List.set_cons_succ])
                (refine Rm.wpMix_det rfl rfl rfl (enters Tryz.func67 (by kernel_rfl) rfl) (fun W9' h9 => c_l6Leads a A _ c r W9' HIV.out.1 HIV.out.2) rfl ?_; simp only [Act.put, List.setIfInBounds_toArray, List.set_cons_zero, List.set_cons_succ])
                ((try simp only [g3, Bool.not_true, Bool.not_false]); (iterate 2 (refine Rm.wpMix_plain rfl rfl ?_; go_big_quiet_step (fail); refine wpQuiet_nil ?_)); (iterate 1 (refine Rm.wpMix_plain rfl rfl ?_; go_big_quiet_step (fail); refine wpQuiet_nil ?_)); (refine Rm.wpMix_load1 (fun W9' h9 => show W9'.cell? _ = some (.int .i64 r.view) from bx_cell (Ext.box h9 F1.out) 3) rfl rfl rfl Tryz.underlying3 rfl ?_; simp only [Act.put, List.setIfInBounds_toArray, List.set_cons_zero, List.set_cons_succ]); (iterate 1 (refine Rm.wpMix_plain rfl rfl ?_; go_big_quiet_step (fail); refine wpQuiet_nil ?_)); (refine Rm.wpMix_load1 (fun W9' h9 => show W9'.cell? _ = some (.int .i64 r.of) from bx_cell (Ext.box h9 F1.out) 1) rfl rfl rfl Tryz.underlying3 rfl ?_; simp only [Act.put, List.setIfInBounds_toArray, List.set_cons_zero, List.set_cons_succ]))
                (refine Rm.wpMix_det rfl rfl rfl (enters Tryz.func68 (by kernel_rfl) rfl) (fun W9' h9 => c_sPrimaryOf r.view r.of W9' HIV.out.1 HIV.out.2) rfl ?_; simp only [Act.put, List.setIfInBounds_toArray, List.set_cons_zero, List.set_cons_succ])
                ((iterate 1 (refine Rm.wpMix_plain rfl rfl ?_; go_big_quiet_step (fail); refine wpQuiet_nil ?_)); (refine Rm.wpMix_load1 (fun W9' h9 => show W9'.cell? _ = some (.int .i64 m.frm) from bx_cell (Ext.box h9 F2.out) 1) rfl rfl rfl Tryz.underlying3 rfl ?_; simp only [Act.put, List.setIfInBounds_toArray, List.set_cons_zero, List.set_cons_succ]); (iterate 1 (refine Rm.wpMix_plain rfl rfl ?_; go_big_quiet_step (fail); refine wpQuiet_nil ?_)); (try simp only [g4, Bool.not_true, Bool.not_false]); (iterate 1 (refine Rm.wpMix_plain rfl rfl ?_; go_big_quiet_step (fail); refine wpQuiet_nil ?_)))
                refine Rm.wpMix_nil ?_
                rintro w6 hW
                have x : Ext w5 w6 := hW
                obtain ⟨F1, F2, F3, E3, FS, HF3, X3⟩ : Hid _ ∧ Hid _ ∧ Hid _ ∧ Hid _ ∧ Hid _ ∧ Hid _ ∧ Hid _ := ⟨Lib.hid (x.box F1.out), Lib.hid (x.box F2.out), Lib.hid (x.box F3.out), Lib.hid (x.box E3.out), Lib.hid (FS.out.keep x), Lib.hid (HF3.out.keep x), Lib.hid (Ext.trans X3.out x)⟩
                have hsz_w6 := x.size
                clear x hW
                (go_wp2_with (with_reducible refine wl_stop 64 ?_); refine stop_loadAgg (rp_log F1.out (ext_refl _)) rfl Tryz.underlying40 (by kernel_rfl) ?_; simp only [Act.put, List.setIfInBounds_toArray, List.set_cons_zero, List.set_cons_succ])
                go_wp2_with fail
                refine (c_sLogEnd a r.log HRs.out.1 HRs.out.2.1 HRs.out.2.2 _ (HR.out.l.keep X3.out) G.out.lok).mono ?_
                rintro e w7 ⟨rfl, x⟩
                obtain ⟨F1, F2, F3, E3, FS, HF3, X3⟩ : Hid _ ∧ Hid _ ∧ Hid _ ∧ Hid _ ∧ Hid _ ∧ Hid _ ∧ Hid _ := ⟨Lib.hid (x.box F1.out), Lib.hid (x.box F2.out), Lib.hid (x.box F3.out), Lib.hid (x.box E3.out), Lib.hid (FS.out.keep x), Lib.hid (HF3.out.keep x), Lib.hid (Ext.trans X3.out x)⟩
                have hsz_w7 := x.size
                clear x
                have d1 := bx_cell F1.out
                have d2 := bx_cell F2.out
                have z1 := bx_lt F1.out
                have z2 := bx_lt F2.out
                cases g5 : decide (r.log.fin < m.commit)
                · have HQ := Lib.hid (show hearR2 r m 4 (commitR r m) = r.upTo m.commit ∧ hearO r m 4 (commitO r m) = [] by
                  rw [HY.out.1, HY.out.2]
                  constructor <;> simp only [commitR, commitO, followO, followB, gl, g0, hv1, hm1, g3, hf1, g5, Bool.true_and, Bool.false_and, Bool.and_true, Bool.and_false, Bool.true_or, Bool.false_or, Bool.or_true, Bool.or_false, Bool.not_true, Bool.not_false, Bool.false_eq_true, if_false, if_true, eq_self, List.append_nil, List.nil_append])
                  go_wp2
                  clear d1 d2 z1 z2
                  (refine Rm.wp_region_mix' (R := relE w7.heap.size) (fun _ _ _ => True) (fun _ _ _ _ _ hq => hq) 8 (by first | exact Nat.le_refl _ | omega | (simp; omega)) (by kernel_rfl) (by kernel_rfl) ?_; simp only [List.take_succ_cons, List.take_zero, List.drop_succ_cons, List.drop_zero])
                  ((iterate 1 (refine Rm.wpMix_plain rfl rfl ?_; go_big_quiet_step (fail); refine wpQuiet_nil ?_)); (refine Rm.wpMix_load1 (fun W9' h9 => show W9'.cell? _ = some (.int .i64 r.commit) from bx_cell (Ext.box h9 F1.out) 5) rfl rfl rfl Tryz.underlying3 rfl ?_; simp only [Act.put, List.setIfInBounds_toArray, List.set_cons_zero, List.set_cons_succ]); (iterate 1 (refine Rm.wpMix_plain rfl rfl ?_; go_big_quiet_step (fail); refine wpQuiet_nil ?_)); (refine Rm.wpMix_load1 (fun W9' h9 => show W9'.cell? _ = some (.int .i64 m.commit) from bx_cell (Ext.box h9 F2.out) 4) rfl rfl rfl Tryz.underlying3 rfl ?_; simp only [Act.put, List.setIfInBounds_toArray, List.set_cons_zero, List.set_cons_succ]); (iterate 1 (refine Rm.wpMix_plain rfl rfl ?_; go_big_quiet_step (fail); refine wpQuiet_nil ?_)))
                  (refine Rm.wpMix_det rfl rfl rfl (enters Tryz.func71 (by kernel_rfl) rfl) (fun W9' h9 => c_l1Min m.commit r.log.fin W9') rfl ?_; simp only [Act.put, List.setIfInBounds_toArray, List.set_cons_zero, List.set_cons_succ])
                  (refine Rm.wpMix_det rfl rfl rfl (enters Tryz.func70 (by kernel_rfl) rfl) (fun W9' h9 => c_l1Max r.commit (min m.commit r.log.fin) W9') rfl ?_; simp only [Act.put, List.setIfInBounds_toArray, List.set_cons_zero, List.set_cons_succ])
                  ((iterate 1 (refine Rm.wpMix_plain rfl rfl ?_; go_big_quiet_step (fail); refine wpQuiet_nil ?_)))
                  refine Rm.wpMix_nil ?_
                  rintro w8 hW
                  have x : Ext w7 w8 := hW
                  obtain ⟨F1, F2, F3, E3, FS, HF3, X3⟩ : Hid _ ∧ Hid _ ∧ Hid _ ∧ Hid _ ∧ Hid _ ∧ Hid _ ∧ Hid _ := ⟨Lib.hid (x.box F1.out), Lib.hid (x.box F2.out), Lib.hid (x.box F3.out), Lib.hid (x.box E3.out), Lib.hid (FS.out.keep x), Lib.hid (HF3.out.keep x), Lib.hid (Ext.trans X3.out x)⟩
                  have hsz_w8 := x.size
                  clear x hW
                  rw [HS3.out] at E3 HF3
                  have b8 := bx_cell E3.out
                  have f8 := bx_frozen E3.out
                  have l8 := bx_lt E3.out
                  have P8 := box_put E3.out 5 (.int .i64 (max r.commit (min m.commit r.log.fin)))
                  simp only [List.setIfInBounds_toArray, List.set_cons_zero, List.set_cons_succ] at P8
                  have c8 := chg_set (Chg.refl w8 [w1.heap.size + 1]) (p := ⟨w1.heap.size + 1, 5, none⟩) (by simp) (.int .i64 (max r.commit (min m.commit r.log.fin)))
                  have hf8 := HF3.out.boxed E3.out c8
                  have HP8 := Lib.hid P8
                  have HF8 := Lib.hid (show RpF _ (w.heap.size + 1 + 1 + 1) a1 A1 c1 qs (r.upTo m.commit) from ⟨hf8.l, hf8.v, hf8.vl, hf8.e⟩)
                  have FS8 := Lib.hid (FS.out.boxed E3.out (by decide) (by decide) (by decide) (by decide) c8)
                  have F38 := Lib.hid (box_out' F3.out c8 (by simp; omega))
                  have X8 := Lib.hid (ext_chg X3.out c8 (fun g hg => by rw [List.mem_singleton] at hg; omega))
                  clear P8 c8 hf8 F3 E3 FS HF3 X3 F1 F2
                  go_wp2_with (with_reducible refine wl_stop 85 ?_)
                  refine stop_go (F := fun W => W.heap[w1.heap.size + 1]? = some (.cells (Rp.cs a1 A1 qs.length c1 (r.upTo m.commit)) 43) ∧ RpF W (w.heap.size + 1 + 1 + 1) a1 A1 c1 qs (r.upTo m.commit) ∧ OsK W (w.heap.size + 1 + 1 + 1) (some ⟨w1.heap.size, 0, none⟩) 0 [] ∧ W.heap[w.heap.size + 1 + 1]? = some Rp.zobj ∧ Ext w W ∧ w1.heap.size + 1 < W.heap.size) ⟨HP8.out, HF8.out, FS8.out, F38.out, X8.out, by simpa using l8⟩ ?_
                  intro W8 ⟨e3, hf3, fs, f3, x3, l9⟩
                  have E3 := Lib.hid e3
                  have HF3 := Lib.hid hf3
                  have FS := Lib.hid fs
                  have F3 := Lib.hid f3
                  have X3 := Lib.hid x3
                  clear e3 hf3 fs f3 x3 HP8 HF8 FS8 F38 X8 b8 f8 l8
                  (go_wp2_with (with_reducible refine wl_stop 85 ?_); refine stop_load (E3.out) rfl Tryz.underlying43 (by kernel_rfl) ?_; simp only [Act.put, List.setIfInBounds_toArray, List.set_cons_zero, List.set_cons_succ])
                  (go_wp2_with (with_reducible refine wl_stopS 43 ?_); refine stop_store ((w.heap.size + 1 + 1)) (Rp.cs a1 A1 qs.length c1 (r.upTo m.commit)) rfl rfl (F3.out) (by kernel_rfl) rfl (by simp [Value.oneCell']) ?_)
                  intro W9 e9 k9
                  have X9 := Lib.hid (chg_new X3.out k9 (by omega))
                  have HE9 := Lib.hid e9
                  have HT9 := Lib.hid (RoT.of (O := []) (HF3.out.boxed F3.out k9) (FS.out.boxed F3.out (by decide) (by decide) (by decide) (by decide) k9) rfl)
                  clear e9 k9
                  go_wp2
                  refine bodyPost_ret (results_box2 Tryz.results22 rfl rfl Tryz.underlying43 (by kernel_rfl) HE9.out) rfl ⟨_, rfl, ?_, X9.out⟩
                  rw [HQ.out.1, HQ.out.2]
                  exact HT9.out
                · have HQ := Lib.hid (show hearR2 r m 4 (commitR r m) = r.upTo m.commit ∧ hearO r m 4 (commitO r m) = [⟨m.frm, askM2 r r.view r.log.fin⟩] by
                  rw [HY.out.1, HY.out.2]
                  constructor <;> simp only [commitR, commitO, followO, followB, gl, g0, hv1, hm1, g3, hf1, g5, Bool.true_and, Bool.false_and, Bool.and_true, Bool.and_false, Bool.true_or, Bool.false_or, Bool.or_true, Bool.or_false, Bool.not_true, Bool.not_false, Bool.false_eq_true, if_false, if_true, eq_self, List.append_nil, List.nil_append])
                  (go_wp2_with (with_reducible refine wl_stop 70 ?_); refine stop_load (F1.out) rfl Tryz.underlying43 (by kernel_rfl) ?_; simp only [Act.put, List.setIfInBounds_toArray, List.set_cons_zero, List.set_cons_succ])
                  go_wp2_with fail
                  refine (c_l6Ask a A _ c r r.view r.log.fin m.frm _).mono ?_
                  rintro e w8 ⟨⟨pk, rfl, hpk, ok8⟩, x⟩
                  have OK8 := Lib.hid (show OsK w8 (w.heap.size + 1 + 1 + 1) (some ⟨pk, 0, none⟩) 1 [(LAd.none, (⟨m.frm, askM2 r r.view r.log.fin⟩ : Ot))] from ok8.less (by omega))
                  obtain ⟨F1, F2, F3, E3, HF3, X3⟩ : Hid _ ∧ Hid _ ∧ Hid _ ∧ Hid _ ∧ Hid _ ∧ Hid _ := ⟨Lib.hid (x.box F1.out), Lib.hid (x.box F2.out), Lib.hid (x.box F3.out), Lib.hid (x.box E3.out), Lib.hid (HF3.out.keep x), Lib.hid (Ext.trans X3.out x)⟩
                  have hsz_w8 := x.size
                  clear x FS d1 d2 z1 z2 ok8
                  have FS := OK8
                  clear OK8
                  have d1 := bx_cell F1.out
                  have d2 := bx_cell F2.out
                  have z1 := bx_lt F1.out
                  have z2 := bx_lt F2.out
                  go_wp2
                  clear d1 d2 z1 z2
                  (refine Rm.wp_region_mix' (R := relE w8.heap.size) (fun _ _ _ => True) (fun _ _ _ _ _ hq => hq) 8 (by first | exact Nat.le_refl _ | omega | (simp; omega)) (by kernel_rfl) (by kernel_rfl) ?_; simp only [List.take_succ_cons, List.take_zero, List.drop_succ_cons, List.drop_zero])
                  ((iterate 1 (refine Rm.wpMix_plain rfl rfl ?_; go_big_quiet_step (fail); refine wpQuiet_nil ?_)); (refine Rm.wpMix_load1 (fun W9' h9 => show W9'.cell? _ = some (.int .i64 r.commit) from bx_cell (Ext.box h9 F1.out) 5) rfl rfl rfl Tryz.underlying3 rfl ?_; simp only [Act.put, List.setIfInBounds_toArray, List.set_cons_zero, List.set_cons_succ]); (iterate 1 (refine Rm.wpMix_plain rfl rfl ?_; go_big_quiet_step (fail); refine wpQuiet_nil ?_)); (refine Rm.wpMix_load1 (fun W9' h9 => show W9'.cell? _ = some (.int .i64 m.commit) from bx_cell (Ext.box h9 F2.out) 4) rfl rfl rfl Tryz.underlying3 rfl ?_; simp only [Act.put, List.setIfInBounds_toArray, List.set_cons_zero, List.set_cons_succ]); (iterate 1 (refine Rm.wpMix_plain rfl rfl ?_; go_big_quiet_step (fail); refine wpQuiet_nil ?_)))
                  (refine Rm.wpMix_det rfl rfl rfl (enters Tryz.func71 (by kernel_rfl) rfl) (fun W9' h9 => c_l1Min m.commit r.log.fin W9') rfl ?_; simp only [Act.put, List.setIfInBounds_toArray, List.set_cons_zero, List.set_cons_succ])
                  (refine Rm.wpMix_det rfl rfl rfl (enters Tryz.func70 (by kernel_rfl) rfl) (fun W9' h9 => c_l1Max r.commit (min m.commit r.log.fin) W9') rfl ?_; simp only [Act.put, List.setIfInBounds_toArray, List.set_cons_zero, List.set_cons_succ])
                  ((iterate 1 (refine Rm.wpMix_plain rfl rfl ?_; go_big_quiet_step (fail); refine wpQuiet_nil ?_)))
                  refine Rm.wpMix_nil ?_
                  rintro w9 hW
                  have x : Ext w8 w9 := hW
                  obtain ⟨F1, F2, F3, E3, FS, HF3, X3⟩ : Hid _ ∧ Hid _ ∧ Hid _ ∧ Hid _ ∧ Hid _ ∧ Hid _ ∧ Hid _ := ⟨Lib.hid (x.box F1.out), Lib.hid (x.box F2.out), Lib.hid (x.box F3.out), Lib.hid (x.box E3.out), Lib.hid (FS.out.keep x), Lib.hid (HF3.out.keep x), Lib.hid (Ext.trans X3.out x)⟩
                  have hsz_w9 := x.size
                  clear x hW
                  rw [HS3.out] at E3 HF3
                  have b8 := bx_cell E3.out
                  have f8 := bx_frozen E3.out
                  have l8 := bx_lt E3.out
                  have P8 := box_put E3.out 5 (.int .i64 (max r.commit (min m.commit r.log.fin)))
                  simp only [List.setIfInBounds_toArray, List.set_cons_zero, List.set_cons_succ] at P8
                  have c8 := chg_set (Chg.refl w9 [w1.heap.size + 1]) (p := ⟨w1.heap.size + 1, 5, none⟩) (by simp) (.int .i64 (max r.commit (min m.commit r.log.fin)))
                  have hf8 := HF3.out.boxed E3.out c8
                  have HP8 := Lib.hid P8
                  have HF8 := Lib.hid (show RpF _ (w.heap.size + 1 + 1 + 1) a1 A1 c1 qs (r.upTo m.commit) from ⟨hf8.l, hf8.v, hf8.vl, hf8.e⟩)
                  have FS8 := Lib.hid (FS.out.boxed E3.out (by decide) (by decide) (by decide) (by decide) c8)
                  have F38 := Lib.hid (box_out' F3.out c8 (by simp; omega))
                  have X8 := Lib.hid (ext_chg X3.out c8 (fun g hg => by rw [List.mem_singleton] at hg; omega))
                  clear P8 c8 hf8 F3 E3 FS HF3 X3 F1 F2
                  go_wp2_with (with_reducible refine wl_stop 85 ?_)
                  refine stop_go (F := fun W => W.heap[w1.heap.size + 1]? = some (.cells (Rp.cs a1 A1 qs.length c1 (r.upTo m.commit)) 43) ∧ RpF W (w.heap.size + 1 + 1 + 1) a1 A1 c1 qs (r.upTo m.commit) ∧ OsK W (w.heap.size + 1 + 1 + 1) (some ⟨pk, 0, none⟩) 1 [(LAd.none, (⟨m.frm, askM2 r r.view r.log.fin⟩ : Ot))] ∧ W.heap[w.heap.size + 1 + 1]? = some Rp.zobj ∧ Ext w W ∧ w1.heap.size + 1 < W.heap.size) ⟨HP8.out, HF8.out, FS8.out, F38.out, X8.out, by simpa using l8⟩ ?_
                  intro W8 ⟨e3, hf3, fs, f3, x3, l9⟩
                  have E3 := Lib.hid e3
                  have HF3 := Lib.hid hf3
                  have FS := Lib.hid fs
                  have F3 := Lib.hid f3
                  have X3 := Lib.hid x3
                  clear e3 hf3 fs f3 x3 HP8 HF8 FS8 F38 X8 b8 f8 l8
                  (go_wp2_with (with_reducible refine wl_stop 85 ?_); refine stop_load (E3.out) rfl Tryz.underlying43 (by kernel_rfl) ?_; simp only [Act.put, List.setIfInBounds_toArray, List.set_cons_zero, List.set_cons_succ])
                  (go_wp2_with (with_reducible refine wl_stopS 43 ?_); refine stop_store ((w.heap.size + 1 + 1)) (Rp.cs a1 A1 qs.length c1 (r.upTo m.commit)) rfl rfl (F3.out) (by kernel_rfl) rfl (by simp [Value.oneCell']) ?_)
                  intro W9 e9 k9
                  have X9 := Lib.hid (chg_new X3.out k9 (by omega))
                  have HE9 := Lib.hid e9
                  have HT9 := Lib.hid (RoT.of (O := [⟨m.frm, askM2 r r.view r.log.fin⟩]) (HF3.out.boxed F3.out k9) (FS.out.boxed F3.out (by decide) (by decide) (by decide) (by decide) k9) rfl)
                  clear e9 k9
                  go_wp2
                  refine bodyPost_ret (results_box2 Tryz.results22 rfl rfl Tryz.underlying43 (by kernel_rfl) HE9.out) rfl ⟨_, rfl, ?_, X9.out⟩
                  rw [HQ.out.1, HQ.out.2]
                  exact HT9.out
              · have hg : (m.frm == r.view % r.of) = false := by simp at g4 ⊢; exact fun h => g4 h.symm
                have HQ := Lib.hid (show hearR2 r m 4 (commitR r m) = sameR r ∧ hearO r m 4 (commitO r m) = [] by
                  rw [HY.out.1, HY.out.2, HS3.out]
                  constructor <;> simp only [commitR, commitO, followO, followB, gl, g0, hg, Bool.true_and, Bool.false_and, Bool.and_true, Bool.and_false, Bool.true_or, Bool.false_or, Bool.or_true, Bool.or_false, Bool.not_true, Bool.not_false, Bool.false_eq_true, if_false, eq_self, if_true, List.append_nil, List.nil_append])
                go_wp2
                clear d1 d2 z1 z2
                (refine Rm.wp_region_mix' (R := relE w5.heap.size) (fun _ _ _ => True) (fun _ _ _ _ _ hq => hq) 24 (by first | exact Nat.le_refl _ | omega | (simp; omega)) (by kernel_rfl) (by kernel_rfl) ?_; simp only [List.take_succ_cons, List.take_zero, List.drop_succ_cons, List.drop_zero])
                ((iterate 1 (refine Rm.wpMix_plain rfl rfl ?_; go_big_quiet_step (fail); refine wpQuiet_nil ?_)); (refine Rm.wpMix_load1 (fun W9' h9 => show W9'.cell? _ = some (.int .i64 m.view) from bx_cell (Ext.box h9 F2.out) 2) rfl rfl rfl Tryz.underlying3 rfl ?_; simp only [Act.put, List.setIfInBounds_toArray, List.set_cons_zero, List.set_cons_succ]); (iterate 1 (refine Rm.wpMix_plain rfl rfl ?_; go_big_quiet_step (fail); refine wpQuiet_nil ?_)); (refine Rm.wpMix_load1 (fun W9' h9 => show W9'.cell? _ = some (.int .i64 r.view) from bx_cell (Ext.box h9 F1.out) 3) rfl rfl rfl Tryz.underlying3 rfl ?_; simp only [Act.put, List.setIfInBounds_toArray, List.set_cons_zero, List.set_cons_succ]); (iterate 1 (refine Rm.wpMix_plain rfl rfl ?_; go_big_quiet_step (fail); refine wpQuiet_nil ?_)); (try simp only [g1, Bool.not_true, Bool.not_false]); (iterate 1 (refine Rm.wpMix_plain rfl rfl ?_; go_big_quiet_step (fail); refine wpQuiet_nil ?_)); (iterate 1 (refine Rm.wpMix_plain rfl rfl ?_; go_big_quiet_step (fail); refine wpQuiet_nil ?_)); (refine Rm.wpMix_load1 (fun W9' h9 => show W9'.cell? _ = some (.int .i64 r.mode) from bx_cell (Ext.box h9 F1.out) 2) rfl rfl rfl Tryz.underlying3 rfl ?_; simp only [Act.put, List.setIfInBounds_toArray, List.set_cons_zero, List.set_cons_succ]); (iterate 1 (refine Rm.wpMix_plain rfl rfl ?_; go_big_quiet_step (fail); refine wpQuiet_nil ?_)); (try simp only [g2, Bool.not_true, Bool.not_false]); (iterate 2 (refine Rm.wpMix_plain rfl rfl ?_; go_big_quiet_step (fail); refine wpQuiet_nil ?_)))
                (refine Rm.wpMix_loadAgg (fun W9' h9 => rp_whole F1.out h9) rfl rfl rfl Tryz.underlying43 (by kernel_rfl) ?_; simp only [Act.put, List.setIfInBounds_toArray, List.set_cons_zero, List.set_cons_succ])
                (refine Rm.wpMix_det rfl rfl rfl (enters Tryz.func67 (by kernel_rfl) rfl) (fun W9' h9 => c_l6Leads a A _ c r W9' HIV.out.1 HIV.out.2) rfl ?_; simp only [Act.put, List.setIfInBounds_toArray, List.set_cons_zero, List.set_cons_succ])
                ((try simp only [g3, Bool.not_true, Bool.not_false]); (iterate 2 (refine Rm.wpMix_plain rfl rfl ?_; go_big_quiet_step (fail); refine wpQuiet_nil ?_)); (iterate 1 (refine Rm.wpMix_plain rfl rfl ?_; go_big_quiet_step (fail); refine wpQuiet_nil ?_)); (refine Rm.wpMix_load1 (fun W9' h9 => show W9'.cell? _ = some (.int .i64 r.view) from bx_cell (Ext.box h9 F1.out) 3) rfl rfl rfl Tryz.underlying3 rfl ?_; simp only [Act.put, List.setIfInBounds_toArray, List.set_cons_zero, List.set_cons_succ]); (iterate 1 (refine Rm.wpMix_plain rfl rfl ?_; go_big_quiet_step (fail); refine wpQuiet_nil ?_)); (refine Rm.wpMix_load1 (fun W9' h9 => show W9'.cell? _ = some (.int .i64 r.of) from bx_cell (Ext.box h9 F1.out) 1) rfl rfl rfl Tryz.underlying3 rfl ?_; simp only [Act.put, List.setIfInBounds_toArray, List.set_cons_zero, List.set_cons_succ]))
                (refine Rm.wpMix_det rfl rfl rfl (enters Tryz.func68 (by kernel_rfl) rfl) (fun W9' h9 => c_sPrimaryOf r.view r.of W9' HIV.out.1 HIV.out.2) rfl ?_; simp only [Act.put, List.setIfInBounds_toArray, List.set_cons_zero, List.set_cons_succ])
                ((iterate 1 (refine Rm.wpMix_plain rfl rfl ?_; go_big_quiet_step (fail); refine wpQuiet_nil ?_)); (refine Rm.wpMix_load1 (fun W9' h9 => show W9'.cell? _ = some (.int .i64 m.frm) from bx_cell (Ext.box h9 F2.out) 1) rfl rfl rfl Tryz.underlying3 rfl ?_; simp only [Act.put, List.setIfInBounds_toArray, List.set_cons_zero, List.set_cons_succ]); (iterate 1 (refine Rm.wpMix_plain rfl rfl ?_; go_big_quiet_step (fail); refine wpQuiet_nil ?_)); (try simp only [g4, Bool.not_true, Bool.not_false]); (iterate 1 (refine Rm.wpMix_plain rfl rfl ?_; go_big_quiet_step (fail); refine wpQuiet_nil ?_)))
                refine Rm.wpMix_nil ?_
                rintro w6 hW
                have x : Ext w5 w6 := hW
                obtain ⟨F1, F2, F3, E3, FS, HF3, X3⟩ : Hid _ ∧ Hid _ ∧ Hid _ ∧ Hid _ ∧ Hid _ ∧ Hid _ ∧ Hid _ := ⟨Lib.hid (x.box F1.out), Lib.hid (x.box F2.out), Lib.hid (x.box F3.out), Lib.hid (x.box E3.out), Lib.hid (FS.out.keep x), Lib.hid (HF3.out.keep x), Lib.hid (Ext.trans X3.out x)⟩
                have hsz_w6 := x.size
                clear x hW
                (go_wp2_with (with_reducible refine wl_stop 61 ?_); refine stop_load (E3.out) rfl Tryz.underlying43 (by kernel_rfl) ?_; simp only [Act.put, List.setIfInBounds_toArray, List.set_cons_zero, List.set_cons_succ])
                (go_wp2_with (with_reducible refine wl_stopS 43 ?_); refine stop_store ((w.heap.size + 1 + 1)) (Rp.cs a1 A1 qs.length c1 (sameR r)) rfl rfl (F3.out) (by kernel_rfl) rfl (by simp [Value.oneCell']) ?_)
                intro W9 e9 k9
                have X9 := Lib.hid (chg_new X3.out k9 (by omega))
                have HE9 := Lib.hid e9
                have HT9 := Lib.hid (RoT.of (O := []) (HF3.out.boxed F3.out k9) (FS.out.boxed F3.out (by decide) (by decide) (by decide) (by decide) k9) rfl)
                clear e9 k9
                go_wp2
                refine bodyPost_ret (results_box2 Tryz.results22 rfl rfl Tryz.underlying43 (by kernel_rfl) HE9.out) rfl ⟨_, rfl, ?_, X9.out⟩
                rw [HQ.out.1, HQ.out.2]
                exact HT9.out
            · have HQ := Lib.hid (show hearR2 r m 4 (commitR r m) = sameR r ∧ hearO r m 4 (commitO r m) = [] by
              rw [HY.out.1, HY.out.2, HS3.out]
              constructor <;> simp only [commitR, commitO, followO, followB, gl, g0, g3, Bool.true_and, Bool.false_and, Bool.and_true, Bool.and_false, Bool.true_or, Bool.false_or, Bool.or_true, Bool.or_false, Bool.not_true, Bool.not_false, Bool.false_eq_true, if_false, eq_self, if_true, List.append_nil, List.nil_append])
              go_wp2
              clear d1 d2 z1 z2
              (refine Rm.wp_region_mix' (R := relE w5.heap.size) (fun _ _ _ => True) (fun _ _ _ _ _ hq => hq) 24 (by first | exact Nat.le_refl _ | omega | (simp; omega)) (by kernel_rfl) (by kernel_rfl) ?_; simp only [List.take_succ_cons, List.take_zero, List.drop_succ_cons, List.drop_zero])
              ((iterate 1 (refine Rm.wpMix_plain rfl rfl ?_; go_big_quiet_step (fail); refine wpQuiet_nil ?_)); (refine Rm.wpMix_load1 (fun W9' h9 => show W9'.cell? _ = some (.int .i64 m.view) from bx_cell (Ext.box h9 F2.out) 2) rfl rfl rfl Tryz.underlying3 rfl ?_; simp only [Act.put, List.setIfInBounds_toArray, List.set_cons_zero, List.set_cons_succ]); (iterate 1 (refine Rm.wpMix_plain rfl rfl ?_; go_big_quiet_step (fail); refine wpQuiet_nil ?_)); (refine Rm.wpMix_load1 (fun W9' h9 => show W9'.cell? _ = some (.int .i64 r.view) from bx_cell (Ext.box h9 F1.out) 3) rfl rfl rfl Tryz.underlying3 rfl ?_; simp only [Act.put, List.setIfInBounds_toArray, List.set_cons_zero, List.set_cons_succ]); (iterate 1 (refine Rm.wpMix_plain rfl rfl ?_; go_big_quiet_step (fail); refine wpQuiet_nil ?_)); (try simp only [g1, Bool.not_true, Bool.not_false]); (iterate 1 (refine Rm.wpMix_plain rfl rfl ?_; go_big_quiet_step (fail); refine wpQuiet_nil ?_)); (iterate 1 (refine Rm.wpMix_plain rfl rfl ?_; go_big_quiet_step (fail); refine wpQuiet_nil ?_)); (refine Rm.wpMix_load1 (fun W9' h9 => show W9'.cell? _ = some (.int .i64 r.mode) from bx_cell (Ext.box h9 F1.out) 2) rfl rfl rfl Tryz.underlying3 rfl ?_; simp only [Act.put, List.setIfInBounds_toArray, List.set_cons_zero, List.set_cons_succ]); (iterate 1 (refine Rm.wpMix_plain rfl rfl ?_; go_big_quiet_step (fail); refine wpQuiet_nil ?_)); (try simp only [g2, Bool.not_true, Bool.not_false]); (iterate 2 (refine Rm.wpMix_plain rfl rfl ?_; go_big_quiet_step (fail); refine wpQuiet_nil ?_)))
              (refine Rm.wpMix_loadAgg (fun W9' h9 => rp_whole F1.out h9) rfl rfl rfl Tryz.underlying43 (by kernel_rfl) ?_; simp only [Act.put, List.setIfInBounds_toArray, List.set_cons_zero, List.set_cons_succ])
              (refine Rm.wpMix_det rfl rfl rfl (enters Tryz.func67 (by kernel_rfl) rfl) (fun W9' h9 => c_l6Leads a A _ c r W9' HIV.out.1 HIV.out.2) rfl ?_; simp only [Act.put, List.setIfInBounds_toArray, List.set_cons_zero, List.set_cons_succ])
              ((try simp only [g3, Bool.not_true, Bool.not_false]); (iterate 2 (refine Rm.wpMix_plain rfl rfl ?_; go_big_quiet_step (fail); refine wpQuiet_nil ?_)); (iterate 8 (refine Rm.wpMix_skip rfl rfl ?_; simp only [Act.put, List.setIfInBounds_toArray, List.set_cons_zero, List.set_cons_succ])); (iterate 1 (refine Rm.wpMix_plain rfl rfl ?_; go_big_quiet_step (fail); refine wpQuiet_nil ?_)))
              refine Rm.wpMix_nil ?_
              rintro w6 hW
              have x : Ext w5 w6 := hW
              obtain ⟨F1, F2, F3, E3, FS, HF3, X3⟩ : Hid _ ∧ Hid _ ∧ Hid _ ∧ Hid _ ∧ Hid _ ∧ Hid _ ∧ Hid _ := ⟨Lib.hid (x.box F1.out), Lib.hid (x.box F2.out), Lib.hid (x.box F3.out), Lib.hid (x.box E3.out), Lib.hid (FS.out.keep x), Lib.hid (HF3.out.keep x), Lib.hid (Ext.trans X3.out x)⟩
              have hsz_w6 := x.size
              clear x hW
              (go_wp2_with (with_reducible refine wl_stop 61 ?_); refine stop_load (E3.out) rfl Tryz.underlying43 (by kernel_rfl) ?_; simp only [Act.put, List.setIfInBounds_toArray, List.set_cons_zero, List.set_cons_succ])
              (go_wp2_with (with_reducible refine wl_stopS 43 ?_); refine stop_store ((w.heap.size + 1 + 1)) (Rp.cs a1 A1 qs.length c1 (sameR r)) rfl rfl (F3.out) (by kernel_rfl) rfl (by simp [Value.oneCell']) ?_)
              intro W9 e9 k9
              have X9 := Lib.hid (chg_new X3.out k9 (by omega))
              have HE9 := Lib.hid e9
              have HT9 := Lib.hid (RoT.of (O := []) (HF3.out.boxed F3.out k9) (FS.out.boxed F3.out (by decide) (by decide) (by decide) (by decide) k9) rfl)
              clear e9 k9
              go_wp2
              refine bodyPost_ret (results_box2 Tryz.results22 rfl rfl Tryz.underlying43 (by kernel_rfl) HE9.out) rfl ⟨_, rfl, ?_, X9.out⟩
              rw [HQ.out.1, HQ.out.2]
              exact HT9.out
          · have hg : (r.mode == 1) = false := by simpa using g2
            have HQ := Lib.hid (show hearR2 r m 4 (commitR r m) = sameR r ∧ hearO r m 4 (commitO r m) = [] by
              rw [HY.out.1, HY.out.2, HS3.out]
              constructor <;> simp only [commitR, commitO, followO, followB, gl, g0, hg, Bool.true_and, Bool.false_and, Bool.and_true, Bool.and_false, Bool.true_or, Bool.false_or, Bool.or_true, Bool.or_false, Bool.not_true, Bool.not_false, Bool.false_eq_true, if_false, eq_self, if_true, List.append_nil, List.nil_append])
            go_wp2
            clear d1 d2 z1 z2
            (refine Rm.wp_region_mix' (R := relE w5.heap.size) (fun _ _ _ => True) (fun _ _ _ _ _ hq => hq) 24 (by first | exact Nat.le_refl _ | omega | (simp; omega)) (by kernel_rfl) (by kernel_rfl) ?_; simp only [List.take_succ_cons, List.take_zero, List.drop_succ_cons, List.drop_zero])
            ((iterate 1 (refine Rm.wpMix_plain rfl rfl ?_; go_big_quiet_step (fail); refine wpQuiet_nil ?_)); (refine Rm.wpMix_load1 (fun W9' h9 => show W9'.cell? _ = some (.int .i64 m.view) from bx_cell (Ext.box h9 F2.out) 2) rfl rfl rfl Tryz.underlying3 rfl ?_; simp only [Act.put, List.setIfInBounds_toArray, List.set_cons_zero, List.set_cons_succ]); (iterate 1 (refine Rm.wpMix_plain rfl rfl ?_; go_big_quiet_step (fail); refine wpQuiet_nil ?_)); (refine Rm.wpMix_load1 (fun W9' h9 => show W9'.cell? _ = some (.int .i64 r.view) from bx_cell (Ext.box h9 F1.out) 3) rfl rfl rfl Tryz.underlying3 rfl ?_; simp only [Act.put, List.setIfInBounds_toArray, List.set_cons_zero, List.set_cons_succ]); (iterate 1 (refine Rm.wpMix_plain rfl rfl ?_; go_big_quiet_step (fail); refine wpQuiet_nil ?_)); (try simp only [g1, Bool.not_true, Bool.not_false]); (iterate 1 (refine Rm.wpMix_plain rfl rfl ?_; go_big_quiet_step (fail); refine wpQuiet_nil ?_)); (iterate 1 (refine Rm.wpMix_plain rfl rfl ?_; go_big_quiet_step (fail); refine wpQuiet_nil ?_)); (refine Rm.wpMix_load1 (fun W9' h9 => show W9'.cell? _ = some (.int .i64 r.mode) from bx_cell (Ext.box h9 F1.out) 2) rfl rfl rfl Tryz.underlying3 rfl ?_; simp only [Act.put, List.setIfInBounds_toArray, List.set_cons_zero, List.set_cons_succ]); (iterate 1 (refine Rm.wpMix_plain rfl rfl ?_; go_big_quiet_step (fail); refine wpQuiet_nil ?_)); (try simp only [g2, Bool.not_true, Bool.not_false]); (iterate 2 (refine Rm.wpMix_plain rfl rfl ?_; go_big_quiet_step (fail); refine wpQuiet_nil ?_)); (iterate 2 (refine Rm.wpMix_skip rfl rfl ?_; simp only [Act.put, List.setIfInBounds_toArray, List.set_cons_zero, List.set_cons_succ])); (iterate 2 (refine Rm.wpMix_plain rfl rfl ?_; go_big_quiet_step (fail); refine wpQuiet_nil ?_)); (iterate 8 (refine Rm.wpMix_skip rfl rfl ?_; simp only [Act.put, List.setIfInBounds_toArray, List.set_cons_zero, List.set_cons_succ])); (iterate 1 (refine Rm.wpMix_plain rfl rfl ?_; go_big_quiet_step (fail); refine wpQuiet_nil ?_)))
            refine Rm.wpMix_nil ?_
            rintro w6 hW
            have x : Ext w5 w6 := hW
            obtain ⟨F1, F2, F3, E3, FS, HF3, X3⟩ : Hid _ ∧ Hid _ ∧ Hid _ ∧ Hid _ ∧ Hid _ ∧ Hid _ ∧ Hid _ := ⟨Lib.hid (x.box F1.out), Lib.hid (x.box F2.out), Lib.hid (x.box F3.out), Lib.hid (x.box E3.out), Lib.hid (FS.out.keep x), Lib.hid (HF3.out.keep x), Lib.hid (Ext.trans X3.out x)⟩
            have hsz_w6 := x.size
            clear x hW
            (go_wp2_with (with_reducible refine wl_stop 61 ?_); refine stop_load (E3.out) rfl Tryz.underlying43 (by kernel_rfl) ?_; simp only [Act.put, List.setIfInBounds_toArray, List.set_cons_zero, List.set_cons_succ])
            (go_wp2_with (with_reducible refine wl_stopS 43 ?_); refine stop_store ((w.heap.size + 1 + 1)) (Rp.cs a1 A1 qs.length c1 (sameR r)) rfl rfl (F3.out) (by kernel_rfl) rfl (by simp [Value.oneCell']) ?_)
            intro W9 e9 k9
            have X9 := Lib.hid (chg_new X3.out k9 (by omega))
            have HE9 := Lib.hid e9
            have HT9 := Lib.hid (RoT.of (O := []) (HF3.out.boxed F3.out k9) (FS.out.boxed F3.out (by decide) (by decide) (by decide) (by decide) k9) rfl)
            clear e9 k9
            go_wp2
            refine bodyPost_ret (results_box2 Tryz.results22 rfl rfl Tryz.underlying43 (by kernel_rfl) HE9.out) rfl ⟨_, rfl, ?_, X9.out⟩
            rw [HQ.out.1, HQ.out.2]
            exact HT9.out
        · have hg : (m.view == r.view) = false := by simpa using g1
          have HQ := Lib.hid (show hearR2 r m 4 (commitR r m) = sameR r ∧ hearO r m 4 (commitO r m) = [] by
            rw [HY.out.1, HY.out.2, HS3.out]
            constructor <;> simp only [commitR, commitO, followO, followB, gl, g0, hg, Bool.true_and, Bool.false_and, Bool.and_true, Bool.and_false, Bool.true_or, Bool.false_or, Bool.or_true, Bool.or_false, Bool.not_true, Bool.not_false, Bool.false_eq_true, if_false, eq_self, if_true, List.append_nil, List.nil_append])
          go_wp2
          clear d1 d2 z1 z2
          (refine Rm.wp_region_mix' (R := relE w5.heap.size) (fun _ _ _ => True) (fun _ _ _ _ _ hq => hq) 24 (by first | exact Nat.le_refl _ | omega | (simp; omega)) (by kernel_rfl) (by kernel_rfl) ?_; simp only [List.take_succ_cons, List.take_zero, List.drop_succ_cons, List.drop_zero])
          ((iterate 1 (refine Rm.wpMix_plain rfl rfl ?_; go_big_quiet_step (fail); refine wpQuiet_nil ?_)); (refine Rm.wpMix_load1 (fun W9' h9 => show W9'.cell? _ = some (.int .i64 m.view) from bx_cell (Ext.box h9 F2.out) 2) rfl rfl rfl Tryz.underlying3 rfl ?_; simp only [Act.put, List.setIfInBounds_toArray, List.set_cons_zero, List.set_cons_succ]); (iterate 1 (refine Rm.wpMix_plain rfl rfl ?_; go_big_quiet_step (fail); refine wpQuiet_nil ?_)); (refine Rm.wpMix_load1 (fun W9' h9 => show W9'.cell? _ = some (.int .i64 r.view) from bx_cell (Ext.box h9 F1.out) 3) rfl rfl rfl Tryz.underlying3 rfl ?_; simp only [Act.put, List.setIfInBounds_toArray, List.set_cons_zero, List.set_cons_succ]); (iterate 1 (refine Rm.wpMix_plain rfl rfl ?_; go_big_quiet_step (fail); refine wpQuiet_nil ?_)); (try simp only [g1, Bool.not_true, Bool.not_false]); (iterate 1 (refine Rm.wpMix_plain rfl rfl ?_; go_big_quiet_step (fail); refine wpQuiet_nil ?_)); (iterate 3 (refine Rm.wpMix_skip rfl rfl ?_; simp only [Act.put, List.setIfInBounds_toArray, List.set_cons_zero, List.set_cons_succ])); (iterate 2 (refine Rm.wpMix_plain rfl rfl ?_; go_big_quiet_step (fail); refine wpQuiet_nil ?_)); (iterate 2 (refine Rm.wpMix_skip rfl rfl ?_; simp only [Act.put, List.setIfInBounds_toArray, List.set_cons_zero, List.set_cons_succ])); (iterate 2 (refine Rm.wpMix_plain rfl rfl ?_; go_big_quiet_step (fail); refine wpQuiet_nil ?_)); (iterate 8 (refine Rm.wpMix_skip rfl rfl ?_; simp only [Act.put, List.setIfInBounds_toArray, List.set_cons_zero, List.set_cons_succ])); (iterate 1 (refine Rm.wpMix_plain rfl rfl ?_; go_big_quiet_step (fail); refine wpQuiet_nil ?_)))
          refine Rm.wpMix_nil ?_
          rintro w6 hW
          have x : Ext w5 w6 := hW
          obtain ⟨F1, F2, F3, E3, FS, HF3, X3⟩ : Hid _ ∧ Hid _ ∧ Hid _ ∧ Hid _ ∧ Hid _ ∧ Hid _ ∧ Hid _ := ⟨Lib.hid (x.box F1.out), Lib.hid (x.box F2.out), Lib.hid (x.box F3.out), Lib.hid (x.box E3.out), Lib.hid (FS.out.keep x), Lib.hid (HF3.out.keep x), Lib.hid (Ext.trans X3.out x)⟩
          have hsz_w6 := x.size
          clear x hW
          (go_wp2_with (with_reducible refine wl_stop 61 ?_); refine stop_load (E3.out) rfl Tryz.underlying43 (by kernel_rfl) ?_; simp only [Act.put, List.setIfInBounds_toArray, List.set_cons_zero, List.set_cons_succ])
          (go_wp2_with (with_reducible refine wl_stopS 43 ?_); refine stop_store ((w.heap.size + 1 + 1)) (Rp.cs a1 A1 qs.length c1 (sameR r)) rfl rfl (F3.out) (by kernel_rfl) rfl (by simp [Value.oneCell']) ?_)
          intro W9 e9 k9
          have X9 := Lib.hid (chg_new X3.out k9 (by omega))
          have HE9 := Lib.hid e9
          have HT9 := Lib.hid (RoT.of (O := []) (HF3.out.boxed F3.out k9) (FS.out.boxed F3.out (by decide) (by decide) (by decide) (by decide) k9) rfl)
          clear e9 k9
          go_wp2
          refine bodyPost_ret (results_box2 Tryz.results22 rfl rfl Tryz.underlying43 (by kernel_rfl) HE9.out) rfl ⟨_, rfl, ?_, X9.out⟩
          rw [HQ.out.1, HQ.out.2]
          exact HT9.out
      · have HQ := Lib.hid (show hearR2 r m 4 (commitR r m) = sameR r ∧ hearO r m 4 (commitO r m) = [⟨m.frm, askM2 r m.view r.commit⟩] by
        have hvv : (m.view == r.view) = false := by simp at g0 ⊢; omega
        rw [HY.out.1, HY.out.2, HS3.out]
        constructor <;> simp only [commitR, commitO, followO, followB, gl, g0, hvv, Bool.true_and, Bool.false_and, Bool.and_true, Bool.and_false, Bool.true_or, Bool.false_or, Bool.or_true, Bool.or_false, Bool.not_true, Bool.not_false, Bool.false_eq_true, if_false, if_true, eq_self, List.append_nil, List.nil_append])
        go_wp2
        clear d1 d2 z1 z2
        have hq9 : w.heap.size + 1 + 1 < w5.heap.size := by omega
        have HW1 := Lib.hid (fun W' (h : (relS (w.heap.size + 1 + 1) (.cells (Rp.cs a1 A1 qs.length c1 (sameR r)) 43) w5.heap.size hq9).rel w5 W') => cells_mid (cs := Rp.cs a1 A1 qs.length c1 (sameR r)) (relS_box E3.out (by omega) W' h) [] [] rfl rfl)
        have HW2 := Lib.hid (fun W' (h : (relS (w.heap.size + 1 + 1) (.cells (Rp.cs a1 A1 qs.length c1 (sameR r)) 43) w5.heap.size hq9).rel w5 W') => cells_mid (cs := Rp.cs a A ps.length c r) (relS_box F1.out (by omega) W' h) [] [] rfl rfl)
        (refine Rm.wp_region_mix' (R := relS (w.heap.size + 1 + 1) (.cells (Rp.cs a1 A1 qs.length c1 (sameR r)) 43) w5.heap.size hq9) (stored (w.heap.size + 1 + 1) (.cells (Rp.cs a1 A1 qs.length c1 (sameR r)) 43)) (fun _ _ _ _ _ hq => hq) 10 (by first | exact Nat.le_refl _ | omega | (simp; omega)) (by kernel_rfl) (by kernel_rfl) ?_; simp only [List.take_succ_cons, List.take_zero, List.drop_succ_cons, List.drop_zero])
        (refine Rm.wpMix_loadAgg (HW1.out) rfl rfl rfl Tryz.underlying43 (by kernel_rfl) ?_; simp only [Act.put, List.setIfInBounds_toArray, List.set_cons_zero, List.set_cons_succ])
        (refine Rm.wpMix_loadAgg (HW2.out) rfl rfl rfl Tryz.underlying43 (by kernel_rfl) ?_; simp only [Act.put, List.setIfInBounds_toArray, List.set_cons_zero, List.set_cons_succ])
        ((iterate 1 (refine Rm.wpMix_plain rfl rfl ?_; go_big_quiet_step (fail); refine wpQuiet_nil ?_)); (refine Rm.wpMix_load1 (fun W9' h9 => show W9'.cell? _ = some (.int .i64 m.view) from bx_cell (relS_box F2.out (by omega) W9' h9) 2) rfl rfl rfl Tryz.underlying3 rfl ?_; simp only [Act.put, List.setIfInBounds_toArray, List.set_cons_zero, List.set_cons_succ]); (iterate 1 (refine Rm.wpMix_plain rfl rfl ?_; go_big_quiet_step (fail); refine wpQuiet_nil ?_)); (refine Rm.wpMix_load1 (fun W9' h9 => show W9'.cell? _ = some (.int .i64 r.commit) from bx_cell (relS_box F1.out (by omega) W9' h9) 5) rfl rfl rfl Tryz.underlying3 rfl ?_; simp only [Act.put, List.setIfInBounds_toArray, List.set_cons_zero, List.set_cons_succ]); (iterate 1 (refine Rm.wpMix_plain rfl rfl ?_; go_big_quiet_step (fail); refine wpQuiet_nil ?_)); (refine Rm.wpMix_load1 (fun W9' h9 => show W9'.cell? _ = some (.int .i64 m.frm) from bx_cell (relS_box F2.out (by omega) W9' h9) 1) rfl rfl rfl Tryz.underlying3 rfl ?_; simp only [Act.put, List.setIfInBounds_toArray, List.set_cons_zero, List.set_cons_succ]))
        refine Rm.wpMix_call (AskV w5.heap.size ⟨m.frm, askM2 r m.view r.commit⟩) rfl rfl rfl (enters Tryz.func66 (by kernel_rfl) rfl) (AskV.mono _ _ _ _ _) (fun W' hW' => (c_l6Ask a A _ c r m.view r.commit m.frm W').mono fun e w' h => ask_v h hW'.1.size) rfl (fun v6 hv6 => ?_)
        obtain ⟨_, _, p6, rfl, _⟩ := hv6
        simp only [Act.put, List.setIfInBounds_toArray, List.set_cons_zero, List.set_cons_succ]
        refine wpMix_st F3.out rfl rfl rfl rfl rfl (by kernel_rfl) rfl (by simp [Value.oneCell']) ?_
        simp only [Act.put, List.setIfInBounds_toArray, List.set_cons_zero, List.set_cons_succ]
        refine Rm.wpMix_nil ?_
        rintro W9 ⟨⟨h9, hv9⟩, e9⟩
        have c9 := h9.1
        have HE9 := Lib.hid e9
        have hk9 := hv9.inv
        have HX9 := Lib.hid (ext_chg X3.out c9 (fun g hg => by rw [List.mem_singleton] at hg; omega))
        have HT9 := Lib.hid (RoT.of (HF3.out.chg c9 (fun k hk => by rw [List.mem_singleton] at hk; omega)) hk9 rfl)
        clear c9 h9 e9 hv9 hk9
        go_wp2
        refine bodyPost_ret (results_box2 Tryz.results22 rfl rfl Tryz.underlying43 (by kernel_rfl) HE9.out) rfl ⟨_, rfl, ?_, HX9.out⟩
        rw [HQ.out.1, HQ.out.2]
        exact HT9.out

set_option maxRecDepth 100000 in
set_option maxHeartbeats 16000000 in
theorem c_sOnStart (a : LAd) (A : Option Addr) (c : Nat) (ps : List VtE) (r : Rp) (am : LAd) (m : Mg) (w : World) (hr : RpR w a A c ps r) (hs : r.log.small) (hn : ps.length ≤ 1048576) (hv : LgS ps) (hm : LgR w am m.log) (hms : m.log.small) :
    Calls Tryz.prog 31 #[Rp.val a A ps.length c r, Mg.val am m] w fun e w' => ∃ v, e = .returned v ∧ RoT w' (hearR2 r m 7 (startR r m)) (hearO r m 7 (startO r m)) v ∧ Ext w w' := by
  have X0 : Ext w (((w.alloc (Rp.obj a A ps.length c r)).alloc (Mg.obj am m)).alloc Rp.zobj) := ext_to (ext_to (ext_alloc _ _) _) _
  have HSm := Lib.hid (c_l6Same a A c ps r _ (hr.keep X0) hs hn hv)
  have HHr := Lib.hid (fun W (h : Ext w W) => c_l6Hears a A c ps r am m 7 W (hr.keep h) hs hn hv (hm.keep h) hms)
  have D1 := Lib.hid (hOld (o := Rp.zobj) (hOld (o := Mg.obj am m) (hNew (w := w) (o := Rp.obj a A ps.length c r) rfl)))
  have D2 := Lib.hid (hOld (o := Rp.zobj) (hNew (w := w.alloc (Rp.obj a A ps.length c r)) (o := Mg.obj am m) (k := w.heap.size + 1) (by simp)))
  have D3 := Lib.hid (hNew (w := (w.alloc (Rp.obj a A ps.length c r)).alloc (Mg.obj am m)) (o := Rp.zobj) (k := w.heap.size + 1 + 1) (by simp))
  have HX0 := Lib.hid X0
  have HR := Lib.hid hr
  have HM := Lib.hid hm
  have HMs := Lib.hid hms
  have HRs := Lib.hid hs
  have hheq : sHearB r m 7 = hearB r m 7 := (hear_eq (by decide +kernel) (by decide +kernel) rfl).symm
  have HHe := Lib.hid hheq
  clear X0 hr hv hm hheq hms hs
  go_enter Tryz.func31, Tryz.ntmps31
  (go_wp2_with (with_reducible refine wl_stop 8 ?_); refine stop_load (D1.out) rfl Tryz.underlying43 (by kernel_rfl) ?_; simp only [Act.put, List.setIfInBounds_toArray, List.set_cons_zero, List.set_cons_succ])
  go_wp2_with fail
  refine HSm.out.mono ?_
  rintro e w1 ⟨v1, rfl, ⟨a1, A1, c1, qs, rfl, f1⟩, x1⟩
  have HF1 := Lib.hid f1
  have X1 := Lib.hid (Ext.trans HX0.out x1)
  have XO := Lib.hid (show Ext w1 ((w1.alloc (.cells #[] 100)).alloc Rp.zobj) from ext_to (ext_alloc _ _) _)
  have B1 := Lib.hid (XO.out.box (x1.box D1.out))
  have B2 := Lib.hid (XO.out.box (x1.box D2.out))
  have B3 := Lib.hid (XO.out.box (x1.box D3.out))
  have BS := Lib.hid (hOld (o := Rp.zobj) (hNew (w := w1) (o := .cells #[] 100) rfl))
  have Z1 := Lib.hid (hNew (w := w1.alloc (.cells #[] 100)) (o := Rp.zobj) (k := w1.heap.size + 1) (by simp))
  have hs1 := x1.size
  simp only [sz_alloc] at hs1
  clear f1 x1 D1 D2 D3 HX0 HSm
  (go_wp2_with (with_reducible refine wl_stopS 43 ?_); refine stop_store ((w1.heap.size + 1)) (Rp.cs a1 A1 qs.length c1 (sameR r)) rfl rfl (Z1.out) (by kernel_rfl) rfl (by simp [Value.oneCell']) ?_)
  intro W3 e3 k3
  have x3 : Ext w1 W3 := ext_chg XO.out k3 (fun g hg => by rw [List.mem_singleton] at hg; omega)
  have E3 := Lib.hid e3
  have F1 := Lib.hid (box_chg B1.out k3 (by omega))
  have F2 := Lib.hid (box_chg B2.out k3 (by omega))
  have F3 := Lib.hid (box_chg B3.out k3 (by omega))
  have FS := Lib.hid (OsK.nil (B := w.heap.size + 1 + 1 + 1) (box_chg BS.out k3 (by omega)) (by omega))
  have HF3 := Lib.hid ((HF1.out.keep x3).less (B' := w.heap.size + 1 + 1 + 1) (by simp))
  have X3 := Lib.hid (Ext.trans X1.out x3)
  have hs3 := bx_lt e3
  clear e3 k3 x3 Z1 B1 B2 B3 BS HF1 X1 XO
  go_wp2
  cases qh : (rpOk r && sHearB r m 7)
  · have HQ := Lib.hid (hearR2_no (R2 := startR r m) (O := startO r m) (by rw [← HHe.out]; exact qh))
    (refine Rm.wp_region_mix' (R := relE W3.heap.size) (fun _ _ _ => True) (fun _ _ _ _ _ hq => hq) 19 (by first | exact Nat.le_refl _ | omega | (simp; omega)) (by kernel_rfl) (by kernel_rfl) ?_; simp only [List.take_succ_cons, List.take_zero, List.drop_succ_cons, List.drop_zero])
    (refine Rm.wpMix_loadAgg (fun W9' h9 => rp_whole F1.out h9) rfl rfl rfl Tryz.underlying43 (by kernel_rfl) ?_; simp only [Act.put, List.setIfInBounds_toArray, List.set_cons_zero, List.set_cons_succ])
    (refine Rm.wpMix_loadAgg (fun W9' h9 => mg_whole F2.out h9) rfl rfl rfl Tryz.underlying60 (by kernel_rfl) ?_; simp only [Act.put, List.setIfInBounds_toArray, List.set_cons_zero, List.set_cons_succ])
    (refine Rm.wpMix_det rfl rfl rfl (enters Tryz.func64 (by kernel_rfl) rfl) (fun W9' h9 => HHr.out W9' (Ext.trans X3.out h9)) rfl ?_; simp only [Act.put, List.setIfInBounds_toArray, List.set_cons_zero, List.set_cons_succ])
    ((try simp only [qh, Bool.not_true, Bool.not_false]); (iterate 2 (refine Rm.wpMix_plain rfl rfl ?_; go_big_quiet_step (fail); refine wpQuiet_nil ?_)); (iterate 3 (refine Rm.wpMix_skip rfl rfl ?_; simp only [Act.put, List.setIfInBounds_toArray, List.set_cons_zero, List.set_cons_succ])); (iterate 2 (refine Rm.wpMix_plain rfl rfl ?_; go_big_quiet_step (fail); refine wpQuiet_nil ?_)); (iterate 8 (refine Rm.wpMix_skip rfl rfl ?_; simp only [Act.put, List.setIfInBounds_toArray, List.set_cons_zero, List.set_cons_succ])); (iterate 1 (refine Rm.wpMix_plain rfl rfl ?_; go_big_quiet_step (fail); refine wpQuiet_nil ?_)))
    refine Rm.wpMix_nil ?_
    rintro w4 hW
    have x : Ext W3 w4 := hW
    obtain ⟨F1, F2, F3, E3, FS, HF3, X3⟩ : Hid _ ∧ Hid _ ∧ Hid _ ∧ Hid _ ∧ Hid _ ∧ Hid _ ∧ Hid _ := ⟨Lib.hid (x.box F1.out), Lib.hid (x.box F2.out), Lib.hid (x.box F3.out), Lib.hid (x.box E3.out), Lib.hid (FS.out.keep x), Lib.hid (HF3.out.keep x), Lib.hid (Ext.trans X3.out x)⟩
    have hsz_w4 := x.size
    clear x hW
    clear HHr
    (go_wp2_with (with_reducible refine wl_stop 30 ?_); refine stop_load (E3.out) rfl Tryz.underlying43 (by kernel_rfl) ?_; simp only [Act.put, List.setIfInBounds_toArray, List.set_cons_zero, List.set_cons_succ])
    (go_wp2_with (with_reducible refine wl_stopS 43 ?_); refine stop_store ((w.heap.size + 1 + 1)) (Rp.cs a1 A1 qs.length c1 (sameR r)) rfl rfl (F3.out) (by kernel_rfl) rfl (by simp [Value.oneCell']) ?_)
    intro W9 e9 k9
    have X9 := Lib.hid (chg_new X3.out k9 (by omega))
    have HE9 := Lib.hid e9
    have HT9 := Lib.hid (RoT.of (O := []) (HF3.out.boxed F3.out k9) (FS.out.boxed F3.out (by decide) (by decide) (by decide) (by decide) k9) rfl)
    clear e9 k9
    go_wp2
    refine bodyPost_ret (results_box2 Tryz.results31 rfl rfl Tryz.underlying43 (by kernel_rfl) HE9.out) rfl ⟨_, rfl, ?_, X9.out⟩
    rw [HQ.out.1, HQ.out.2]
    exact HT9.out
  · obtain ⟨hy1, hy2, hy3⟩ := hearR2_yes (r := r) (m := m) (kind := 7) (R2 := startR r m) (O := startO r m) (by rw [← HHe.out]; exact qh)
    have HY := Lib.hid (And.intro hy1 hy2)
    have HS3 := Lib.hid hy3
    obtain ⟨hq1, hq2, hq3⟩ := hear_facts (show (rpOk r && hearB r m 7) = true by rw [← HHe.out]; exact qh)
    have G := Lib.hid (rpOk_good hq1)
    have HIV := Lib.hid (rpOk_in hq1)
    clear hy1 hy2 hy3
    have HVm := Lib.hid (fits_in hq2 (by rw [hq3]; decide +kernel))
    have hlogm := fits_log hq2 (by rw [hq3]; decide +kernel)
    have HLm := Lib.hid hlogm.1
    clear hlogm hq1 hq2 hq3
    cases gl : liveB r
    · have HQ := Lib.hid (show hearR2 r m 7 (startR r m) = sameR r ∧ hearO r m 7 (startO r m) = [] by
      rw [HY.out.1, HY.out.2, HS3.out]
      constructor <;> simp only [startR, startO, startB, gl, Bool.true_and, Bool.false_and, Bool.and_true, Bool.and_false, Bool.true_or, Bool.false_or, Bool.or_true, Bool.or_false, Bool.not_true, Bool.not_false, Bool.false_eq_true, if_false, if_true, eq_self, List.append_nil, List.nil_append])
      (refine Rm.wp_region_mix' (R := relE W3.heap.size) (fun _ _ _ => True) (fun _ _ _ _ _ hq => hq) 19 (by first | exact Nat.le_refl _ | omega | (simp; omega)) (by kernel_rfl) (by kernel_rfl) ?_; simp only [List.take_succ_cons, List.take_zero, List.drop_succ_cons, List.drop_zero])
      (refine Rm.wpMix_loadAgg (fun W9' h9 => rp_whole F1.out h9) rfl rfl rfl Tryz.underlying43 (by kernel_rfl) ?_; simp only [Act.put, List.setIfInBounds_toArray, List.set_cons_zero, List.set_cons_succ])
      (refine Rm.wpMix_loadAgg (fun W9' h9 => mg_whole F2.out h9) rfl rfl rfl Tryz.underlying60 (by kernel_rfl) ?_; simp only [Act.put, List.setIfInBounds_toArray, List.set_cons_zero, List.set_cons_succ])
      (refine Rm.wpMix_det rfl rfl rfl (enters Tryz.func64 (by kernel_rfl) rfl) (fun W9' h9 => HHr.out W9' (Ext.trans X3.out h9)) rfl ?_; simp only [Act.put, List.setIfInBounds_toArray, List.set_cons_zero, List.set_cons_succ])
      ((try simp only [qh, Bool.not_true, Bool.not_false]); (iterate 2 (refine Rm.wpMix_plain rfl rfl ?_; go_big_quiet_step (fail); refine wpQuiet_nil ?_)))
      (refine Rm.wpMix_loadAgg (fun W9' h9 => rp_whole F1.out h9) rfl rfl rfl Tryz.underlying43 (by kernel_rfl) ?_; simp only [Act.put, List.setIfInBounds_toArray, List.set_cons_zero, List.set_cons_succ])
      (refine Rm.wpMix_det rfl rfl rfl (enters Tryz.func65 (by kernel_rfl) rfl) (fun W9' h9 => c_l6Live a A _ c r W9') rfl ?_; simp only [Act.put, List.setIfInBounds_toArray, List.set_cons_zero, List.set_cons_succ])
      ((try simp only [gl, Bool.not_true, Bool.not_false]); (iterate 3 (refine Rm.wpMix_plain rfl rfl ?_; go_big_quiet_step (fail); refine wpQuiet_nil ?_)); (iterate 8 (refine Rm.wpMix_skip rfl rfl ?_; simp only [Act.put, List.setIfInBounds_toArray, List.set_cons_zero, List.set_cons_succ])); (iterate 1 (refine Rm.wpMix_plain rfl rfl ?_; go_big_quiet_step (fail); refine wpQuiet_nil ?_)))
      refine Rm.wpMix_nil ?_
      rintro w4 hW
      have x : Ext W3 w4 := hW
      obtain ⟨F1, F2, F3, E3, FS, HF3, X3⟩ : Hid _ ∧ Hid _ ∧ Hid _ ∧ Hid _ ∧ Hid _ ∧ Hid _ ∧ Hid _ := ⟨Lib.hid (x.box F1.out), Lib.hid (x.box F2.out), Lib.hid (x.box F3.out), Lib.hid (x.box E3.out), Lib.hid (FS.out.keep x), Lib.hid (HF3.out.keep x), Lib.hid (Ext.trans X3.out x)⟩
      have hsz_w4 := x.size
      clear x hW
      clear HHr
      (go_wp2_with (with_reducible refine wl_stop 30 ?_); refine stop_load (E3.out) rfl Tryz.underlying43 (by kernel_rfl) ?_; simp only [Act.put, List.setIfInBounds_toArray, List.set_cons_zero, List.set_cons_succ])
      (go_wp2_with (with_reducible refine wl_stopS 43 ?_); refine stop_store ((w.heap.size + 1 + 1)) (Rp.cs a1 A1 qs.length c1 (sameR r)) rfl rfl (F3.out) (by kernel_rfl) rfl (by simp [Value.oneCell']) ?_)
      intro W9 e9 k9
      have X9 := Lib.hid (chg_new X3.out k9 (by omega))
      have HE9 := Lib.hid e9
      have HT9 := Lib.hid (RoT.of (O := []) (HF3.out.boxed F3.out k9) (FS.out.boxed F3.out (by decide) (by decide) (by decide) (by decide) k9) rfl)
      clear e9 k9
      go_wp2
      refine bodyPost_ret (results_box2 Tryz.results31 rfl rfl Tryz.underlying43 (by kernel_rfl) HE9.out) rfl ⟨_, rfl, ?_, X9.out⟩
      rw [HQ.out.1, HQ.out.2]
      exact HT9.out
    · cases g2 : (m.view % r.of != m.frm)
      · have hf1 : (m.frm == m.view % r.of) = true := by simp at g2 ⊢; exact g2.symm
        (refine Rm.wp_region_mix' (R := relE W3.heap.size) (fun _ _ _ => True) (fun _ _ _ _ _ hq => hq) 19 (by first | exact Nat.le_refl _ | omega | (simp; omega)) (by kernel_rfl) (by kernel_rfl) ?_; simp only [List.take_succ_cons, List.take_zero, List.drop_succ_cons, List.drop_zero])
        (refine Rm.wpMix_loadAgg (fun W9' h9 => rp_whole F1.out h9) rfl rfl rfl Tryz.underlying43 (by kernel_rfl) ?_; simp only [Act.put, List.setIfInBounds_toArray, List.set_cons_zero, List.set_cons_succ])
        (refine Rm.wpMix_loadAgg (fun W9' h9 => mg_whole F2.out h9) rfl rfl rfl Tryz.underlying60 (by kernel_rfl) ?_; simp only [Act.put, List.setIfInBounds_toArray, List.set_cons_zero, List.set_cons_succ])
        (refine Rm.wpMix_det rfl rfl rfl (enters Tryz.func64 (by kernel_rfl) rfl) (fun W9' h9 => HHr.out W9' (Ext.trans X3.out h9)) rfl ?_; simp only [Act.put, List.setIfInBounds_toArray, List.set_cons_zero, List.set_cons_succ])
        ((try simp only [qh, Bool.not_true, Bool.not_false]); (iterate 2 (refine Rm.wpMix_plain rfl rfl ?_; go_big_quiet_step (fail); refine wpQuiet_nil ?_)))
        (refine Rm.wpMix_loadAgg (fun W9' h9 => rp_whole F1.out h9) rfl rfl rfl Tryz.underlying43 (by kernel_rfl) ?_; simp only [Act.put, List.setIfInBounds_toArray, List.set_cons_zero, List.set_cons_succ])
        (refine Rm.wpMix_det rfl rfl rfl (enters Tryz.func65 (by kernel_rfl) rfl) (fun W9' h9 => c_l6Live a A _ c r W9') rfl ?_; simp only [Act.put, List.setIfInBounds_toArray, List.set_cons_zero, List.set_cons_succ])
        ((try simp only [gl, Bool.not_true, Bool.not_false]); (iterate 3 (refine Rm.wpMix_plain rfl rfl ?_; go_big_quiet_step (fail); refine wpQuiet_nil ?_)); (iterate 1 (refine Rm.wpMix_plain rfl rfl ?_; go_big_quiet_step (fail); refine wpQuiet_nil ?_)); (refine Rm.wpMix_load1 (fun W9' h9 => show W9'.cell? _ = some (.int .i64 m.view) from bx_cell (Ext.box h9 F2.out) 2) rfl rfl rfl Tryz.underlying3 rfl ?_; simp only [Act.put, List.setIfInBounds_toArray, List.set_cons_zero, List.set_cons_succ]); (iterate 1 (refine Rm.wpMix_plain rfl rfl ?_; go_big_quiet_step (fail); refine wpQuiet_nil ?_)); (refine Rm.wpMix_load1 (fun W9' h9 => show W9'.cell? _ = some (.int .i64 r.of) from bx_cell (Ext.box h9 F1.out) 1) rfl rfl rfl Tryz.underlying3 rfl ?_; simp only [Act.put, List.setIfInBounds_toArray, List.set_cons_zero, List.set_cons_succ]))
        (refine Rm.wpMix_det rfl rfl rfl (enters Tryz.func68 (by kernel_rfl) rfl) (fun W9' h9 => c_sPrimaryOf m.view r.of W9' HVm.out HIV.out.2) rfl ?_; simp only [Act.put, List.setIfInBounds_toArray, List.set_cons_zero, List.set_cons_succ])
        ((iterate 1 (refine Rm.wpMix_plain rfl rfl ?_; go_big_quiet_step (fail); refine wpQuiet_nil ?_)); (refine Rm.wpMix_load1 (fun W9' h9 => show W9'.cell? _ = some (.int .i64 m.frm) from bx_cell (Ext.box h9 F2.out) 1) rfl rfl rfl Tryz.underlying3 rfl ?_; simp only [Act.put, List.setIfInBounds_toArray, List.set_cons_zero, List.set_cons_succ]); (iterate 1 (refine Rm.wpMix_plain rfl rfl ?_; go_big_quiet_step (fail); refine wpQuiet_nil ?_)); (try simp only [g2, Bool.not_true, Bool.not_false]); (iterate 1 (refine Rm.wpMix_plain rfl rfl ?_; go_big_quiet_step (fail); refine wpQuiet_nil ?_)))
        refine Rm.wpMix_nil ?_
        rintro w4 hW
        have x : Ext W3 w4 := hW
        obtain ⟨F1, F2, F3, E3, FS, HF3, X3⟩ : Hid _ ∧ Hid _ ∧ Hid _ ∧ Hid _ ∧ Hid _ ∧ Hid _ ∧ Hid _ := ⟨Lib.hid (x.box F1.out), Lib.hid (x.box F2.out), Lib.hid (x.box F3.out), Lib.hid (x.box E3.out), Lib.hid (FS.out.keep x), Lib.hid (HF3.out.keep x), Lib.hid (Ext.trans X3.out x)⟩
        have hsz_w4 := x.size
        clear x hW
        clear HHr
        have d1 := bx_cell F1.out
        have d2 := bx_cell F2.out
        have z1 := bx_lt F1.out
        have z2 := bx_lt F2.out
        cases g3 : decide (m.view < r.view)
        · cases g4 : (m.view == r.view)
          · have h1 : decide (r.view < m.view) = true := by simp at g3 g4 ⊢; omega
            have HQ := Lib.hid (show hearR2 r m 7 (startR r m) = r.lead m.view m.log (max m.commit r.commit) ∧ hearO r m 7 (startO r m) = [⟨m.frm, okM (r.lead m.view m.log (max m.commit r.commit))⟩] by
              rw [HY.out.1, HY.out.2]
              have hB : startB r m = true := by simp only [startB, gl, hf1, h1, Bool.true_and, Bool.false_and, Bool.and_true, Bool.and_false, Bool.true_or, Bool.false_or, Bool.or_true, Bool.or_false, Bool.not_true, Bool.not_false, Bool.false_eq_true, if_false, if_true, eq_self, List.append_nil, List.nil_append]
              constructor <;> simp only [startR, startO, hB, if_true, eq_self])
            rw [HS3.out] at E3 HF3
            (go_wp2_with (with_reducible refine wl_stop 51 ?_); refine stop_load (E3.out) rfl Tryz.underlying43 (by kernel_rfl) ?_; simp only [Act.put, List.setIfInBounds_toArray, List.set_cons_zero, List.set_cons_succ])
            (go_wp2_with (with_reducible refine wl_stop 55 ?_); refine stop_loadAgg (mg_log2 F2.out (ext_refl _)) rfl Tryz.underlying40 (by kernel_rfl) ?_; simp only [Act.put, List.setIfInBounds_toArray, List.set_cons_zero, List.set_cons_succ])
            go_wp2_with fail
            refine (c_l7Take a1 A1 qs.length c1 r m.view am m.log m.commit _ (HM.out.keep X3.out) HMs.out HLm.out).mono ?_
            rintro e w5 ⟨⟨a2, gq, rfl, hf2⟩, x⟩
            obtain ⟨F1, F2, F3, E3, FS, X3⟩ : Hid _ ∧ Hid _ ∧ Hid _ ∧ Hid _ ∧ Hid _ ∧ Hid _ := ⟨Lib.hid (x.box F1.out), Lib.hid (x.box F2.out), Lib.hid (x.box F3.out), Lib.hid (x.box E3.out), Lib.hid (FS.out.keep x), Lib.hid (Ext.trans X3.out x)⟩
            have hsz_w5 := x.size
            have HF2 := Lib.hid (hf2.less (show w.heap.size + 1 + 1 + 1 ≤ _ by omega))
            clear x hf2 d1 z1 d2 z2 HF3
            (go_wp2_with (with_reducible refine wl_stopS 43 ?_); refine stop_store ((w1.heap.size + 1)) (Rp.cs a2 (some ⟨gq, 0, none⟩) 0 0 (r.lead m.view m.log (max m.commit r.commit))) rfl rfl (E3.out) (by kernel_rfl) rfl (by simp [Value.oneCell']) ?_)
            intro u8 e8 k8
            simp only [Act.put, List.setIfInBounds_toArray, List.set_cons_zero, List.set_cons_succ]
            have hlt8 := bx_lt e8
            obtain ⟨F1, F2, F3, E3, FS, X3, HF3⟩ : Hid _ ∧ Hid _ ∧ Hid _ ∧ Hid _ ∧ Hid _ ∧ Hid _ ∧ Hid _ := ⟨Lib.hid (box_chg F1.out k8 (by omega)), Lib.hid (box_chg F2.out k8 (by omega)), Lib.hid (box_chg F3.out k8 (by omega)), Lib.hid e8, Lib.hid (FS.out.boxed E3.out (by decide) (by decide) (by decide) (by decide) k8), Lib.hid (ext_chg X3.out k8 (fun g hg => by rw [List.mem_singleton] at hg; omega)), Lib.hid (HF2.out.boxed E3.out k8)⟩
            clear e8 k8 HF2
            go_wp2
            have hq9 : w.heap.size + 1 + 1 < u8.heap.size := by omega
            have HW1 := Lib.hid (fun W' (h : (relS (w.heap.size + 1 + 1) (.cells (Rp.cs a2 (some ⟨gq, 0, none⟩) 0 0 (r.lead m.view m.log (max m.commit r.commit))) 43) u8.heap.size hq9).rel u8 W') => cells_mid (cs := Rp.cs a2 (some ⟨gq, 0, none⟩) 0 0 (r.lead m.view m.log (max m.commit r.commit))) (relS_box E3.out (by omega) W' h) [] [] rfl rfl)
            have HW2 := Lib.hid (fun W' (h : (relS (w.heap.size + 1 + 1) (.cells (Rp.cs a2 (some ⟨gq, 0, none⟩) 0 0 (r.lead m.view m.log (max m.commit r.commit))) 43) u8.heap.size hq9).rel u8 W') => cells_mid (cs := Lg.cs am m.log) (relS_box F2.out (by omega) W' h) [.int .i64 m.kind, .int .i64 m.frm, .int .i64 m.view, .int .i64 m.op, .int .i64 m.commit, .int .i64 m.normal, .int .i64 m.nonce, .int .i64 m.client, .int .i64 m.req, .int .i64 m.answer, .int .i64 m.ck, .int .i64 m.cx, .int .i64 m.cv] [] rfl rfl)
            (refine Rm.wp_region_mix' (R := relS (w.heap.size + 1 + 1) (.cells (Rp.cs a2 (some ⟨gq, 0, none⟩) 0 0 (r.lead m.view m.log (max m.commit r.commit))) 43) u8.heap.size hq9) (stored (w.heap.size + 1 + 1) (.cells (Rp.cs a2 (some ⟨gq, 0, none⟩) 0 0 (r.lead m.view m.log (max m.commit r.commit))) 43)) (fun _ _ _ _ _ hq => hq) 14 (by first | exact Nat.le_refl _ | omega | (simp; omega)) (by kernel_rfl) (by kernel_rfl) ?_; simp only [List.take_succ_cons, List.take_zero, List.drop_succ_cons, List.drop_zero])
            (refine Rm.wpMix_loadAgg (HW1.out) rfl rfl rfl Tryz.underlying43 (by kernel_rfl) ?_; simp only [Act.put, List.setIfInBounds_toArray, List.set_cons_zero, List.set_cons_succ])
            ((iterate 1 (refine Rm.wpMix_plain rfl rfl ?_; go_big_quiet_step (fail); refine wpQuiet_nil ?_)); (refine Rm.wpMix_load1 (fun W9' h9 => show W9'.cell? _ = some (.int .i64 m.frm) from bx_cell (relS_box F2.out (by omega) W9' h9) 1) rfl rfl rfl Tryz.underlying3 rfl ?_; simp only [Act.put, List.setIfInBounds_toArray, List.set_cons_zero, List.set_cons_succ]); (iterate 1 (refine Rm.wpMix_plain rfl rfl ?_; go_big_quiet_step (fail); refine wpQuiet_nil ?_)); (refine Rm.wpMix_load1 (fun W9' h9 => show W9'.cell? _ = some (.int .i64 r.me) from bx_cell (relS_box F1.out (by omega) W9' h9) 0) rfl rfl rfl Tryz.underlying3 rfl ?_; simp only [Act.put, List.setIfInBounds_toArray, List.set_cons_zero, List.set_cons_succ]); (iterate 1 (refine Rm.wpMix_plain rfl rfl ?_; go_big_quiet_step (fail); refine wpQuiet_nil ?_)); (refine Rm.wpMix_load1 (fun W9' h9 => show W9'.cell? _ = some (.int .i64 m.view) from bx_cell (relS_box F2.out (by omega) W9' h9) 2) rfl rfl rfl Tryz.underlying3 rfl ?_; simp only [Act.put, List.setIfInBounds_toArray, List.set_cons_zero, List.set_cons_succ]); (iterate 1 (refine Rm.wpMix_plain rfl rfl ?_; go_big_quiet_step (fail); refine wpQuiet_nil ?_)))
            (refine Rm.wpMix_loadAgg (HW2.out) rfl rfl rfl Tryz.underlying40 (by kernel_rfl) ?_; simp only [Act.put, List.setIfInBounds_toArray, List.set_cons_zero, List.set_cons_succ])
            (refine Rm.wpMix_det rfl rfl rfl (enters Tryz.func69 (by kernel_rfl) rfl) (fun W9' h9 => (c_sLogEnd am m.log HMs.out.1 HMs.out.2.1 HMs.out.2.2 W9' (HM.out.keep (ext_chg X3.out h9.1 (fun g hg => by rw [List.mem_singleton] at hg; omega))) HLm.out).mono fun e w' ⟨he, hx⟩ => ⟨he, Rm.Rel.ext _ _ _ hx⟩) rfl ?_; simp only [Act.put, List.setIfInBounds_toArray, List.set_cons_zero, List.set_cons_succ])
            (iterate 2 (refine Rm.wpMix_plain rfl rfl ?_; go_big_quiet_step (fail); refine wpQuiet_nil ?_))
            (refine Rm.wpMix_alloc (.cells (OtE.cells LAd.none ⟨m.frm, okM (r.lead m.view m.log (max m.commit r.commit))⟩) 100) rfl (fun W => by kernel_rfl) ?_; intro p1 hp1 hps1 hpi1; simp only [layVal, Act.put, List.setIfInBounds_toArray, List.set_cons_zero, List.set_cons_succ])
            refine wpMix_st F3.out rfl rfl rfl rfl rfl (by kernel_rfl) rfl (by simp [Value.oneCell']) ?_
            simp only [Act.put, List.setIfInBounds_toArray, List.set_cons_zero, List.set_cons_succ]
            refine Rm.wpMix_nil ?_
            rintro W9 ⟨⟨h9, hp9⟩, e9⟩
            have c9 := h9.1
            have HE9 := Lib.hid e9
            have HX9 := Lib.hid (ext_chg X3.out c9 (fun g hg => by rw [List.mem_singleton] at hg; omega))
            have HT9 := Lib.hid (RoT.of (B := 0) (HF3.out.chg c9 (fun k hk => by rw [List.mem_singleton] at hk; omega)) (OsK.one hp9 (Nat.zero_le _) (none_lgF _ _)) rfl)
            clear c9 h9 e9 hp9 hp1 hps1 hpi1
            go_wp2
            refine bodyPost_ret (results_box2 Tryz.results31 rfl rfl Tryz.underlying43 (by kernel_rfl) HE9.out) rfl ⟨_, rfl, ?_, HX9.out⟩
            rw [HQ.out.1, HQ.out.2]
            exact HT9.out
          · cases g5 : (r.mode != 2)
            · have h2 : (m.view == r.view) = true := g4
              have h5 : (r.mode == 2) = true := by simpa using g5
              have h1 : decide (r.view < m.view) = false := by simp at g4 ⊢; omega
              have HQ := Lib.hid (show hearR2 r m 7 (startR r m) = r.lead m.view m.log (max m.commit r.commit) ∧ hearO r m 7 (startO r m) = [⟨m.frm, okM (r.lead m.view m.log (max m.commit r.commit))⟩] by
                rw [HY.out.1, HY.out.2]
                have hB : startB r m = true := by simp only [startB, gl, hf1, h1, h2, h5, Bool.true_and, Bool.false_and, Bool.and_true, Bool.and_false, Bool.true_or, Bool.false_or, Bool.or_true, Bool.or_false, Bool.not_true, Bool.not_false, Bool.false_eq_true, if_false, if_true, eq_self, List.append_nil, List.nil_append]
                constructor <;> simp only [startR, startO, hB, if_true, eq_self])
              rw [HS3.out] at E3 HF3
              (go_wp2_with (with_reducible refine wl_stop 51 ?_); refine stop_load (E3.out) rfl Tryz.underlying43 (by kernel_rfl) ?_; simp only [Act.put, List.setIfInBounds_toArray, List.set_cons_zero, List.set_cons_succ])
              (go_wp2_with (with_reducible refine wl_stop 55 ?_); refine stop_loadAgg (mg_log2 F2.out (ext_refl _)) rfl Tryz.underlying40 (by kernel_rfl) ?_; simp only [Act.put, List.setIfInBounds_toArray, List.set_cons_zero, List.set_cons_succ])
              go_wp2_with fail
              refine (c_l7Take a1 A1 qs.length c1 r m.view am m.log m.commit _ (HM.out.keep X3.out) HMs.out HLm.out).mono ?_
              rintro e w5 ⟨⟨a2, gq, rfl, hf2⟩, x⟩
              obtain ⟨F1, F2, F3, E3, FS, X3⟩ : Hid _ ∧ Hid _ ∧ Hid _ ∧ Hid _ ∧ Hid _ ∧ Hid _ := ⟨Lib.hid (x.box F1.out), Lib.hid (x.box F2.out), Lib.hid (x.box F3.out), Lib.hid (x.box E3.out), Lib.hid (FS.out.keep x), Lib.hid (Ext.trans X3.out x)⟩
              have hsz_w5 := x.size
              have HF2 := Lib.hid (hf2.less (show w.heap.size + 1 + 1 + 1 ≤ _ by omega))
              clear x hf2 d1 z1 d2 z2 HF3
              (go_wp2_with (with_reducible refine wl_stopS 43 ?_); refine stop_store ((w1.heap.size + 1)) (Rp.cs a2 (some ⟨gq, 0, none⟩) 0 0 (r.lead m.view m.log (max m.commit r.commit))) rfl rfl (E3.out) (by kernel_rfl) rfl (by simp [Value.oneCell']) ?_)
              intro u8 e8 k8
              simp only [Act.put, List.setIfInBounds_toArray, List.set_cons_zero, List.set_cons_succ]
              have hlt8 := bx_lt e8
              obtain ⟨F1, F2, F3, E3, FS, X3, HF3⟩ : Hid _ ∧ Hid _ ∧ Hid _ ∧ Hid _ ∧ Hid _ ∧ Hid _ ∧ Hid _ := ⟨Lib.hid (box_chg F1.out k8 (by omega)), Lib.hid (box_chg F2.out k8 (by omega)), Lib.hid (box_chg F3.out k8 (by omega)), Lib.hid e8, Lib.hid (FS.out.boxed E3.out (by decide) (by decide) (by decide) (by decide) k8), Lib.hid (ext_chg X3.out k8 (fun g hg => by rw [List.mem_singleton] at hg; omega)), Lib.hid (HF2.out.boxed E3.out k8)⟩
              clear e8 k8 HF2
              go_wp2
              have hq9 : w.heap.size + 1 + 1 < u8.heap.size := by omega
              have HW1 := Lib.hid (fun W' (h : (relS (w.heap.size + 1 + 1) (.cells (Rp.cs a2 (some ⟨gq, 0, none⟩) 0 0 (r.lead m.view m.log (max m.commit r.commit))) 43) u8.heap.size hq9).rel u8 W') => cells_mid (cs := Rp.cs a2 (some ⟨gq, 0, none⟩) 0 0 (r.lead m.view m.log (max m.commit r.commit))) (relS_box E3.out (by omega) W' h) [] [] rfl rfl)
              have HW2 := Lib.hid (fun W' (h : (relS (w.heap.size + 1 + 1) (.cells (Rp.cs a2 (some ⟨gq, 0, none⟩) 0 0 (r.lead m.view m.log (max m.commit r.commit))) 43) u8.heap.size hq9).rel u8 W') => cells_mid (cs := Lg.cs am m.log) (relS_box F2.out (by omega) W' h) [.int .i64 m.kind, .int .i64 m.frm, .int .i64 m.view, .int .i64 m.op, .int .i64 m.commit, .int .i64 m.normal, .int .i64 m.nonce, .int .i64 m.client, .int .i64 m.req, .int .i64 m.answer, .int .i64 m.ck, .int .i64 m.cx, .int .i64 m.cv] [] rfl rfl)
              (refine Rm.wp_region_mix' (R := relS (w.heap.size + 1 + 1) (.cells (Rp.cs a2 (some ⟨gq, 0, none⟩) 0 0 (r.lead m.view m.log (max m.commit r.commit))) 43) u8.heap.size hq9) (stored (w.heap.size + 1 + 1) (.cells (Rp.cs a2 (some ⟨gq, 0, none⟩) 0 0 (r.lead m.view m.log (max m.commit r.commit))) 43)) (fun _ _ _ _ _ hq => hq) 14 (by first | exact Nat.le_refl _ | omega | (simp; omega)) (by kernel_rfl) (by kernel_rfl) ?_; simp only [List.take_succ_cons, List.take_zero, List.drop_succ_cons, List.drop_zero])
              (refine Rm.wpMix_loadAgg (HW1.out) rfl rfl rfl Tryz.underlying43 (by kernel_rfl) ?_; simp only [Act.put, List.setIfInBounds_toArray, List.set_cons_zero, List.set_cons_succ])
              ((iterate 1 (refine Rm.wpMix_plain rfl rfl ?_; go_big_quiet_step (fail); refine wpQuiet_nil ?_)); (refine Rm.wpMix_load1 (fun W9' h9 => show W9'.cell? _ = some (.int .i64 m.frm) from bx_cell (relS_box F2.out (by omega) W9' h9) 1) rfl rfl rfl Tryz.underlying3 rfl ?_; simp only [Act.put, List.setIfInBounds_toArray, List.set_cons_zero, List.set_cons_succ]); (iterate 1 (refine Rm.wpMix_plain rfl rfl ?_; go_big_quiet_step (fail); refine wpQuiet_nil ?_)); (refine Rm.wpMix_load1 (fun W9' h9 => show W9'.cell? _ = some (.int .i64 r.me) from bx_cell (relS_box F1.out (by omega) W9' h9) 0) rfl rfl rfl Tryz.underlying3 rfl ?_; simp only [Act.put, List.setIfInBounds_toArray, List.set_cons_zero, List.set_cons_succ]); (iterate 1 (refine Rm.wpMix_plain rfl rfl ?_; go_big_quiet_step (fail); refine wpQuiet_nil ?_)); (refine Rm.wpMix_load1 (fun W9' h9 => show W9'.cell? _ = some (.int .i64 m.view) from bx_cell (relS_box F2.out (by omega) W9' h9) 2) rfl rfl rfl Tryz.underlying3 rfl ?_; simp only [Act.put, List.setIfInBounds_toArray, List.set_cons_zero, List.set_cons_succ]); (iterate 1 (refine Rm.wpMix_plain rfl rfl ?_; go_big_quiet_step (fail); refine wpQuiet_nil ?_)))
              (refine Rm.wpMix_loadAgg (HW2.out) rfl rfl rfl Tryz.underlying40 (by kernel_rfl) ?_; simp only [Act.put, List.setIfInBounds_toArray, List.set_cons_zero, List.set_cons_succ])
              (refine Rm.wpMix_det rfl rfl rfl (enters Tryz.func69 (by kernel_rfl) rfl) (fun W9' h9 => (c_sLogEnd am m.log HMs.out.1 HMs.out.2.1 HMs.out.2.2 W9' (HM.out.keep (ext_chg X3.out h9.1 (fun g hg => by rw [List.mem_singleton] at hg; omega))) HLm.out).mono fun e w' ⟨he, hx⟩ => ⟨he, Rm.Rel.ext _ _ _ hx⟩) rfl ?_; simp only [Act.put, List.setIfInBounds_toArray, List.set_cons_zero, List.set_cons_succ])
              (iterate 2 (refine Rm.wpMix_plain rfl rfl ?_; go_big_quiet_step (fail); refine wpQuiet_nil ?_))
              (refine Rm.wpMix_alloc (.cells (OtE.cells LAd.none ⟨m.frm, okM (r.lead m.view m.log (max m.commit r.commit))⟩) 100) rfl (fun W => by kernel_rfl) ?_; intro p1 hp1 hps1 hpi1; simp only [layVal, Act.put, List.setIfInBounds_toArray, List.set_cons_zero, List.set_cons_succ])
              refine wpMix_st F3.out rfl rfl rfl rfl rfl (by kernel_rfl) rfl (by simp [Value.oneCell']) ?_
              simp only [Act.put, List.setIfInBounds_toArray, List.set_cons_zero, List.set_cons_succ]
              refine Rm.wpMix_nil ?_
              rintro W9 ⟨⟨h9, hp9⟩, e9⟩
              have c9 := h9.1
              have HE9 := Lib.hid e9
              have HX9 := Lib.hid (ext_chg X3.out c9 (fun g hg => by rw [List.mem_singleton] at hg; omega))
              have HT9 := Lib.hid (RoT.of (B := 0) (HF3.out.chg c9 (fun k hk => by rw [List.mem_singleton] at hk; omega)) (OsK.one hp9 (Nat.zero_le _) (none_lgF _ _)) rfl)
              clear c9 h9 e9 hp9 hp1 hps1 hpi1
              go_wp2
              refine bodyPost_ret (results_box2 Tryz.results31 rfl rfl Tryz.underlying43 (by kernel_rfl) HE9.out) rfl ⟨_, rfl, ?_, HX9.out⟩
              rw [HQ.out.1, HQ.out.2]
              exact HT9.out
            · have h5 : (r.mode == 2) = false := by simpa using g5
              have h1 : decide (r.view < m.view) = false := by simp at g4 ⊢; omega
              have HQ := Lib.hid (show hearR2 r m 7 (startR r m) = sameR r ∧ hearO r m 7 (startO r m) = [] by
                rw [HY.out.1, HY.out.2, HS3.out]
                constructor <;> simp only [startR, startO, startB, h1, h5, Bool.true_and, Bool.false_and, Bool.and_true, Bool.and_false, Bool.true_or, Bool.false_or, Bool.or_true, Bool.or_false, Bool.not_true, Bool.not_false, Bool.false_eq_true, if_false, if_true, eq_self, List.append_nil, List.nil_append])
              (go_wp2_with (with_reducible refine wl_stop 49 ?_); refine stop_load (E3.out) rfl Tryz.underlying43 (by kernel_rfl) ?_; simp only [Act.put, List.setIfInBounds_toArray, List.set_cons_zero, List.set_cons_succ])
              clear d1 d2 z1 z2
              (go_wp2_with (with_reducible refine wl_stopS 43 ?_); refine stop_store ((w.heap.size + 1 + 1)) (Rp.cs a1 A1 qs.length c1 (sameR r)) rfl rfl (F3.out) (by kernel_rfl) rfl (by simp [Value.oneCell']) ?_)
              intro W9 e9 k9
              have X9 := Lib.hid (chg_new X3.out k9 (by omega))
              have HE9 := Lib.hid e9
              have HT9 := Lib.hid (RoT.of (O := []) (HF3.out.boxed F3.out k9) (FS.out.boxed F3.out (by decide) (by decide) (by decide) (by decide) k9) rfl)
              clear e9 k9
              go_wp2
              refine bodyPost_ret (results_box2 Tryz.results31 rfl rfl Tryz.underlying43 (by kernel_rfl) HE9.out) rfl ⟨_, rfl, ?_, X9.out⟩
              rw [HQ.out.1, HQ.out.2]
              exact HT9.out
        · have h1 : decide (r.view < m.view) = false := by simp at g3 ⊢; omega
          have h2 : (m.view == r.view) = false := by simp at g3 ⊢; omega
          have HQ := Lib.hid (show hearR2 r m 7 (startR r m) = sameR r ∧ hearO r m 7 (startO r m) = [] by
            rw [HY.out.1, HY.out.2, HS3.out]
            constructor <;> simp only [startR, startO, startB, h1, h2, Bool.true_and, Bool.false_and, Bool.and_true, Bool.and_false, Bool.true_or, Bool.false_or, Bool.or_true, Bool.or_false, Bool.not_true, Bool.not_false, Bool.false_eq_true, if_false, if_true, eq_self, List.append_nil, List.nil_append])
          (go_wp2_with (with_reducible refine wl_stop 49 ?_); refine stop_load (E3.out) rfl Tryz.underlying43 (by kernel_rfl) ?_; simp only [Act.put, List.setIfInBounds_toArray, List.set_cons_zero, List.set_cons_succ])
          clear d1 d2 z1 z2
          (go_wp2_with (with_reducible refine wl_stopS 43 ?_); refine stop_store ((w.heap.size + 1 + 1)) (Rp.cs a1 A1 qs.length c1 (sameR r)) rfl rfl (F3.out) (by kernel_rfl) rfl (by simp [Value.oneCell']) ?_)
          intro W9 e9 k9
          have X9 := Lib.hid (chg_new X3.out k9 (by omega))
          have HE9 := Lib.hid e9
          have HT9 := Lib.hid (RoT.of (O := []) (HF3.out.boxed F3.out k9) (FS.out.boxed F3.out (by decide) (by decide) (by decide) (by decide) k9) rfl)
          clear e9 k9
          go_wp2
          refine bodyPost_ret (results_box2 Tryz.results31 rfl rfl Tryz.underlying43 (by kernel_rfl) HE9.out) rfl ⟨_, rfl, ?_, X9.out⟩
          rw [HQ.out.1, HQ.out.2]
          exact HT9.out
      · have hg : (m.frm == m.view % r.of) = false := by simp at g2 ⊢; exact fun h => g2 h.symm
        have HQ := Lib.hid (show hearR2 r m 7 (startR r m) = sameR r ∧ hearO r m 7 (startO r m) = [] by
          rw [HY.out.1, HY.out.2, HS3.out]
          constructor <;> simp only [startR, startO, startB, gl, hg, Bool.true_and, Bool.false_and, Bool.and_true, Bool.and_false, Bool.true_or, Bool.false_or, Bool.or_true, Bool.or_false, Bool.not_true, Bool.not_false, Bool.false_eq_true, if_false, if_true, eq_self, List.append_nil, List.nil_append])
        (refine Rm.wp_region_mix' (R := relE W3.heap.size) (fun _ _ _ => True) (fun _ _ _ _ _ hq => hq) 19 (by first | exact Nat.le_refl _ | omega | (simp; omega)) (by kernel_rfl) (by kernel_rfl) ?_; simp only [List.take_succ_cons, List.take_zero, List.drop_succ_cons, List.drop_zero])
        (refine Rm.wpMix_loadAgg (fun W9' h9 => rp_whole F1.out h9) rfl rfl rfl Tryz.underlying43 (by kernel_rfl) ?_; simp only [Act.put, List.setIfInBounds_toArray, List.set_cons_zero, List.set_cons_succ])
        (refine Rm.wpMix_loadAgg (fun W9' h9 => mg_whole F2.out h9) rfl rfl rfl Tryz.underlying60 (by kernel_rfl) ?_; simp only [Act.put, List.setIfInBounds_toArray, List.set_cons_zero, List.set_cons_succ])
        (refine Rm.wpMix_det rfl rfl rfl (enters Tryz.func64 (by kernel_rfl) rfl) (fun W9' h9 => HHr.out W9' (Ext.trans X3.out h9)) rfl ?_; simp only [Act.put, List.setIfInBounds_toArray, List.set_cons_zero, List.set_cons_succ])
        ((try simp only [qh, Bool.not_true, Bool.not_false]); (iterate 2 (refine Rm.wpMix_plain rfl rfl ?_; go_big_quiet_step (fail); refine wpQuiet_nil ?_)))
        (refine Rm.wpMix_loadAgg (fun W9' h9 => rp_whole F1.out h9) rfl rfl rfl Tryz.underlying43 (by kernel_rfl) ?_; simp only [Act.put, List.setIfInBounds_toArray, List.set_cons_zero, List.set_cons_succ])
        (refine Rm.wpMix_det rfl rfl rfl (enters Tryz.func65 (by kernel_rfl) rfl) (fun W9' h9 => c_l6Live a A _ c r W9') rfl ?_; simp only [Act.put, List.setIfInBounds_toArray, List.set_cons_zero, List.set_cons_succ])
        ((try simp only [gl, Bool.not_true, Bool.not_false]); (iterate 3 (refine Rm.wpMix_plain rfl rfl ?_; go_big_quiet_step (fail); refine wpQuiet_nil ?_)); (iterate 1 (refine Rm.wpMix_plain rfl rfl ?_; go_big_quiet_step (fail); refine wpQuiet_nil ?_)); (refine Rm.wpMix_load1 (fun W9' h9 => show W9'.cell? _ = some (.int .i64 m.view) from bx_cell (Ext.box h9 F2.out) 2) rfl rfl rfl Tryz.underlying3 rfl ?_; simp only [Act.put, List.setIfInBounds_toArray, List.set_cons_zero, List.set_cons_succ]); (iterate 1 (refine Rm.wpMix_plain rfl rfl ?_; go_big_quiet_step (fail); refine wpQuiet_nil ?_)); (refine Rm.wpMix_load1 (fun W9' h9 => show W9'.cell? _ = some (.int .i64 r.of) from bx_cell (Ext.box h9 F1.out) 1) rfl rfl rfl Tryz.underlying3 rfl ?_; simp only [Act.put, List.setIfInBounds_toArray, List.set_cons_zero, List.set_cons_succ]))
        (refine Rm.wpMix_det rfl rfl rfl (enters Tryz.func68 (by kernel_rfl) rfl) (fun W9' h9 => c_sPrimaryOf m.view r.of W9' HVm.out HIV.out.2) rfl ?_; simp only [Act.put, List.setIfInBounds_toArray, List.set_cons_zero, List.set_cons_succ])
        ((iterate 1 (refine Rm.wpMix_plain rfl rfl ?_; go_big_quiet_step (fail); refine wpQuiet_nil ?_)); (refine Rm.wpMix_load1 (fun W9' h9 => show W9'.cell? _ = some (.int .i64 m.frm) from bx_cell (Ext.box h9 F2.out) 1) rfl rfl rfl Tryz.underlying3 rfl ?_; simp only [Act.put, List.setIfInBounds_toArray, List.set_cons_zero, List.set_cons_succ]); (iterate 1 (refine Rm.wpMix_plain rfl rfl ?_; go_big_quiet_step (fail); refine wpQuiet_nil ?_)); (try simp only [g2, Bool.not_true, Bool.not_false]); (iterate 1 (refine Rm.wpMix_plain rfl rfl ?_; go_big_quiet_step (fail); refine wpQuiet_nil ?_)))
        refine Rm.wpMix_nil ?_
        rintro w4 hW
        have x : Ext W3 w4 := hW
        obtain ⟨F1, F2, F3, E3, FS, HF3, X3⟩ : Hid _ ∧ Hid _ ∧ Hid _ ∧ Hid _ ∧ Hid _ ∧ Hid _ ∧ Hid _ := ⟨Lib.hid (x.box F1.out), Lib.hid (x.box F2.out), Lib.hid (x.box F3.out), Lib.hid (x.box E3.out), Lib.hid (FS.out.keep x), Lib.hid (HF3.out.keep x), Lib.hid (Ext.trans X3.out x)⟩
        have hsz_w4 := x.size
        clear x hW
        clear HHr
        (go_wp2_with (with_reducible refine wl_stop 30 ?_); refine stop_load (E3.out) rfl Tryz.underlying43 (by kernel_rfl) ?_; simp only [Act.put, List.setIfInBounds_toArray, List.set_cons_zero, List.set_cons_succ])
        (go_wp2_with (with_reducible refine wl_stopS 43 ?_); refine stop_store ((w.heap.size + 1 + 1)) (Rp.cs a1 A1 qs.length c1 (sameR r)) rfl rfl (F3.out) (by kernel_rfl) rfl (by simp [Value.oneCell']) ?_)
        intro W9 e9 k9
        have X9 := Lib.hid (chg_new X3.out k9 (by omega))
        have HE9 := Lib.hid e9
        have HT9 := Lib.hid (RoT.of (O := []) (HF3.out.boxed F3.out k9) (FS.out.boxed F3.out (by decide) (by decide) (by decide) (by decide) k9) rfl)
        clear e9 k9
        go_wp2
        refine bodyPost_ret (results_box2 Tryz.results31 rfl rfl Tryz.underlying43 (by kernel_rfl) HE9.out) rfl ⟨_, rfl, ?_, X9.out⟩
        rw [HQ.out.1, HQ.out.2]
        exact HT9.out

set_option maxRecDepth 100000 in
set_option maxHeartbeats 16000000 in
theorem c_sOnState (a : LAd) (A : Option Addr) (c : Nat) (ps : List VtE) (r : Rp) (am : LAd) (m : Mg) (w : World) (hr : RpR w a A c ps r) (hs : r.log.small) (hn : ps.length ≤ 1048576) (hv : LgS ps) (hm : LgR w am m.log) (hms : m.log.small) :
    Calls Tryz.prog 33 #[Rp.val a A ps.length c r, Mg.val am m] w fun e w' => ∃ v, e = .returned v ∧ RoT w' (hearR2 r m 11 (stateR2 r m)) (hearO r m 11 (stateO2 r m)) v ∧ Ext w w' := by
  have X0 : Ext w (((w.alloc (Rp.obj a A ps.length c r)).alloc (Mg.obj am m)).alloc Rp.zobj) := ext_to (ext_to (ext_alloc _ _) _) _
  have HSm := Lib.hid (c_l6Same a A c ps r _ (hr.keep X0) hs hn hv)
  have HHr := Lib.hid (fun W (h : Ext w W) => c_l6Hears a A c ps r am m 11 W (hr.keep h) hs hn hv (hm.keep h) hms)
  have D1 := Lib.hid (hOld (o := Rp.zobj) (hOld (o := Mg.obj am m) (hNew (w := w) (o := Rp.obj a A ps.length c r) rfl)))
  have D2 := Lib.hid (hOld (o := Rp.zobj) (hNew (w := w.alloc (Rp.obj a A ps.length c r)) (o := Mg.obj am m) (k := w.heap.size + 1) (by simp)))
  have D3 := Lib.hid (hNew (w := (w.alloc (Rp.obj a A ps.length c r)).alloc (Mg.obj am m)) (o := Rp.zobj) (k := w.heap.size + 1 + 1) (by simp))
  have HX0 := Lib.hid X0
  have HR := Lib.hid hr
  have HM := Lib.hid hm
  have HMs := Lib.hid hms
  have HRs := Lib.hid hs
  have hheq : sHearB r m 11 = hearB r m 11 := (hear_eq (by decide +kernel) (by decide +kernel) rfl).symm
  have HHe := Lib.hid hheq
  clear X0 hr hv hm hheq hms hs
  go_enter Tryz.func33, Tryz.ntmps33
  (go_wp2_with (with_reducible refine wl_stop 9 ?_); refine stop_load (D1.out) rfl Tryz.underlying43 (by kernel_rfl) ?_; simp only [Act.put, List.setIfInBounds_toArray, List.set_cons_zero, List.set_cons_succ])
  go_wp2_with fail
  refine HSm.out.mono ?_
  rintro e w1 ⟨v1, rfl, ⟨a1, A1, c1, qs, rfl, f1⟩, x1⟩
  have HF1 := Lib.hid f1
  have X1 := Lib.hid (Ext.trans HX0.out x1)
  have XO := Lib.hid (show Ext w1 ((w1.alloc (.cells #[] 100)).alloc Rp.zobj) from ext_to (ext_alloc _ _) _)
  have B1 := Lib.hid (XO.out.box (x1.box D1.out))
  have B2 := Lib.hid (XO.out.box (x1.box D2.out))
  have B3 := Lib.hid (XO.out.box (x1.box D3.out))
  have BS := Lib.hid (hOld (o := Rp.zobj) (hNew (w := w1) (o := .cells #[] 100) rfl))
  have Z1 := Lib.hid (hNew (w := w1.alloc (.cells #[] 100)) (o := Rp.zobj) (k := w1.heap.size + 1) (by simp))
  have hs1 := x1.size
  simp only [sz_alloc] at hs1
  clear f1 x1 D1 D2 D3 HX0 HSm
  (go_wp2_with (with_reducible refine wl_stopS 43 ?_); refine stop_store ((w1.heap.size + 1)) (Rp.cs a1 A1 qs.length c1 (sameR r)) rfl rfl (Z1.out) (by kernel_rfl) rfl (by simp [Value.oneCell']) ?_)
  intro W3 e3 k3
  have x3 : Ext w1 W3 := ext_chg XO.out k3 (fun g hg => by rw [List.mem_singleton] at hg; omega)
  have E3 := Lib.hid e3
  have F1 := Lib.hid (box_chg B1.out k3 (by omega))
  have F2 := Lib.hid (box_chg B2.out k3 (by omega))
  have F3 := Lib.hid (box_chg B3.out k3 (by omega))
  have FS := Lib.hid (OsK.nil (B := w.heap.size + 1 + 1 + 1) (box_chg BS.out k3 (by omega)) (by omega))
  have HF3 := Lib.hid ((HF1.out.keep x3).less (B' := w.heap.size + 1 + 1 + 1) (by simp))
  have X3 := Lib.hid (Ext.trans X1.out x3)
  have hs3 := bx_lt e3
  clear e3 k3 x3 Z1 B1 B2 B3 BS HF1 X1 XO
  (go_wp2_with (with_reducible refine wl_stop 12 ?_); refine stop_load (F1.out) rfl Tryz.underlying43 (by kernel_rfl) ?_; simp only [Act.put, List.setIfInBounds_toArray, List.set_cons_zero, List.set_cons_succ])
  (go_wp2_with (with_reducible refine wl_stop 13 ?_); refine stop_load (F2.out) rfl Tryz.underlying60 (by kernel_rfl) ?_; simp only [Act.put, List.setIfInBounds_toArray, List.set_cons_zero, List.set_cons_succ])
  go_wp2_with fail
  refine (HHr.out _ X3.out).mono ?_
  rintro e w4 ⟨rfl, x⟩
  obtain ⟨F1, F2, F3, E3, FS, HF3, X3⟩ : Hid _ ∧ Hid _ ∧ Hid _ ∧ Hid _ ∧ Hid _ ∧ Hid _ ∧ Hid _ := ⟨Lib.hid (x.box F1.out), Lib.hid (x.box F2.out), Lib.hid (x.box F3.out), Lib.hid (x.box E3.out), Lib.hid (FS.out.keep x), Lib.hid (HF3.out.keep x), Lib.hid (Ext.trans X3.out x)⟩
  have hsz_w4 := x.size
  clear x
  clear HHr
  cases qh : (rpOk r && sHearB r m 11)
  · have HQ := Lib.hid (hearR2_no (R2 := stateR2 r m) (O := stateO2 r m) (by rw [← HHe.out]; exact qh))
    (go_wp2_with (with_reducible refine wl_stop 21 ?_); refine stop_load (E3.out) rfl Tryz.underlying43 (by kernel_rfl) ?_; simp only [Act.put, List.setIfInBounds_toArray, List.set_cons_zero, List.set_cons_succ])
    (go_wp2_with (with_reducible refine wl_stopS 43 ?_); refine stop_store ((w.heap.size + 1 + 1)) (Rp.cs a1 A1 qs.length c1 (sameR r)) rfl rfl (F3.out) (by kernel_rfl) rfl (by simp [Value.oneCell']) ?_)
    intro W9 e9 k9
    have X9 := Lib.hid (chg_new X3.out k9 (by omega))
    have HE9 := Lib.hid e9
    have HT9 := Lib.hid (RoT.of (O := []) (HF3.out.boxed F3.out k9) (FS.out.boxed F3.out (by decide) (by decide) (by decide) (by decide) k9) rfl)
    clear e9 k9
    go_wp2
    refine bodyPost_ret (results_box2 Tryz.results33 rfl rfl Tryz.underlying43 (by kernel_rfl) HE9.out) rfl ⟨_, rfl, ?_, X9.out⟩
    rw [HQ.out.1, HQ.out.2]
    exact HT9.out
  · obtain ⟨hy1, hy2, hy3⟩ := hearR2_yes (r := r) (m := m) (kind := 11) (R2 := stateR2 r m) (O := stateO2 r m) (by rw [← HHe.out]; exact qh)
    have HY := Lib.hid (And.intro hy1 hy2)
    have HS3 := Lib.hid hy3
    obtain ⟨hq1, hq2, hq3⟩ := hear_facts (show (rpOk r && hearB r m 11) = true by rw [← HHe.out]; exact qh)
    have G := Lib.hid (rpOk_good hq1)
    have HIV := Lib.hid (rpOk_in hq1)
    clear hy1 hy2 hy3
    have HVm := Lib.hid (fits_in hq2 (by rw [hq3]; decide +kernel))
    have hlogm := fits_log hq2 (by rw [hq3]; decide +kernel)
    have HLm := Lib.hid hlogm.1
    clear hlogm hq1 hq2 hq3
    (go_wp2_with (with_reducible refine wl_stop 17 ?_); refine stop_loadG (F1.out) rfl rfl Tryz.underlying43 (by kernel_rfl) ?_; simp only [Act.put, List.setIfInBounds_toArray, List.set_cons_zero, List.set_cons_succ])
    go_wp2_with fail
    refine (c_l6Live a _ _ _ r _).mono ?_
    rintro e w5 ⟨rfl, x⟩
    obtain ⟨F1, F2, F3, E3, FS, HF3, X3⟩ : Hid _ ∧ Hid _ ∧ Hid _ ∧ Hid _ ∧ Hid _ ∧ Hid _ ∧ Hid _ := ⟨Lib.hid (x.box F1.out), Lib.hid (x.box F2.out), Lib.hid (x.box F3.out), Lib.hid (x.box E3.out), Lib.hid (FS.out.keep x), Lib.hid (HF3.out.keep x), Lib.hid (Ext.trans X3.out x)⟩
    have hsz_w5 := x.size
    clear x
    cases gl : liveB r
    · have HQ := Lib.hid (show hearR2 r m 11 (stateR2 r m) = sameR r ∧ hearO r m 11 (stateO2 r m) = [] by
      rw [HY.out.1, HY.out.2, HS3.out]
      constructor <;> simp only [stateR2, stateO2, stateB, gl, Bool.true_and, Bool.false_and, Bool.and_true, Bool.and_false, Bool.true_or, Bool.false_or, Bool.or_true, Bool.or_false, Bool.not_true, Bool.not_false, Bool.false_eq_true, if_false, if_true, eq_self, List.append_nil, List.nil_append])
      (go_wp2_with (with_reducible refine wl_stop 21 ?_); refine stop_load (E3.out) rfl Tryz.underlying43 (by kernel_rfl) ?_; simp only [Act.put, List.setIfInBounds_toArray, List.set_cons_zero, List.set_cons_succ])
      (go_wp2_with (with_reducible refine wl_stopS 43 ?_); refine stop_store ((w.heap.size + 1 + 1)) (Rp.cs a1 A1 qs.length c1 (sameR r)) rfl rfl (F3.out) (by kernel_rfl) rfl (by simp [Value.oneCell']) ?_)
      intro W9 e9 k9
      have X9 := Lib.hid (chg_new X3.out k9 (by omega))
      have HE9 := Lib.hid e9
      have HT9 := Lib.hid (RoT.of (O := []) (HF3.out.boxed F3.out k9) (FS.out.boxed F3.out (by decide) (by decide) (by decide) (by decide) k9) rfl)
      clear e9 k9
      go_wp2
      refine bodyPost_ret (results_box2 Tryz.results33 rfl rfl Tryz.underlying43 (by kernel_rfl) HE9.out) rfl ⟨_, rfl, ?_, X9.out⟩
      rw [HQ.out.1, HQ.out.2]
      exact HT9.out
    · cases g1 : (m.view == r.view)
      · go_wp2
        (refine Rm.wp_region_mix' (R := relE w5.heap.size) (fun _ _ _ => True) (fun _ _ _ _ _ hq => hq) 25 (by first | exact Nat.le_refl _ | omega | (simp; omega)) (by kernel_rfl) (by kernel_rfl) ?_; simp only [List.take_succ_cons, List.take_zero, List.drop_succ_cons, List.drop_zero])
        ((iterate 1 (refine Rm.wpMix_plain rfl rfl ?_; go_big_quiet_step (fail); refine wpQuiet_nil ?_)); (refine Rm.wpMix_load1 (fun W9' h9 => show W9'.cell? _ = some (.int .i64 m.view) from bx_cell (Ext.box h9 F2.out) 2) rfl rfl rfl Tryz.underlying3 rfl ?_; simp only [Act.put, List.setIfInBounds_toArray, List.set_cons_zero, List.set_cons_succ]); (iterate 1 (refine Rm.wpMix_plain rfl rfl ?_; go_big_quiet_step (fail); refine wpQuiet_nil ?_)); (refine Rm.wpMix_load1 (fun W9' h9 => show W9'.cell? _ = some (.int .i64 r.view) from bx_cell (Ext.box h9 F1.out) 3) rfl rfl rfl Tryz.underlying3 rfl ?_; simp only [Act.put, List.setIfInBounds_toArray, List.set_cons_zero, List.set_cons_succ]); (iterate 1 (refine Rm.wpMix_plain rfl rfl ?_; go_big_quiet_step (fail); refine wpQuiet_nil ?_)); (try simp only [g1, Bool.not_true, Bool.not_false]); (iterate 1 (refine Rm.wpMix_plain rfl rfl ?_; go_big_quiet_step (fail); refine wpQuiet_nil ?_)); (iterate 3 (refine Rm.wpMix_skip rfl rfl ?_; simp only [Act.put, List.setIfInBounds_toArray, List.set_cons_zero, List.set_cons_succ])); (iterate 2 (refine Rm.wpMix_plain rfl rfl ?_; go_big_quiet_step (fail); refine wpQuiet_nil ?_)); (iterate 3 (refine Rm.wpMix_skip rfl rfl ?_; simp only [Act.put, List.setIfInBounds_toArray, List.set_cons_zero, List.set_cons_succ])); (iterate 2 (refine Rm.wpMix_plain rfl rfl ?_; go_big_quiet_step (fail); refine wpQuiet_nil ?_)); (iterate 7 (refine Rm.wpMix_skip rfl rfl ?_; simp only [Act.put, List.setIfInBounds_toArray, List.set_cons_zero, List.set_cons_succ])); (iterate 2 (refine Rm.wpMix_plain rfl rfl ?_; go_big_quiet_step (fail); refine wpQuiet_nil ?_)))
        refine Rm.wpMix_nil ?_
        rintro w6 hW
        have x : Ext w5 w6 := hW
        obtain ⟨F1, F2, F3, E3, FS, HF3, X3⟩ : Hid _ ∧ Hid _ ∧ Hid _ ∧ Hid _ ∧ Hid _ ∧ Hid _ ∧ Hid _ := ⟨Lib.hid (x.box F1.out), Lib.hid (x.box F2.out), Lib.hid (x.box F3.out), Lib.hid (x.box E3.out), Lib.hid (FS.out.keep x), Lib.hid (HF3.out.keep x), Lib.hid (Ext.trans X3.out x)⟩
        have hsz_w6 := x.size
        clear x hW
        have d1 := bx_cell F1.out
        have d2 := bx_cell F2.out
        have z1 := bx_lt F1.out
        have z2 := bx_lt F2.out
        cases g5 : decide (m.view ≤ r.view)
        · have h1 : decide (r.view < m.view) = true := by simp at g5 ⊢; omega
          rw [HS3.out] at E3 HF3
          (go_wp2_with (with_reducible refine wl_stop 58 ?_); refine stop_load (E3.out) rfl Tryz.underlying43 (by kernel_rfl) ?_; simp only [Act.put, List.setIfInBounds_toArray, List.set_cons_zero, List.set_cons_succ])
          (go_wp2_with (with_reducible refine wl_stop 62 ?_); refine stop_loadAgg (mg_log2 F2.out (ext_refl _)) rfl Tryz.underlying40 (by kernel_rfl) ?_; simp only [Act.put, List.setIfInBounds_toArray, List.set_cons_zero, List.set_cons_succ])
          go_wp2_with fail
          refine (c_l7Take a1 A1 qs.length c1 r m.view am m.log m.commit _ (HM.out.keep X3.out) HMs.out HLm.out).mono ?_
          rintro e w7 ⟨⟨a2, gq, rfl, hf2⟩, x⟩
          obtain ⟨F1, F2, F3, E3, FS, X3⟩ : Hid _ ∧ Hid _ ∧ Hid _ ∧ Hid _ ∧ Hid _ ∧ Hid _ := ⟨Lib.hid (x.box F1.out), Lib.hid (x.box F2.out), Lib.hid (x.box F3.out), Lib.hid (x.box E3.out), Lib.hid (FS.out.keep x), Lib.hid (Ext.trans X3.out x)⟩
          have hsz_w7 := x.size
          have HF2 := Lib.hid (hf2.less (show w.heap.size + 1 + 1 + 1 ≤ _ by omega))
          clear x hf2 d1 z1 d2 z2 HF3
          (go_wp2_with (with_reducible refine wl_stopS 43 ?_); refine stop_store ((w1.heap.size + 1)) (Rp.cs a2 (some ⟨gq, 0, none⟩) 0 0 (r.lead m.view m.log (max m.commit r.commit))) rfl rfl (E3.out) (by kernel_rfl) rfl (by simp [Value.oneCell']) ?_)
          intro u8 e8 k8
          simp only [Act.put, List.setIfInBounds_toArray, List.set_cons_zero, List.set_cons_succ]
          have hlt8 := bx_lt e8
          obtain ⟨F1, F2, F3, E3, FS, X3, HF3⟩ : Hid _ ∧ Hid _ ∧ Hid _ ∧ Hid _ ∧ Hid _ ∧ Hid _ ∧ Hid _ := ⟨Lib.hid (box_chg F1.out k8 (by omega)), Lib.hid (box_chg F2.out k8 (by omega)), Lib.hid (box_chg F3.out k8 (by omega)), Lib.hid e8, Lib.hid (FS.out.boxed E3.out (by decide) (by decide) (by decide) (by decide) k8), Lib.hid (ext_chg X3.out k8 (fun g hg => by rw [List.mem_singleton] at hg; omega)), Lib.hid (HF2.out.boxed E3.out k8)⟩
          clear e8 k8 HF2
          go_wp2
          cases g6 : (m.view % r.of == m.frm)
          · have hg : (m.frm == m.view % r.of) = false := by simp at g6 ⊢; exact fun h => g6 h.symm
            have HQ := Lib.hid (show hearR2 r m 11 (stateR2 r m) = r.lead m.view m.log (max m.commit r.commit) ∧ hearO r m 11 (stateO2 r m) = [] by
              rw [HY.out.1, HY.out.2]
              have hB : stateB r m = true := by simp only [stateB, gl, h1, Bool.true_and, Bool.false_and, Bool.and_true, Bool.and_false, Bool.true_or, Bool.false_or, Bool.or_true, Bool.or_false, Bool.not_true, Bool.not_false, Bool.false_eq_true, if_false, if_true, eq_self, List.append_nil, List.nil_append]
              constructor <;> simp only [stateR2, stateO2, hB, hg, Bool.true_and, Bool.false_and, Bool.and_true, Bool.and_false, Bool.true_or, Bool.false_or, Bool.or_true, Bool.or_false, Bool.not_true, Bool.not_false, Bool.false_eq_true, if_false, if_true, eq_self, List.append_nil, List.nil_append])
            (refine Rm.wp_region_mix' (R := relE u8.heap.size) (fun _ _ _ => True) (fun _ _ _ _ _ hq => hq) 8 (by first | exact Nat.le_refl _ | omega | (simp; omega)) (by kernel_rfl) (by kernel_rfl) ?_; simp only [List.take_succ_cons, List.take_zero, List.drop_succ_cons, List.drop_zero])
            ((iterate 1 (refine Rm.wpMix_plain rfl rfl ?_; go_big_quiet_step (fail); refine wpQuiet_nil ?_)); (refine Rm.wpMix_load1 (fun W9' h9 => show W9'.cell? _ = some (.int .i64 m.view) from bx_cell (Ext.box h9 F2.out) 2) rfl rfl rfl Tryz.underlying3 rfl ?_; simp only [Act.put, List.setIfInBounds_toArray, List.set_cons_zero, List.set_cons_succ]); (iterate 1 (refine Rm.wpMix_plain rfl rfl ?_; go_big_quiet_step (fail); refine wpQuiet_nil ?_)); (refine Rm.wpMix_load1 (fun W9' h9 => show W9'.cell? _ = some (.int .i64 r.of) from bx_cell (Ext.box h9 F1.out) 1) rfl rfl rfl Tryz.underlying3 rfl ?_; simp only [Act.put, List.setIfInBounds_toArray, List.set_cons_zero, List.set_cons_succ]))
            (refine Rm.wpMix_det rfl rfl rfl (enters Tryz.func68 (by kernel_rfl) rfl) (fun W9' h9 => c_sPrimaryOf m.view r.of W9' HVm.out HIV.out.2) rfl ?_; simp only [Act.put, List.setIfInBounds_toArray, List.set_cons_zero, List.set_cons_succ])
            ((iterate 1 (refine Rm.wpMix_plain rfl rfl ?_; go_big_quiet_step (fail); refine wpQuiet_nil ?_)); (refine Rm.wpMix_load1 (fun W9' h9 => show W9'.cell? _ = some (.int .i64 m.frm) from bx_cell (Ext.box h9 F2.out) 1) rfl rfl rfl Tryz.underlying3 rfl ?_; simp only [Act.put, List.setIfInBounds_toArray, List.set_cons_zero, List.set_cons_succ]); (iterate 1 (refine Rm.wpMix_plain rfl rfl ?_; go_big_quiet_step (fail); refine wpQuiet_nil ?_)); (try simp only [g6, Bool.not_true, Bool.not_false]))
            refine Rm.wpMix_nil ?_
            rintro u9 hW
            have x : Ext u8 u9 := hW
            obtain ⟨F1, F2, F3, E3, FS, HF3, X3⟩ : Hid _ ∧ Hid _ ∧ Hid _ ∧ Hid _ ∧ Hid _ ∧ Hid _ ∧ Hid _ := ⟨Lib.hid (x.box F1.out), Lib.hid (x.box F2.out), Lib.hid (x.box F3.out), Lib.hid (x.box E3.out), Lib.hid (FS.out.keep x), Lib.hid (HF3.out.keep x), Lib.hid (Ext.trans X3.out x)⟩
            have hsz_u9 := x.size
            clear x hW
            (go_wp2_with (with_reducible refine wl_stop 88 ?_); refine stop_load (E3.out) rfl Tryz.underlying43 (by kernel_rfl) ?_; simp only [Act.put, List.setIfInBounds_toArray, List.set_cons_zero, List.set_cons_succ])
            (go_wp2_with (with_reducible refine wl_stopS 43 ?_); refine stop_store ((w.heap.size + 1 + 1)) (Rp.cs a2 (some ⟨gq, 0, none⟩) 0 0 (r.lead m.view m.log (max m.commit r.commit))) rfl rfl (F3.out) (by kernel_rfl) rfl (by simp [Value.oneCell']) ?_)
            intro W9 e9 k9
            have X9 := Lib.hid (chg_new X3.out k9 (by omega))
            have HE9 := Lib.hid e9
            have HT9 := Lib.hid (RoT.of (O := []) (HF3.out.boxed F3.out k9) (FS.out.boxed F3.out (by decide) (by decide) (by decide) (by decide) k9) rfl)
            clear e9 k9
            go_wp2
            refine bodyPost_ret (results_box2 Tryz.results33 rfl rfl Tryz.underlying43 (by kernel_rfl) HE9.out) rfl ⟨_, rfl, ?_, X9.out⟩
            rw [HQ.out.1, HQ.out.2]
            exact HT9.out
          · have hg : (m.frm == m.view % r.of) = true := by simp at g6 ⊢; exact g6.symm
            have HQ := Lib.hid (show hearR2 r m 11 (stateR2 r m) = r.lead m.view m.log (max m.commit r.commit) ∧ hearO r m 11 (stateO2 r m) = [⟨m.frm, okM (r.lead m.view m.log (max m.commit r.commit))⟩] by
              rw [HY.out.1, HY.out.2]
              have hB : stateB r m = true := by simp only [stateB, gl, h1, Bool.true_and, Bool.false_and, Bool.and_true, Bool.and_false, Bool.true_or, Bool.false_or, Bool.or_true, Bool.or_false, Bool.not_true, Bool.not_false, Bool.false_eq_true, if_false, if_true, eq_self, List.append_nil, List.nil_append]
              constructor <;> simp only [stateR2, stateO2, hB, hg, Bool.true_and, Bool.false_and, Bool.and_true, Bool.and_false, Bool.true_or, Bool.false_or, Bool.or_true, Bool.or_false, Bool.not_true, Bool.not_false, Bool.false_eq_true, if_false, if_true, eq_self, List.append_nil, List.nil_append])
            (refine Rm.wp_region_mix' (R := relE u8.heap.size) (fun _ _ _ => True) (fun _ _ _ _ _ hq => hq) 8 (by first | exact Nat.le_refl _ | omega | (simp; omega)) (by kernel_rfl) (by kernel_rfl) ?_; simp only [List.take_succ_cons, List.take_zero, List.drop_succ_cons, List.drop_zero])
            ((iterate 1 (refine Rm.wpMix_plain rfl rfl ?_; go_big_quiet_step (fail); refine wpQuiet_nil ?_)); (refine Rm.wpMix_load1 (fun W9' h9 => show W9'.cell? _ = some (.int .i64 m.view) from bx_cell (Ext.box h9 F2.out) 2) rfl rfl rfl Tryz.underlying3 rfl ?_; simp only [Act.put, List.setIfInBounds_toArray, List.set_cons_zero, List.set_cons_succ]); (iterate 1 (refine Rm.wpMix_plain rfl rfl ?_; go_big_quiet_step (fail); refine wpQuiet_nil ?_)); (refine Rm.wpMix_load1 (fun W9' h9 => show W9'.cell? _ = some (.int .i64 r.of) from bx_cell (Ext.box h9 F1.out) 1) rfl rfl rfl Tryz.underlying3 rfl ?_; simp only [Act.put, List.setIfInBounds_toArray, List.set_cons_zero, List.set_cons_succ]))
            (refine Rm.wpMix_det rfl rfl rfl (enters Tryz.func68 (by kernel_rfl) rfl) (fun W9' h9 => c_sPrimaryOf m.view r.of W9' HVm.out HIV.out.2) rfl ?_; simp only [Act.put, List.setIfInBounds_toArray, List.set_cons_zero, List.set_cons_succ])
            ((iterate 1 (refine Rm.wpMix_plain rfl rfl ?_; go_big_quiet_step (fail); refine wpQuiet_nil ?_)); (refine Rm.wpMix_load1 (fun W9' h9 => show W9'.cell? _ = some (.int .i64 m.frm) from bx_cell (Ext.box h9 F2.out) 1) rfl rfl rfl Tryz.underlying3 rfl ?_; simp only [Act.put, List.setIfInBounds_toArray, List.set_cons_zero, List.set_cons_succ]); (iterate 1 (refine Rm.wpMix_plain rfl rfl ?_; go_big_quiet_step (fail); refine wpQuiet_nil ?_)); (try simp only [g6, Bool.not_true, Bool.not_false]))
            refine Rm.wpMix_nil ?_
            rintro u9 hW
            have x : Ext u8 u9 := hW
            obtain ⟨F1, F2, F3, E3, FS, HF3, X3⟩ : Hid _ ∧ Hid _ ∧ Hid _ ∧ Hid _ ∧ Hid _ ∧ Hid _ ∧ Hid _ := ⟨Lib.hid (x.box F1.out), Lib.hid (x.box F2.out), Lib.hid (x.box F3.out), Lib.hid (x.box E3.out), Lib.hid (FS.out.keep x), Lib.hid (HF3.out.keep x), Lib.hid (Ext.trans X3.out x)⟩
            have hsz_u9 := x.size
            clear x hW
            go_wp2
            (refine Rm.wp_region_mix' (R := relE u9.heap.size) (fun _ _ _ => True) (fun _ _ _ _ _ hq => hq) 13 (by first | exact Nat.le_refl _ | omega | (simp; omega)) (by kernel_rfl) (by kernel_rfl) ?_; simp only [List.take_succ_cons, List.take_zero, List.drop_succ_cons, List.drop_zero])
            ((iterate 2 (refine Rm.wpMix_plain rfl rfl ?_; go_big_quiet_step (fail); refine wpQuiet_nil ?_)); (refine Rm.wpMix_load1 (fun W9' h9 => show W9'.cell? _ = some (.int .i64 m.frm) from bx_cell (Ext.box h9 F2.out) 1) rfl rfl rfl Tryz.underlying3 rfl ?_; simp only [Act.put, List.setIfInBounds_toArray, List.set_cons_zero, List.set_cons_succ]); (iterate 1 (refine Rm.wpMix_plain rfl rfl ?_; go_big_quiet_step (fail); refine wpQuiet_nil ?_)); (refine Rm.wpMix_load1 (fun W9' h9 => show W9'.cell? _ = some (.int .i64 r.me) from bx_cell (Ext.box h9 F1.out) 0) rfl rfl rfl Tryz.underlying3 rfl ?_; simp only [Act.put, List.setIfInBounds_toArray, List.set_cons_zero, List.set_cons_succ]); (iterate 1 (refine Rm.wpMix_plain rfl rfl ?_; go_big_quiet_step (fail); refine wpQuiet_nil ?_)); (refine Rm.wpMix_load1 (fun W9' h9 => show W9'.cell? _ = some (.int .i64 m.view) from bx_cell (Ext.box h9 F2.out) 2) rfl rfl rfl Tryz.underlying3 rfl ?_; simp only [Act.put, List.setIfInBounds_toArray, List.set_cons_zero, List.set_cons_succ]); (iterate 1 (refine Rm.wpMix_plain rfl rfl ?_; go_big_quiet_step (fail); refine wpQuiet_nil ?_)))
            (refine Rm.wpMix_loadAgg (fun W9' h9 => mg_log2 F2.out h9) rfl rfl rfl Tryz.underlying40 (by kernel_rfl) ?_; simp only [Act.put, List.setIfInBounds_toArray, List.set_cons_zero, List.set_cons_succ])
            (refine Rm.wpMix_det rfl rfl rfl (enters Tryz.func69 (by kernel_rfl) rfl) (fun W9' h9 => c_sLogEnd am m.log HMs.out.1 HMs.out.2.1 HMs.out.2.2 W9' (HM.out.keep (Ext.trans X3.out h9)) HLm.out) rfl ?_; simp only [Act.put, List.setIfInBounds_toArray, List.set_cons_zero, List.set_cons_succ])
            (iterate 2 (refine Rm.wpMix_plain rfl rfl ?_; go_big_quiet_step (fail); refine wpQuiet_nil ?_))
            (refine Rm.wpMix_alloc (.cells (OtE.cells LAd.none ⟨m.frm, okM (r.lead m.view m.log (max m.commit r.commit))⟩) 100) rfl (fun W => by kernel_rfl) ?_; intro p1 hp1 hps1 hpi1; simp only [layVal, Act.put, List.setIfInBounds_toArray, List.set_cons_zero, List.set_cons_succ])
            refine Rm.wpMix_nil ?_
            rintro v9 ⟨h9, hp9⟩
            have x : Ext u9 v9 := h9
            obtain ⟨F3, E3, FS, HF3, X3⟩ : Hid _ ∧ Hid _ ∧ Hid _ ∧ Hid _ ∧ Hid _ := ⟨Lib.hid (x.box F3.out), Lib.hid (x.box E3.out), Lib.hid (FS.out.keep x), Lib.hid (HF3.out.keep x), Lib.hid (Ext.trans X3.out x)⟩
            have hsz9 := x.size
            have HP9 := Lib.hid hp9
            have hl9 := bx_lt HP9.out
            clear x h9 hp9 hp1 hps1 hpi1 F1 F2
            obtain ⟨i0, hi, hz0, hz1, hz2⟩ := info_parts Tryz.infoOt
            go_wp2_with (at_builtin; refine wl_app (enc := OtE.enc) rfl _ _ 55 rfl (w.heap.size + 1 + 1 + 1) 100 i0 Ot.zero 18 192 Tryz.underlying55 hi hz0 hz1 hz2 rfl (by decide) OtE.len OtE.one (.slice (some ⟨w1.heap.size, 0, none⟩) 0 0) [] rfl FS.out.row (some ⟨p1, 0, none⟩) 1 [(LAd.none, (⟨m.frm, okM (r.lead m.view m.log (max m.commit r.commit))⟩ : Ot))] 1 rfl rfl (Rd.one HP9.out rfl) ?c1 ?c2 ?c3 ?_)
            case c1 => unfold maxLen; simp
            case c2 => simp
            case c3 => omega
            intro v10 w10 ho10 hg10
            obtain ⟨A10, c10, rfl⟩ := ho10.form
            have c4 := chg_grown hg10
            have hb : blk (some (⟨w1.heap.size, 0, none⟩ : Addr)) = [w1.heap.size] := rfl
            have hne : ∀ k, k ≠ w1.heap.size → k ∉ blk (some (⟨w1.heap.size, 0, none⟩ : Addr)) := fun k hk hm => hk (by rw [hb, List.mem_singleton] at hm; exact hm)
            obtain ⟨F3, E3, FS2, X3⟩ : Hid _ ∧ Hid _ ∧ Hid _ ∧ Hid _ := ⟨Lib.hid (box_out' F3.out c4 (hne _ (by omega))), Lib.hid (box_out' E3.out c4 (hne _ (by omega))), Lib.hid (show OsK w10 (w.heap.size + 1 + 1 + 1) A10 c10 [(LAd.none, (⟨m.frm, okM (r.lead m.view m.log (max m.commit r.commit))⟩ : Ot))] from ⟨ho10, fun q hq => by rw [List.mem_singleton] at hq; subst hq; exact none_lgF _ _⟩), Lib.hid (ext_chg X3.out c4 (fun g hg => by rw [hb, List.mem_singleton] at hg; omega))⟩
            have HF4 := Lib.hid (HF3.out.beside FS.out.row c4)
            clear HF3 FS
            have HF3 := HF4
            have FS := FS2
            clear HF4 FS2 c4 hne hb ho10 hg10 HP9
            (go_wp2_with (with_reducible refine wl_stop 88 ?_); refine stop_load (E3.out) rfl Tryz.underlying43 (by kernel_rfl) ?_; simp only [Act.put, List.setIfInBounds_toArray, List.set_cons_zero, List.set_cons_succ])
            (go_wp2_with (with_reducible refine wl_stopS 43 ?_); refine stop_store ((w.heap.size + 1 + 1)) (Rp.cs a2 (some ⟨gq, 0, none⟩) 0 0 (r.lead m.view m.log (max m.commit r.commit))) rfl rfl (F3.out) (by kernel_rfl) rfl (by simp [Value.oneCell']) ?_)
            intro W9 e9 k9
            have X9 := Lib.hid (chg_new X3.out k9 (by omega))
            have HE9 := Lib.hid e9
            have HT9 := Lib.hid (RoT.of (O := [⟨m.frm, okM (r.lead m.view m.log (max m.commit r.commit))⟩]) (HF3.out.boxed F3.out k9) (FS.out.boxed F3.out (by decide) (by decide) (by decide) (by decide) k9) rfl)
            clear e9 k9
            go_wp2
            refine bodyPost_ret (results_box2 Tryz.results33 rfl rfl Tryz.underlying43 (by kernel_rfl) HE9.out) rfl ⟨_, rfl, ?_, X9.out⟩
            rw [HQ.out.1, HQ.out.2]
            exact HT9.out
        · have h1 : decide (r.view < m.view) = false := by simp at g5 ⊢; omega
          have HQ := Lib.hid (show hearR2 r m 11 (stateR2 r m) = sameR r ∧ hearO r m 11 (stateO2 r m) = [] by
            rw [HY.out.1, HY.out.2, HS3.out]
            constructor <;> simp only [stateR2, stateO2, stateB, h1, g1, Bool.true_and, Bool.false_and, Bool.and_true, Bool.and_false, Bool.true_or, Bool.false_or, Bool.or_true, Bool.or_false, Bool.not_true, Bool.not_false, Bool.false_eq_true, if_false, if_true, eq_self, List.append_nil, List.nil_append])
          (go_wp2_with (with_reducible refine wl_stop 56 ?_); refine stop_load (E3.out) rfl Tryz.underlying43 (by kernel_rfl) ?_; simp only [Act.put, List.setIfInBounds_toArray, List.set_cons_zero, List.set_cons_succ])
          clear d1 d2 z1 z2
          (go_wp2_with (with_reducible refine wl_stopS 43 ?_); refine stop_store ((w.heap.size + 1 + 1)) (Rp.cs a1 A1 qs.length c1 (sameR r)) rfl rfl (F3.out) (by kernel_rfl) rfl (by simp [Value.oneCell']) ?_)
          intro W9 e9 k9
          have X9 := Lib.hid (chg_new X3.out k9 (by omega))
          have HE9 := Lib.hid e9
          have HT9 := Lib.hid (RoT.of (O := []) (HF3.out.boxed F3.out k9) (FS.out.boxed F3.out (by decide) (by decide) (by decide) (by decide) k9) rfl)
          clear e9 k9
          go_wp2
          refine bodyPost_ret (results_box2 Tryz.results33 rfl rfl Tryz.underlying43 (by kernel_rfl) HE9.out) rfl ⟨_, rfl, ?_, X9.out⟩
          rw [HQ.out.1, HQ.out.2]
          exact HT9.out
      · cases g2 : (r.mode == 1)
        · go_wp2
          (refine Rm.wp_region_mix' (R := relE w5.heap.size) (fun _ _ _ => True) (fun _ _ _ _ _ hq => hq) 25 (by first | exact Nat.le_refl _ | omega | (simp; omega)) (by kernel_rfl) (by kernel_rfl) ?_; simp only [List.take_succ_cons, List.take_zero, List.drop_succ_cons, List.drop_zero])
          ((iterate 1 (refine Rm.wpMix_plain rfl rfl ?_; go_big_quiet_step (fail); refine wpQuiet_nil ?_)); (refine Rm.wpMix_load1 (fun W9' h9 => show W9'.cell? _ = some (.int .i64 m.view) from bx_cell (Ext.box h9 F2.out) 2) rfl rfl rfl Tryz.underlying3 rfl ?_; simp only [Act.put, List.setIfInBounds_toArray, List.set_cons_zero, List.set_cons_succ]); (iterate 1 (refine Rm.wpMix_plain rfl rfl ?_; go_big_quiet_step (fail); refine wpQuiet_nil ?_)); (refine Rm.wpMix_load1 (fun W9' h9 => show W9'.cell? _ = some (.int .i64 r.view) from bx_cell (Ext.box h9 F1.out) 3) rfl rfl rfl Tryz.underlying3 rfl ?_; simp only [Act.put, List.setIfInBounds_toArray, List.set_cons_zero, List.set_cons_succ]); (iterate 1 (refine Rm.wpMix_plain rfl rfl ?_; go_big_quiet_step (fail); refine wpQuiet_nil ?_)); (try simp only [g1, Bool.not_true, Bool.not_false]); (iterate 1 (refine Rm.wpMix_plain rfl rfl ?_; go_big_quiet_step (fail); refine wpQuiet_nil ?_)); (iterate 1 (refine Rm.wpMix_plain rfl rfl ?_; go_big_quiet_step (fail); refine wpQuiet_nil ?_)); (refine Rm.wpMix_load1 (fun W9' h9 => show W9'.cell? _ = some (.int .i64 r.mode) from bx_cell (Ext.box h9 F1.out) 2) rfl rfl rfl Tryz.underlying3 rfl ?_; simp only [Act.put, List.setIfInBounds_toArray, List.set_cons_zero, List.set_cons_succ]); (iterate 1 (refine Rm.wpMix_plain rfl rfl ?_; go_big_quiet_step (fail); refine wpQuiet_nil ?_)); (try simp only [g2, Bool.not_true, Bool.not_false]); (iterate 2 (refine Rm.wpMix_plain rfl rfl ?_; go_big_quiet_step (fail); refine wpQuiet_nil ?_)); (iterate 3 (refine Rm.wpMix_skip rfl rfl ?_; simp only [Act.put, List.setIfInBounds_toArray, List.set_cons_zero, List.set_cons_succ])); (iterate 2 (refine Rm.wpMix_plain rfl rfl ?_; go_big_quiet_step (fail); refine wpQuiet_nil ?_)); (iterate 7 (refine Rm.wpMix_skip rfl rfl ?_; simp only [Act.put, List.setIfInBounds_toArray, List.set_cons_zero, List.set_cons_succ])); (iterate 2 (refine Rm.wpMix_plain rfl rfl ?_; go_big_quiet_step (fail); refine wpQuiet_nil ?_)))
          refine Rm.wpMix_nil ?_
          rintro w6 hW
          have x : Ext w5 w6 := hW
          obtain ⟨F1, F2, F3, E3, FS, HF3, X3⟩ : Hid _ ∧ Hid _ ∧ Hid _ ∧ Hid _ ∧ Hid _ ∧ Hid _ ∧ Hid _ := ⟨Lib.hid (x.box F1.out), Lib.hid (x.box F2.out), Lib.hid (x.box F3.out), Lib.hid (x.box E3.out), Lib.hid (FS.out.keep x), Lib.hid (HF3.out.keep x), Lib.hid (Ext.trans X3.out x)⟩
          have hsz_w6 := x.size
          clear x hW
          have d1 := bx_cell F1.out
          have d2 := bx_cell F2.out
          have z1 := bx_lt F1.out
          have z2 := bx_lt F2.out
          have g5 : decide (m.view ≤ r.view) = true := by simp at g1 ⊢; omega
          have h1 : decide (r.view < m.view) = false := by simp at g5 ⊢; omega
          have HQ := Lib.hid (show hearR2 r m 11 (stateR2 r m) = sameR r ∧ hearO r m 11 (stateO2 r m) = [] by
            rw [HY.out.1, HY.out.2, HS3.out]
            constructor <;> simp only [stateR2, stateO2, stateB, h1, g2, Bool.true_and, Bool.false_and, Bool.and_true, Bool.and_false, Bool.true_or, Bool.false_or, Bool.or_true, Bool.or_false, Bool.not_true, Bool.not_false, Bool.false_eq_true, if_false, if_true, eq_self, List.append_nil, List.nil_append])
          (go_wp2_with (with_reducible refine wl_stop 56 ?_); refine stop_load (E3.out) rfl Tryz.underlying43 (by kernel_rfl) ?_; simp only [Act.put, List.setIfInBounds_toArray, List.set_cons_zero, List.set_cons_succ])
          clear d1 d2 z1 z2
          (go_wp2_with (with_reducible refine wl_stopS 43 ?_); refine stop_store ((w.heap.size + 1 + 1)) (Rp.cs a1 A1 qs.length c1 (sameR r)) rfl rfl (F3.out) (by kernel_rfl) rfl (by simp [Value.oneCell']) ?_)
          intro W9 e9 k9
          have X9 := Lib.hid (chg_new X3.out k9 (by omega))
          have HE9 := Lib.hid e9
          have HT9 := Lib.hid (RoT.of (O := []) (HF3.out.boxed F3.out k9) (FS.out.boxed F3.out (by decide) (by decide) (by decide) (by decide) k9) rfl)
          clear e9 k9
          go_wp2
          refine bodyPost_ret (results_box2 Tryz.results33 rfl rfl Tryz.underlying43 (by kernel_rfl) HE9.out) rfl ⟨_, rfl, ?_, X9.out⟩
          rw [HQ.out.1, HQ.out.2]
          exact HT9.out
        · cases g3 : leadsB r
          · cases g4 : decide (r.log.fin < m.log.fin)
            · go_wp2
              (refine Rm.wp_region_mix' (R := relE w5.heap.size) (fun _ _ _ => True) (fun _ _ _ _ _ hq => hq) 25 (by first | exact Nat.le_refl _ | omega | (simp; omega)) (by kernel_rfl) (by kernel_rfl) ?_; simp only [List.take_succ_cons, List.take_zero, List.drop_succ_cons, List.drop_zero])
              ((iterate 1 (refine Rm.wpMix_plain rfl rfl ?_; go_big_quiet_step (fail); refine wpQuiet_nil ?_)); (refine Rm.wpMix_load1 (fun W9' h9 => show W9'.cell? _ = some (.int .i64 m.view) from bx_cell (Ext.box h9 F2.out) 2) rfl rfl rfl Tryz.underlying3 rfl ?_; simp only [Act.put, List.setIfInBounds_toArray, List.set_cons_zero, List.set_cons_succ]); (iterate 1 (refine Rm.wpMix_plain rfl rfl ?_; go_big_quiet_step (fail); refine wpQuiet_nil ?_)); (refine Rm.wpMix_load1 (fun W9' h9 => show W9'.cell? _ = some (.int .i64 r.view) from bx_cell (Ext.box h9 F1.out) 3) rfl rfl rfl Tryz.underlying3 rfl ?_; simp only [Act.put, List.setIfInBounds_toArray, List.set_cons_zero, List.set_cons_succ]); (iterate 1 (refine Rm.wpMix_plain rfl rfl ?_; go_big_quiet_step (fail); refine wpQuiet_nil ?_)); (try simp only [g1, Bool.not_true, Bool.not_false]); (iterate 1 (refine Rm.wpMix_plain rfl rfl ?_; go_big_quiet_step (fail); refine wpQuiet_nil ?_)); (iterate 1 (refine Rm.wpMix_plain rfl rfl ?_; go_big_quiet_step (fail); refine wpQuiet_nil ?_)); (refine Rm.wpMix_load1 (fun W9' h9 => show W9'.cell? _ = some (.int .i64 r.mode) from bx_cell (Ext.box h9 F1.out) 2) rfl rfl rfl Tryz.underlying3 rfl ?_; simp only [Act.put, List.setIfInBounds_toArray, List.set_cons_zero, List.set_cons_succ]); (iterate 1 (refine Rm.wpMix_plain rfl rfl ?_; go_big_quiet_step (fail); refine wpQuiet_nil ?_)); (try simp only [g2, Bool.not_true, Bool.not_false]); (iterate 2 (refine Rm.wpMix_plain rfl rfl ?_; go_big_quiet_step (fail); refine wpQuiet_nil ?_)))
              (refine Rm.wpMix_loadAgg (fun W9' h9 => rp_whole F1.out h9) rfl rfl rfl Tryz.underlying43 (by kernel_rfl) ?_; simp only [Act.put, List.setIfInBounds_toArray, List.set_cons_zero, List.set_cons_succ])
              (refine Rm.wpMix_det rfl rfl rfl (enters Tryz.func67 (by kernel_rfl) rfl) (fun W9' h9 => c_l6Leads a A _ c r W9' HIV.out.1 HIV.out.2) rfl ?_; simp only [Act.put, List.setIfInBounds_toArray, List.set_cons_zero, List.set_cons_succ])
              ((try simp only [g3, Bool.not_true, Bool.not_false]); (iterate 4 (refine Rm.wpMix_plain rfl rfl ?_; go_big_quiet_step (fail); refine wpQuiet_nil ?_)))
              (refine Rm.wpMix_loadAgg (fun W9' h9 => mg_log2 F2.out h9) rfl rfl rfl Tryz.underlying40 (by kernel_rfl) ?_; simp only [Act.put, List.setIfInBounds_toArray, List.set_cons_zero, List.set_cons_succ])
              (refine Rm.wpMix_det rfl rfl rfl (enters Tryz.func69 (by kernel_rfl) rfl) (fun W9' h9 => c_sLogEnd am m.log HMs.out.1 HMs.out.2.1 HMs.out.2.2 W9' (HM.out.keep (Ext.trans X3.out h9)) HLm.out) rfl ?_; simp only [Act.put, List.setIfInBounds_toArray, List.set_cons_zero, List.set_cons_succ])
              (iterate 1 (refine Rm.wpMix_plain rfl rfl ?_; go_big_quiet_step (fail); refine wpQuiet_nil ?_))
              (refine Rm.wpMix_loadAgg (fun W9' h9 => rp_log F1.out h9) rfl rfl rfl Tryz.underlying40 (by kernel_rfl) ?_; simp only [Act.put, List.setIfInBounds_toArray, List.set_cons_zero, List.set_cons_succ])
              (refine Rm.wpMix_det rfl rfl rfl (enters Tryz.func69 (by kernel_rfl) rfl) (fun W9' h9 => c_sLogEnd a r.log HRs.out.1 HRs.out.2.1 HRs.out.2.2 W9' (HR.out.l.keep (Ext.trans X3.out h9)) G.out.lok) rfl ?_; simp only [Act.put, List.setIfInBounds_toArray, List.set_cons_zero, List.set_cons_succ])
              ((iterate 1 (refine Rm.wpMix_plain rfl rfl ?_; go_big_quiet_step (fail); refine wpQuiet_nil ?_)); (try simp only [g4, Bool.not_true, Bool.not_false]); (iterate 2 (refine Rm.wpMix_plain rfl rfl ?_; go_big_quiet_step (fail); refine wpQuiet_nil ?_)))
              refine Rm.wpMix_nil ?_
              rintro w6 hW
              have x : Ext w5 w6 := hW
              obtain ⟨F1, F2, F3, E3, FS, HF3, X3⟩ : Hid _ ∧ Hid _ ∧ Hid _ ∧ Hid _ ∧ Hid _ ∧ Hid _ ∧ Hid _ := ⟨Lib.hid (x.box F1.out), Lib.hid (x.box F2.out), Lib.hid (x.box F3.out), Lib.hid (x.box E3.out), Lib.hid (FS.out.keep x), Lib.hid (HF3.out.keep x), Lib.hid (Ext.trans X3.out x)⟩
              have hsz_w6 := x.size
              clear x hW
              have d1 := bx_cell F1.out
              have d2 := bx_cell F2.out
              have z1 := bx_lt F1.out
              have z2 := bx_lt F2.out
              have g5 : decide (m.view ≤ r.view) = true := by simp at g1 ⊢; omega
              have h1 : decide (r.view < m.view) = false := by simp at g5 ⊢; omega
              have HQ := Lib.hid (show hearR2 r m 11 (stateR2 r m) = sameR r ∧ hearO r m 11 (stateO2 r m) = [] by
                rw [HY.out.1, HY.out.2, HS3.out]
                constructor <;> simp only [stateR2, stateO2, stateB, h1, g4, Bool.true_and, Bool.false_and, Bool.and_true, Bool.and_false, Bool.true_or, Bool.false_or, Bool.or_true, Bool.or_false, Bool.not_true, Bool.not_false, Bool.false_eq_true, if_false, if_true, eq_self, List.append_nil, List.nil_append])
              (go_wp2_with (with_reducible refine wl_stop 56 ?_); refine stop_load (E3.out) rfl Tryz.underlying43 (by kernel_rfl) ?_; simp only [Act.put, List.setIfInBounds_toArray, List.set_cons_zero, List.set_cons_succ])
              clear d1 d2 z1 z2
              (go_wp2_with (with_reducible refine wl_stopS 43 ?_); refine stop_store ((w.heap.size + 1 + 1)) (Rp.cs a1 A1 qs.length c1 (sameR r)) rfl rfl (F3.out) (by kernel_rfl) rfl (by simp [Value.oneCell']) ?_)
              intro W9 e9 k9
              have X9 := Lib.hid (chg_new X3.out k9 (by omega))
              have HE9 := Lib.hid e9
              have HT9 := Lib.hid (RoT.of (O := []) (HF3.out.boxed F3.out k9) (FS.out.boxed F3.out (by decide) (by decide) (by decide) (by decide) k9) rfl)
              clear e9 k9
              go_wp2
              refine bodyPost_ret (results_box2 Tryz.results33 rfl rfl Tryz.underlying43 (by kernel_rfl) HE9.out) rfl ⟨_, rfl, ?_, X9.out⟩
              rw [HQ.out.1, HQ.out.2]
              exact HT9.out
            · go_wp2
              (refine Rm.wp_region_mix' (R := relE w5.heap.size) (fun _ _ _ => True) (fun _ _ _ _ _ hq => hq) 25 (by first | exact Nat.le_refl _ | omega | (simp; omega)) (by kernel_rfl) (by kernel_rfl) ?_; simp only [List.take_succ_cons, List.take_zero, List.drop_succ_cons, List.drop_zero])
              ((iterate 1 (refine Rm.wpMix_plain rfl rfl ?_; go_big_quiet_step (fail); refine wpQuiet_nil ?_)); (refine Rm.wpMix_load1 (fun W9' h9 => show W9'.cell? _ = some (.int .i64 m.view) from bx_cell (Ext.box h9 F2.out) 2) rfl rfl rfl Tryz.underlying3 rfl ?_; simp only [Act.put, List.setIfInBounds_toArray, List.set_cons_zero, List.set_cons_succ]); (iterate 1 (refine Rm.wpMix_plain rfl rfl ?_; go_big_quiet_step (fail); refine wpQuiet_nil ?_)); (refine Rm.wpMix_load1 (fun W9' h9 => show W9'.cell? _ = some (.int .i64 r.view) from bx_cell (Ext.box h9 F1.out) 3) rfl rfl rfl Tryz.underlying3 rfl ?_; simp only [Act.put, List.setIfInBounds_toArray, List.set_cons_zero, List.set_cons_succ]); (iterate 1 (refine Rm.wpMix_plain rfl rfl ?_; go_big_quiet_step (fail); refine wpQuiet_nil ?_)); (try simp only [g1, Bool.not_true, Bool.not_false]); (iterate 1 (refine Rm.wpMix_plain rfl rfl ?_; go_big_quiet_step (fail); refine wpQuiet_nil ?_)); (iterate 1 (refine Rm.wpMix_plain rfl rfl ?_; go_big_quiet_step (fail); refine wpQuiet_nil ?_)); (refine Rm.wpMix_load1 (fun W9' h9 => show W9'.cell? _ = some (.int .i64 r.mode) from bx_cell (Ext.box h9 F1.out) 2) rfl rfl rfl Tryz.underlying3 rfl ?_; simp only [Act.put, List.setIfInBounds_toArray, List.set_cons_zero, List.set_cons_succ]); (iterate 1 (refine Rm.wpMix_plain rfl rfl ?_; go_big_quiet_step (fail); refine wpQuiet_nil ?_)); (try simp only [g2, Bool.not_true, Bool.not_false]); (iterate 2 (refine Rm.wpMix_plain rfl rfl ?_; go_big_quiet_step (fail); refine wpQuiet_nil ?_)))
              (refine Rm.wpMix_loadAgg (fun W9' h9 => rp_whole F1.out h9) rfl rfl rfl Tryz.underlying43 (by kernel_rfl) ?_; simp only [Act.put, List.setIfInBounds_toArray, List.set_cons_zero, List.set_cons_succ])
              (refine Rm.wpMix_det rfl rfl rfl (enters Tryz.func67 (by kernel_rfl) rfl) (fun W9' h9 => c_l6Leads a A _ c r W9' HIV.out.1 HIV.out.2) rfl ?_; simp only [Act.put, List.setIfInBounds_toArray, List.set_cons_zero, List.set_cons_succ])
              ((try simp only [g3, Bool.not_true, Bool.not_false]); (iterate 4 (refine Rm.wpMix_plain rfl rfl ?_; go_big_quiet_step (fail); refine wpQuiet_nil ?_)))
              (refine Rm.wpMix_loadAgg (fun W9' h9 => mg_log2 F2.out h9) rfl rfl rfl Tryz.underlying40 (by kernel_rfl) ?_; simp only [Act.put, List.setIfInBounds_toArray, List.set_cons_zero, List.set_cons_succ])
              (refine Rm.wpMix_det rfl rfl rfl (enters Tryz.func69 (by kernel_rfl) rfl) (fun W9' h9 => c_sLogEnd am m.log HMs.out.1 HMs.out.2.1 HMs.out.2.2 W9' (HM.out.keep (Ext.trans X3.out h9)) HLm.out) rfl ?_; simp only [Act.put, List.setIfInBounds_toArray, List.set_cons_zero, List.set_cons_succ])
              (iterate 1 (refine Rm.wpMix_plain rfl rfl ?_; go_big_quiet_step (fail); refine wpQuiet_nil ?_))
              (refine Rm.wpMix_loadAgg (fun W9' h9 => rp_log F1.out h9) rfl rfl rfl Tryz.underlying40 (by kernel_rfl) ?_; simp only [Act.put, List.setIfInBounds_toArray, List.set_cons_zero, List.set_cons_succ])
              (refine Rm.wpMix_det rfl rfl rfl (enters Tryz.func69 (by kernel_rfl) rfl) (fun W9' h9 => c_sLogEnd a r.log HRs.out.1 HRs.out.2.1 HRs.out.2.2 W9' (HR.out.l.keep (Ext.trans X3.out h9)) G.out.lok) rfl ?_; simp only [Act.put, List.setIfInBounds_toArray, List.set_cons_zero, List.set_cons_succ])
              ((iterate 1 (refine Rm.wpMix_plain rfl rfl ?_; go_big_quiet_step (fail); refine wpQuiet_nil ?_)); (try simp only [g4, Bool.not_true, Bool.not_false]); (iterate 2 (refine Rm.wpMix_plain rfl rfl ?_; go_big_quiet_step (fail); refine wpQuiet_nil ?_)))
              refine Rm.wpMix_nil ?_
              rintro w6 hW
              have x : Ext w5 w6 := hW
              obtain ⟨F1, F2, F3, E3, FS, HF3, X3⟩ : Hid _ ∧ Hid _ ∧ Hid _ ∧ Hid _ ∧ Hid _ ∧ Hid _ ∧ Hid _ := ⟨Lib.hid (x.box F1.out), Lib.hid (x.box F2.out), Lib.hid (x.box F3.out), Lib.hid (x.box E3.out), Lib.hid (FS.out.keep x), Lib.hid (HF3.out.keep x), Lib.hid (Ext.trans X3.out x)⟩
              have hsz_w6 := x.size
              clear x hW
              have d1 := bx_cell F1.out
              have d2 := bx_cell F2.out
              have z1 := bx_lt F1.out
              have z2 := bx_lt F2.out
              have g5 : decide (m.view ≤ r.view) = true := by simp at g1 ⊢; omega
              have h1 : decide (r.view < m.view) = false := by simp at g5 ⊢; omega
              rw [HS3.out] at E3 HF3
              (go_wp2_with (with_reducible refine wl_stop 58 ?_); refine stop_load (E3.out) rfl Tryz.underlying43 (by kernel_rfl) ?_; simp only [Act.put, List.setIfInBounds_toArray, List.set_cons_zero, List.set_cons_succ])
              (go_wp2_with (with_reducible refine wl_stop 62 ?_); refine stop_loadAgg (mg_log2 F2.out (ext_refl _)) rfl Tryz.underlying40 (by kernel_rfl) ?_; simp only [Act.put, List.setIfInBounds_toArray, List.set_cons_zero, List.set_cons_succ])
              go_wp2_with fail
              refine (c_l7Take a1 A1 qs.length c1 r m.view am m.log m.commit _ (HM.out.keep X3.out) HMs.out HLm.out).mono ?_
              rintro e w7 ⟨⟨a2, gq, rfl, hf2⟩, x⟩
              obtain ⟨F1, F2, F3, E3, FS, X3⟩ : Hid _ ∧ Hid _ ∧ Hid _ ∧ Hid _ ∧ Hid _ ∧ Hid _ := ⟨Lib.hid (x.box F1.out), Lib.hid (x.box F2.out), Lib.hid (x.box F3.out), Lib.hid (x.box E3.out), Lib.hid (FS.out.keep x), Lib.hid (Ext.trans X3.out x)⟩
              have hsz_w7 := x.size
              have HF2 := Lib.hid (hf2.less (show w.heap.size + 1 + 1 + 1 ≤ _ by omega))
              clear x hf2 d1 z1 d2 z2 HF3
              (go_wp2_with (with_reducible refine wl_stopS 43 ?_); refine stop_store ((w1.heap.size + 1)) (Rp.cs a2 (some ⟨gq, 0, none⟩) 0 0 (r.lead m.view m.log (max m.commit r.commit))) rfl rfl (E3.out) (by kernel_rfl) rfl (by simp [Value.oneCell']) ?_)
              intro u8 e8 k8
              simp only [Act.put, List.setIfInBounds_toArray, List.set_cons_zero, List.set_cons_succ]
              have hlt8 := bx_lt e8
              obtain ⟨F1, F2, F3, E3, FS, X3, HF3⟩ : Hid _ ∧ Hid _ ∧ Hid _ ∧ Hid _ ∧ Hid _ ∧ Hid _ ∧ Hid _ := ⟨Lib.hid (box_chg F1.out k8 (by omega)), Lib.hid (box_chg F2.out k8 (by omega)), Lib.hid (box_chg F3.out k8 (by omega)), Lib.hid e8, Lib.hid (FS.out.boxed E3.out (by decide) (by decide) (by decide) (by decide) k8), Lib.hid (ext_chg X3.out k8 (fun g hg => by rw [List.mem_singleton] at hg; omega)), Lib.hid (HF2.out.boxed E3.out k8)⟩
              clear e8 k8 HF2
              go_wp2
              cases g6 : (m.view % r.of == m.frm)
              · have hg : (m.frm == m.view % r.of) = false := by simp at g6 ⊢; exact fun h => g6 h.symm
                have HQ := Lib.hid (show hearR2 r m 11 (stateR2 r m) = r.lead m.view m.log (max m.commit r.commit) ∧ hearO r m 11 (stateO2 r m) = [] by
                  rw [HY.out.1, HY.out.2]
                  have hB : stateB r m = true := by simp only [stateB, gl, h1, g1, g2, g3, g4, Bool.true_and, Bool.false_and, Bool.and_true, Bool.and_false, Bool.true_or, Bool.false_or, Bool.or_true, Bool.or_false, Bool.not_true, Bool.not_false, Bool.false_eq_true, if_false, if_true, eq_self, List.append_nil, List.nil_append]
                  constructor <;> simp only [stateR2, stateO2, hB, hg, Bool.true_and, Bool.false_and, Bool.and_true, Bool.and_false, Bool.true_or, Bool.false_or, Bool.or_true, Bool.or_false, Bool.not_true, Bool.not_false, Bool.false_eq_true, if_false, if_true, eq_self, List.append_nil, List.nil_append])
                (refine Rm.wp_region_mix' (R := relE u8.heap.size) (fun _ _ _ => True) (fun _ _ _ _ _ hq => hq) 8 (by first | exact Nat.le_refl _ | omega | (simp; omega)) (by kernel_rfl) (by kernel_rfl) ?_; simp only [List.take_succ_cons, List.take_zero, List.drop_succ_cons, List.drop_zero])
                ((iterate 1 (refine Rm.wpMix_plain rfl rfl ?_; go_big_quiet_step (fail); refine wpQuiet_nil ?_)); (refine Rm.wpMix_load1 (fun W9' h9 => show W9'.cell? _ = some (.int .i64 m.view) from bx_cell (Ext.box h9 F2.out) 2) rfl rfl rfl Tryz.underlying3 rfl ?_; simp only [Act.put, List.setIfInBounds_toArray, List.set_cons_zero, List.set_cons_succ]); (iterate 1 (refine Rm.wpMix_plain rfl rfl ?_; go_big_quiet_step (fail); refine wpQuiet_nil ?_)); (refine Rm.wpMix_load1 (fun W9' h9 => show W9'.cell? _ = some (.int .i64 r.of) from bx_cell (Ext.box h9 F1.out) 1) rfl rfl rfl Tryz.underlying3 rfl ?_; simp only [Act.put, List.setIfInBounds_toArray, List.set_cons_zero, List.set_cons_succ]))
                (refine Rm.wpMix_det rfl rfl rfl (enters Tryz.func68 (by kernel_rfl) rfl) (fun W9' h9 => c_sPrimaryOf m.view r.of W9' HVm.out HIV.out.2) rfl ?_; simp only [Act.put, List.setIfInBounds_toArray, List.set_cons_zero, List.set_cons_succ])
                ((iterate 1 (refine Rm.wpMix_plain rfl rfl ?_; go_big_quiet_step (fail); refine wpQuiet_nil ?_)); (refine Rm.wpMix_load1 (fun W9' h9 => show W9'.cell? _ = some (.int .i64 m.frm) from bx_cell (Ext.box h9 F2.out) 1) rfl rfl rfl Tryz.underlying3 rfl ?_; simp only [Act.put, List.setIfInBounds_toArray, List.set_cons_zero, List.set_cons_succ]); (iterate 1 (refine Rm.wpMix_plain rfl rfl ?_; go_big_quiet_step (fail); refine wpQuiet_nil ?_)); (try simp only [g6, Bool.not_true, Bool.not_false]))
                refine Rm.wpMix_nil ?_
                rintro u9 hW
                have x : Ext u8 u9 := hW
                obtain ⟨F1, F2, F3, E3, FS, HF3, X3⟩ : Hid _ ∧ Hid _ ∧ Hid _ ∧ Hid _ ∧ Hid _ ∧ Hid _ ∧ Hid _ := ⟨Lib.hid (x.box F1.out), Lib.hid (x.box F2.out), Lib.hid (x.box F3.out), Lib.hid (x.box E3.out), Lib.hid (FS.out.keep x), Lib.hid (HF3.out.keep x), Lib.hid (Ext.trans X3.out x)⟩
                have hsz_u9 := x.size
                clear x hW
                (go_wp2_with (with_reducible refine wl_stop 88 ?_); refine stop_load (E3.out) rfl Tryz.underlying43 (by kernel_rfl) ?_; simp only [Act.put, List.setIfInBounds_toArray, List.set_cons_zero, List.set_cons_succ])
                (go_wp2_with (with_reducible refine wl_stopS 43 ?_); refine stop_store ((w.heap.size + 1 + 1)) (Rp.cs a2 (some ⟨gq, 0, none⟩) 0 0 (r.lead m.view m.log (max m.commit r.commit))) rfl rfl (F3.out) (by kernel_rfl) rfl (by simp [Value.oneCell']) ?_)
                intro W9 e9 k9
                have X9 := Lib.hid (chg_new X3.out k9 (by omega))
                have HE9 := Lib.hid e9
                have HT9 := Lib.hid (RoT.of (O := []) (HF3.out.boxed F3.out k9) (FS.out.boxed F3.out (by decide) (by decide) (by decide) (by decide) k9) rfl)
                clear e9 k9
                go_wp2
                refine bodyPost_ret (results_box2 Tryz.results33 rfl rfl Tryz.underlying43 (by kernel_rfl) HE9.out) rfl ⟨_, rfl, ?_, X9.out⟩
                rw [HQ.out.1, HQ.out.2]
                exact HT9.out
              · have hg : (m.frm == m.view % r.of) = true := by simp at g6 ⊢; exact g6.symm
                have HQ := Lib.hid (show hearR2 r m 11 (stateR2 r m) = r.lead m.view m.log (max m.commit r.commit) ∧ hearO r m 11 (stateO2 r m) = [⟨m.frm, okM (r.lead m.view m.log (max m.commit r.commit))⟩] by
                  rw [HY.out.1, HY.out.2]
                  have hB : stateB r m = true := by simp only [stateB, gl, h1, g1, g2, g3, g4, Bool.true_and, Bool.false_and, Bool.and_true, Bool.and_false, Bool.true_or, Bool.false_or, Bool.or_true, Bool.or_false, Bool.not_true, Bool.not_false, Bool.false_eq_true, if_false, if_true, eq_self, List.append_nil, List.nil_append]
                  constructor <;> simp only [stateR2, stateO2, hB, hg, Bool.true_and, Bool.false_and, Bool.and_true, Bool.and_false, Bool.true_or, Bool.false_or, Bool.or_true, Bool.or_false, Bool.not_true, Bool.not_false, Bool.false_eq_true, if_false, if_true, eq_self, List.append_nil, List.nil_append])
                (refine Rm.wp_region_mix' (R := relE u8.heap.size) (fun _ _ _ => True) (fun _ _ _ _ _ hq => hq) 8 (by first | exact Nat.le_refl _ | omega | (simp; omega)) (by kernel_rfl) (by kernel_rfl) ?_; simp only [List.take_succ_cons, List.take_zero, List.drop_succ_cons, List.drop_zero])
                ((iterate 1 (refine Rm.wpMix_plain rfl rfl ?_; go_big_quiet_step (fail); refine wpQuiet_nil ?_)); (refine Rm.wpMix_load1 (fun W9' h9 => show W9'.cell? _ = some (.int .i64 m.view) from bx_cell (Ext.box h9 F2.out) 2) rfl rfl rfl Tryz.underlying3 rfl ?_; simp only [Act.put, List.setIfInBounds_toArray, List.set_cons_zero, List.set_cons_succ]); (iterate 1 (refine Rm.wpMix_plain rfl rfl ?_; go_big_quiet_step (fail); refine wpQuiet_nil ?_)); (refine Rm.wpMix_load1 (fun W9' h9 => show W9'.cell? _ = some (.int .i64 r.of) from bx_cell (Ext.box h9 F1.out) 1) rfl rfl rfl Tryz.underlying3 rfl ?_; simp only [Act.put, List.setIfInBounds_toArray, List.set_cons_zero, List.set_cons_succ]))
                (refine Rm.wpMix_det rfl rfl rfl (enters Tryz.func68 (by kernel_rfl) rfl) (fun W9' h9 => c_sPrimaryOf m.view r.of W9' HVm.out HIV.out.2) rfl ?_; simp only [Act.put, List.setIfInBounds_toArray, List.set_cons_zero, List.set_cons_succ])
                ((iterate 1 (refine Rm.wpMix_plain rfl rfl ?_; go_big_quiet_step (fail); refine wpQuiet_nil ?_)); (refine Rm.wpMix_load1 (fun W9' h9 => show W9'.cell? _ = some (.int .i64 m.frm) from bx_cell (Ext.box h9 F2.out) 1) rfl rfl rfl Tryz.underlying3 rfl ?_; simp only [Act.put, List.setIfInBounds_toArray, List.set_cons_zero, List.set_cons_succ]); (iterate 1 (refine Rm.wpMix_plain rfl rfl ?_; go_big_quiet_step (fail); refine wpQuiet_nil ?_)); (try simp only [g6, Bool.not_true, Bool.not_false]))
                refine Rm.wpMix_nil ?_
                rintro u9 hW
                have x : Ext u8 u9 := hW
                obtain ⟨F1, F2, F3, E3, FS, HF3, X3⟩ : Hid _ ∧ Hid _ ∧ Hid _ ∧ Hid _ ∧ Hid _ ∧ Hid _ ∧ Hid _ := ⟨Lib.hid (x.box F1.out), Lib.hid (x.box F2.out), Lib.hid (x.box F3.out), Lib.hid (x.box E3.out), Lib.hid (FS.out.keep x), Lib.hid (HF3.out.keep x), Lib.hid (Ext.trans X3.out x)⟩
                have hsz_u9 := x.size
                clear x hW
                go_wp2
                (refine Rm.wp_region_mix' (R := relE u9.heap.size) (fun _ _ _ => True) (fun _ _ _ _ _ hq => hq) 13 (by first | exact Nat.le_refl _ | omega | (simp; omega)) (by kernel_rfl) (by kernel_rfl) ?_; simp only [List.take_succ_cons, List.take_zero, List.drop_succ_cons, List.drop_zero])
                ((iterate 2 (refine Rm.wpMix_plain rfl rfl ?_; go_big_quiet_step (fail); refine wpQuiet_nil ?_)); (refine Rm.wpMix_load1 (fun W9' h9 => show W9'.cell? _ = some (.int .i64 m.frm) from bx_cell (Ext.box h9 F2.out) 1) rfl rfl rfl Tryz.underlying3 rfl ?_; simp only [Act.put, List.setIfInBounds_toArray, List.set_cons_zero, List.set_cons_succ]); (iterate 1 (refine Rm.wpMix_plain rfl rfl ?_; go_big_quiet_step (fail); refine wpQuiet_nil ?_)); (refine Rm.wpMix_load1 (fun W9' h9 => show W9'.cell? _ = some (.int .i64 r.me) from bx_cell (Ext.box h9 F1.out) 0) rfl rfl rfl Tryz.underlying3 rfl ?_; simp only [Act.put, List.setIfInBounds_toArray, List.set_cons_zero, List.set_cons_succ]); (iterate 1 (refine Rm.wpMix_plain rfl rfl ?_; go_big_quiet_step (fail); refine wpQuiet_nil ?_)); (refine Rm.wpMix_load1 (fun W9' h9 => show W9'.cell? _ = some (.int .i64 m.view) from bx_cell (Ext.box h9 F2.out) 2) rfl rfl rfl Tryz.underlying3 rfl ?_; simp only [Act.put, List.setIfInBounds_toArray, List.set_cons_zero, List.set_cons_succ]); (iterate 1 (refine Rm.wpMix_plain rfl rfl ?_; go_big_quiet_step (fail); refine wpQuiet_nil ?_)))
                (refine Rm.wpMix_loadAgg (fun W9' h9 => mg_log2 F2.out h9) rfl rfl rfl Tryz.underlying40 (by kernel_rfl) ?_; simp only [Act.put, List.setIfInBounds_toArray, List.set_cons_zero, List.set_cons_succ])
                (refine Rm.wpMix_det rfl rfl rfl (enters Tryz.func69 (by kernel_rfl) rfl) (fun W9' h9 => c_sLogEnd am m.log HMs.out.1 HMs.out.2.1 HMs.out.2.2 W9' (HM.out.keep (Ext.trans X3.out h9)) HLm.out) rfl ?_; simp only [Act.put, List.setIfInBounds_toArray, List.set_cons_zero, List.set_cons_succ])
                (iterate 2 (refine Rm.wpMix_plain rfl rfl ?_; go_big_quiet_step (fail); refine wpQuiet_nil ?_))
                (refine Rm.wpMix_alloc (.cells (OtE.cells LAd.none ⟨m.frm, okM (r.lead m.view m.log (max m.commit r.commit))⟩) 100) rfl (fun W => by kernel_rfl) ?_; intro p1 hp1 hps1 hpi1; simp only [layVal, Act.put, List.setIfInBounds_toArray, List.set_cons_zero, List.set_cons_succ])
                refine Rm.wpMix_nil ?_
                rintro v9 ⟨h9, hp9⟩
                have x : Ext u9 v9 := h9
                obtain ⟨F3, E3, FS, HF3, X3⟩ : Hid _ ∧ Hid _ ∧ Hid _ ∧ Hid _ ∧ Hid _ := ⟨Lib.hid (x.box F3.out), Lib.hid (x.box E3.out), Lib.hid (FS.out.keep x), Lib.hid (HF3.out.keep x), Lib.hid (Ext.trans X3.out x)⟩
                have hsz9 := x.size
                have HP9 := Lib.hid hp9
                have hl9 := bx_lt HP9.out
                clear x h9 hp9 hp1 hps1 hpi1 F1 F2
                obtain ⟨i0, hi, hz0, hz1, hz2⟩ := info_parts Tryz.infoOt
                go_wp2_with (at_builtin; refine wl_app (enc := OtE.enc) rfl _ _ 55 rfl (w.heap.size + 1 + 1 + 1) 100 i0 Ot.zero 18 192 Tryz.underlying55 hi hz0 hz1 hz2 rfl (by decide) OtE.len OtE.one (.slice (some ⟨w1.heap.size, 0, none⟩) 0 0) [] rfl FS.out.row (some ⟨p1, 0, none⟩) 1 [(LAd.none, (⟨m.frm, okM (r.lead m.view m.log (max m.commit r.commit))⟩ : Ot))] 1 rfl rfl (Rd.one HP9.out rfl) ?c1 ?c2 ?c3 ?_)
                case c1 => unfold maxLen; simp
                case c2 => simp
                case c3 => omega
                intro v10 w10 ho10 hg10
                obtain ⟨A10, c10, rfl⟩ := ho10.form
                have c4 := chg_grown hg10
                have hb : blk (some (⟨w1.heap.size, 0, none⟩ : Addr)) = [w1.heap.size] := rfl
                have hne : ∀ k, k ≠ w1.heap.size → k ∉ blk (some (⟨w1.heap.size, 0, none⟩ : Addr)) := fun k hk hm => hk (by rw [hb, List.mem_singleton] at hm; exact hm)
                obtain ⟨F3, E3, FS2, X3⟩ : Hid _ ∧ Hid _ ∧ Hid _ ∧ Hid _ := ⟨Lib.hid (box_out' F3.out c4 (hne _ (by omega))), Lib.hid (box_out' E3.out c4 (hne _ (by omega))), Lib.hid (show OsK w10 (w.heap.size + 1 + 1 + 1) A10 c10 [(LAd.none, (⟨m.frm, okM (r.lead m.view m.log (max m.commit r.commit))⟩ : Ot))] from ⟨ho10, fun q hq => by rw [List.mem_singleton] at hq; subst hq; exact none_lgF _ _⟩), Lib.hid (ext_chg X3.out c4 (fun g hg => by rw [hb, List.mem_singleton] at hg; omega))⟩
                have HF4 := Lib.hid (HF3.out.beside FS.out.row c4)
                clear HF3 FS
                have HF3 := HF4
                have FS := FS2
                clear HF4 FS2 c4 hne hb ho10 hg10 HP9
                (go_wp2_with (with_reducible refine wl_stop 88 ?_); refine stop_load (E3.out) rfl Tryz.underlying43 (by kernel_rfl) ?_; simp only [Act.put, List.setIfInBounds_toArray, List.set_cons_zero, List.set_cons_succ])
                (go_wp2_with (with_reducible refine wl_stopS 43 ?_); refine stop_store ((w.heap.size + 1 + 1)) (Rp.cs a2 (some ⟨gq, 0, none⟩) 0 0 (r.lead m.view m.log (max m.commit r.commit))) rfl rfl (F3.out) (by kernel_rfl) rfl (by simp [Value.oneCell']) ?_)
                intro W9 e9 k9
                have X9 := Lib.hid (chg_new X3.out k9 (by omega))
                have HE9 := Lib.hid e9
                have HT9 := Lib.hid (RoT.of (O := [⟨m.frm, okM (r.lead m.view m.log (max m.commit r.commit))⟩]) (HF3.out.boxed F3.out k9) (FS.out.boxed F3.out (by decide) (by decide) (by decide) (by decide) k9) rfl)
                clear e9 k9
                go_wp2
                refine bodyPost_ret (results_box2 Tryz.results33 rfl rfl Tryz.underlying43 (by kernel_rfl) HE9.out) rfl ⟨_, rfl, ?_, X9.out⟩
                rw [HQ.out.1, HQ.out.2]
                exact HT9.out
          · go_wp2
            (refine Rm.wp_region_mix' (R := relE w5.heap.size) (fun _ _ _ => True) (fun _ _ _ _ _ hq => hq) 25 (by first | exact Nat.le_refl _ | omega | (simp; omega)) (by kernel_rfl) (by kernel_rfl) ?_; simp only [List.take_succ_cons, List.take_zero, List.drop_succ_cons, List.drop_zero])
            ((iterate 1 (refine Rm.wpMix_plain rfl rfl ?_; go_big_quiet_step (fail); refine wpQuiet_nil ?_)); (refine Rm.wpMix_load1 (fun W9' h9 => show W9'.cell? _ = some (.int .i64 m.view) from bx_cell (Ext.box h9 F2.out) 2) rfl rfl rfl Tryz.underlying3 rfl ?_; simp only [Act.put, List.setIfInBounds_toArray, List.set_cons_zero, List.set_cons_succ]); (iterate 1 (refine Rm.wpMix_plain rfl rfl ?_; go_big_quiet_step (fail); refine wpQuiet_nil ?_)); (refine Rm.wpMix_load1 (fun W9' h9 => show W9'.cell? _ = some (.int .i64 r.view) from bx_cell (Ext.box h9 F1.out) 3) rfl rfl rfl Tryz.underlying3 rfl ?_; simp only [Act.put, List.setIfInBounds_toArray, List.set_cons_zero, List.set_cons_succ]); (iterate 1 (refine Rm.wpMix_plain rfl rfl ?_; go_big_quiet_step (fail); refine wpQuiet_nil ?_)); (try simp only [g1, Bool.not_true, Bool.not_false]); (iterate 1 (refine Rm.wpMix_plain rfl rfl ?_; go_big_quiet_step (fail); refine wpQuiet_nil ?_)); (iterate 1 (refine Rm.wpMix_plain rfl rfl ?_; go_big_quiet_step (fail); refine wpQuiet_nil ?_)); (refine Rm.wpMix_load1 (fun W9' h9 => show W9'.cell? _ = some (.int .i64 r.mode) from bx_cell (Ext.box h9 F1.out) 2) rfl rfl rfl Tryz.underlying3 rfl ?_; simp only [Act.put, List.setIfInBounds_toArray, List.set_cons_zero, List.set_cons_succ]); (iterate 1 (refine Rm.wpMix_plain rfl rfl ?_; go_big_quiet_step (fail); refine wpQuiet_nil ?_)); (try simp only [g2, Bool.not_true, Bool.not_false]); (iterate 2 (refine Rm.wpMix_plain rfl rfl ?_; go_big_quiet_step (fail); refine wpQuiet_nil ?_)))
            (refine Rm.wpMix_loadAgg (fun W9' h9 => rp_whole F1.out h9) rfl rfl rfl Tryz.underlying43 (by kernel_rfl) ?_; simp only [Act.put, List.setIfInBounds_toArray, List.set_cons_zero, List.set_cons_succ])
            (refine Rm.wpMix_det rfl rfl rfl (enters Tryz.func67 (by kernel_rfl) rfl) (fun W9' h9 => c_l6Leads a A _ c r W9' HIV.out.1 HIV.out.2) rfl ?_; simp only [Act.put, List.setIfInBounds_toArray, List.set_cons_zero, List.set_cons_succ])
            ((try simp only [g3, Bool.not_true, Bool.not_false]); (iterate 3 (refine Rm.wpMix_plain rfl rfl ?_; go_big_quiet_step (fail); refine wpQuiet_nil ?_)); (iterate 7 (refine Rm.wpMix_skip rfl rfl ?_; simp only [Act.put, List.setIfInBounds_toArray, List.set_cons_zero, List.set_cons_succ])); (iterate 2 (refine Rm.wpMix_plain rfl rfl ?_; go_big_quiet_step (fail); refine wpQuiet_nil ?_)))
            refine Rm.wpMix_nil ?_
            rintro w6 hW
            have x : Ext w5 w6 := hW
            obtain ⟨F1, F2, F3, E3, FS, HF3, X3⟩ : Hid _ ∧ Hid _ ∧ Hid _ ∧ Hid _ ∧ Hid _ ∧ Hid _ ∧ Hid _ := ⟨Lib.hid (x.box F1.out), Lib.hid (x.box F2.out), Lib.hid (x.box F3.out), Lib.hid (x.box E3.out), Lib.hid (FS.out.keep x), Lib.hid (HF3.out.keep x), Lib.hid (Ext.trans X3.out x)⟩
            have hsz_w6 := x.size
            clear x hW
            have d1 := bx_cell F1.out
            have d2 := bx_cell F2.out
            have z1 := bx_lt F1.out
            have z2 := bx_lt F2.out
            have g5 : decide (m.view ≤ r.view) = true := by simp at g1 ⊢; omega
            have h1 : decide (r.view < m.view) = false := by simp at g5 ⊢; omega
            have HQ := Lib.hid (show hearR2 r m 11 (stateR2 r m) = sameR r ∧ hearO r m 11 (stateO2 r m) = [] by
              rw [HY.out.1, HY.out.2, HS3.out]
              constructor <;> simp only [stateR2, stateO2, stateB, h1, g3, Bool.true_and, Bool.false_and, Bool.and_true, Bool.and_false, Bool.true_or, Bool.false_or, Bool.or_true, Bool.or_false, Bool.not_true, Bool.not_false, Bool.false_eq_true, if_false, if_true, eq_self, List.append_nil, List.nil_append])
            (go_wp2_with (with_reducible refine wl_stop 56 ?_); refine stop_load (E3.out) rfl Tryz.underlying43 (by kernel_rfl) ?_; simp only [Act.put, List.setIfInBounds_toArray, List.set_cons_zero, List.set_cons_succ])
            clear d1 d2 z1 z2
            (go_wp2_with (with_reducible refine wl_stopS 43 ?_); refine stop_store ((w.heap.size + 1 + 1)) (Rp.cs a1 A1 qs.length c1 (sameR r)) rfl rfl (F3.out) (by kernel_rfl) rfl (by simp [Value.oneCell']) ?_)
            intro W9 e9 k9
            have X9 := Lib.hid (chg_new X3.out k9 (by omega))
            have HE9 := Lib.hid e9
            have HT9 := Lib.hid (RoT.of (O := []) (HF3.out.boxed F3.out k9) (FS.out.boxed F3.out (by decide) (by decide) (by decide) (by decide) k9) rfl)
            clear e9 k9
            go_wp2
            refine bodyPost_ret (results_box2 Tryz.results33 rfl rfl Tryz.underlying43 (by kernel_rfl) HE9.out) rfl ⟨_, rfl, ?_, X9.out⟩
            rw [HQ.out.1, HQ.out.2]
            exact HT9.out
end Go.Proofs.YtkenlhdiehaemaaGreat
