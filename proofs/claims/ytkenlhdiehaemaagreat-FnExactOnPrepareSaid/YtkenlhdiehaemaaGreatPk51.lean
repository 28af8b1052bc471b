/- OnPrepare of the reference. -/
import Derived.Test.YtkenlhdiehaemaaGreatPk30
import Derived.Test.YtkenlhdiehaemaaGreatPk50
namespace Go.Proofs.YtkenlhdiehaemaaGreat
open Go.ChangeShapes Go.WideShapes Go.ChangeAt Go.RowKit Go.Sort
set_option linter.unusedVariables false
set_option linter.unusedSimpArgs false
abbrev Rp.wLog (r : Rp) (L : Lg) : Rp := ⟨r.me, r.of, r.mode, r.view, r.normal, r.commit, L, r.votes, r.cell, r.nonce⟩
theorem lokS {l : Lg} (h : logOk l = true) : l.small := by
 obtain ⟨_, _, h60, hI, _⟩ := log_b h
 have h7 : l.cells.length ≤ 40 := hI.c.len
 have h8 : l.seats.length ≤ 10 := hI.s.len
 exact ⟨by omega, by omega, by omega⟩
theorem putE_w {r : Rp} {e : Ent} (h : putOk (pLog r) e = true) : r.putE e = r.wLog (putL (pLog r) e) := putE_yes h
set_option maxRecDepth 100000 in
set_option maxHeartbeats 16000000 in
theorem c_sOnPrepare (a : LAd) (A : Option Addr) (c : Nat) (ps : List VtE) (r : Rp) (am : LAd) (m : Mg) (w : World) (hr : RpR w a A c ps r) (hs : r.log.small) (hn : ps.length ≤ 1048576) (hv : LgS ps) (hm : LgR w am m.log) (hms : m.log.small) :
  Calls Tryz.prog 41 #[Rp.val a A ps.length c r, Mg.val am m] w fun e w' => ∃ v, e = .returned v ∧ RoT w' (hearR2 r m 2 (prepR r m)) (hearO r m 2 (prepO r m)) v ∧ Ext w w' := by
 have X0 : Ext w (((w.alloc (Rp.obj a A ps.length c r)).alloc (Mg.obj am m)).alloc Rp.zobj) := ext_to (ext_to (ext_alloc _ _) _) _
 have HSm := Lib.hid (c_l6Same a A c ps r _ (hr.keep X0) hs hn hv)
 have HHr := Lib.hid (fun W (h : Ext w W) => c_l6Hears a A c ps r am m 2 W (hr.keep h) hs hn hv (hm.keep h) hms)
 have D1 := Lib.hid (hOld (o := Rp.zobj) (hOld (o := Mg.obj am m) (hNew (w := w) (o := Rp.obj a A ps.length c r) rfl)))
 have D2 := Lib.hid (hOld (o := Rp.zobj) (hNew (w := w.alloc (Rp.obj a A ps.length c r)) (o := Mg.obj am m) (k := w.heap.size + 1) (by simp)))
 have D3 := Lib.hid (hNew (w := (w.alloc (Rp.obj a A ps.length c r)).alloc (Mg.obj am m)) (o := Rp.zobj) (k := w.heap.size + 1 + 1) (by simp))
 have HX0 := Lib.hid X0
 have HR := Lib.hid hr
 have HM := Lib.hid hm
 have HMs := Lib.hid hms
 have HRs := Lib.hid hs
 have hheq : sHearB r m 2 = hearB r m 2 := (hear_eq (by decide +kernel) (by decide +kernel) rfl).symm
 have HHe := Lib.hid hheq
 clear X0 hr hv hm hheq hms hs
 go_enter Tryz.func41, Tryz.ntmps41
 (go_wp2_with (with_reducible refine wl_stop 11 ?_); refine stop_load (D1.out) rfl Tryz.underlying43 (by kernel_rfl) ?_; simp only [Act.put, List.setIfInBounds_toArray, List.set_cons_zero, List.set_cons_succ])
 go_wp2_with fail
 refine HSm.out.mono ?_
 rintro e w1 ⟨v1, rfl, ⟨a1, A1, c1, qs, rfl, f1⟩, x1⟩
 have HF1 := Lib.hid f1
 have X1 := Lib.hid (Ext.trans HX0.out x1)
 have XO := Lib.hid (show Ext w1 ((w1.alloc (.cells #[] 100)).alloc Rp.zobj) from ext_to (ext_alloc _ _) _)
 have B1 := Lib.hid (XO.out.box (x1.box D1.out))
 have B2 := Lib.hid (XO.out.box (x1.box D2.out))
 have B3 := Lib.hid (XO.out.box (x1.box D3.out))
 have BS := Lib.hid (hOld (o := Rp.zobj) (hNew (w := w1) (o := .cells #[] 100) rfl))
 have Z1 := Lib.hid (hNew (w := w1.alloc (.cells #[] 100)) (o := Rp.zobj) (k := w1.heap.size + 1) (by simp))
 have hs1 := x1.size
 simp only [sz_alloc] at hs1
 clear f1 x1 D1 D2 D3 HX0 HSm
 (go_wp2_with (with_reducible refine wl_stopS 43 ?_); refine stop_store ((w1.heap.size + 1)) (Rp.cs a1 A1 qs.length c1 (sameR r)) rfl rfl (Z1.out) (by kernel_rfl) rfl (by simp [Value.oneCell']) ?_)
 intro W3 e3 k3
 have x3 : Ext w1 W3 := ext_chg XO.out k3 (fun g hg => by rw [List.mem_singleton] at hg; omega)
 have E3 := Lib.hid e3
 have F1 := Lib.hid (box_chg B1.out k3 (by omega))
 have F2 := Lib.hid (box_chg B2.out k3 (by omega))
 have F3 := Lib.hid (box_chg B3.out k3 (by omega))
 have FS := Lib.hid (OsK.nil (B := w.heap.size + 1 + 1 + 1) (box_chg BS.out k3 (by omega)) (by omega))
 have HF3 := Lib.hid ((HF1.out.keep x3).less (B' := w.heap.size + 1 + 1 + 1) (by simp))
 have X3 := Lib.hid (Ext.trans X1.out x3)
 have hs3 := bx_lt e3
 clear e3 k3 x3 Z1 B1 B2 B3 BS HF1 X1 XO
 (go_wp2_with (with_reducible refine wl_stop 14 ?_); refine stop_load (F1.out) rfl Tryz.underlying43 (by kernel_rfl) ?_; simp only [Act.put, List.setIfInBounds_toArray, List.set_cons_zero, List.set_cons_succ])
 (go_wp2_with (with_reducible refine wl_stop 15 ?_); refine stop_load (F2.out) rfl Tryz.underlying60 (by kernel_rfl) ?_; simp only [Act.put, List.setIfInBounds_toArray, List.set_cons_zero, List.set_cons_succ])
 go_wp2_with fail
 refine (HHr.out _ X3.out).mono ?_
 rintro e w4 ⟨rfl, x⟩
 obtain ⟨F1, F2, F3, E3, FS, HF3, X3⟩ : Hid _ ∧ Hid _ ∧ Hid _ ∧ Hid _ ∧ Hid _ ∧ Hid _ ∧ Hid _ := ⟨Lib.hid (x.box F1.out), Lib.hid (x.box F2.out), Lib.hid (x.box F3.out), Lib.hid (x.box E3.out), Lib.hid (FS.out.keep x), Lib.hid (HF3.out.keep x), Lib.hid (Ext.trans X3.out x)⟩
 have hsz_w4 := x.size
 clear x
 clear HHr
 cases qh : (rpOk r && sHearB r m 2)
 ·have HQ := Lib.hid (hearR2_no (R2 := prepR r m) (O := prepO r m) (by rw [← HHe.out]; exact qh))
  (go_wp2_with (with_reducible refine wl_stop 23 ?_); refine stop_load (E3.out) rfl Tryz.underlying43 (by kernel_rfl) ?_; simp only [Act.put, List.setIfInBounds_toArray, List.set_cons_zero, List.set_cons_succ])
  (go_wp2_with (with_reducible refine wl_stopS 43 ?_); refine stop_store ((w.heap.size + 1 + 1)) (Rp.cs a1 A1 qs.length c1 (sameR r)) rfl rfl (F3.out) (by kernel_rfl) rfl (by simp [Value.oneCell']) ?_)
  intro W9 e9 k9
  have X9 := Lib.hid (chg_new X3.out k9 (by omega))
  have HE9 := Lib.hid e9
  have HT9 := Lib.hid (RoT.of (O := []) (HF3.out.boxed F3.out k9) (FS.out.boxed F3.out (by decide) (by decide) (by decide) (by decide) k9) rfl)
  clear e9 k9
  go_wp2
  refine bodyPost_ret (results_box2 Tryz.results41 rfl rfl Tryz.underlying43 (by kernel_rfl) HE9.out) rfl ⟨_, rfl, ?_, X9.out⟩
  rw [HQ.out.1, HQ.out.2]
  exact HT9.out
 ·obtain ⟨hy1, hy2, hy3⟩ := hearR2_yes (r := r) (m := m) (kind := 2) (R2 := prepR r m) (O := prepO r m) (by rw [← HHe.out]; exact qh)
  have HY := Lib.hid (And.intro hy1 hy2)
  have HS3 := Lib.hid hy3
  obtain ⟨hq1, hq2, hq3⟩ := hear_facts (show (rpOk r && hearB r m 2) = true by rw [← HHe.out]; exact qh)
  have G := Lib.hid (rpOk_good hq1)
  have HIV := Lib.hid (rpOk_in hq1)
  clear hy1 hy2 hy3
  have HRk := Lib.hid hq1
  have hfin1 := G.out.fin
  have hfin0 : 0 ≤ r.log.fin := by have := G.out.base0; unfold Lg.fin; omega
  clear hq1 hq2 hq3
  (go_wp2_with (with_reducible refine wl_stop 19 ?_); refine stop_loadG (F1.out) rfl rfl Tryz.underlying43 (by kernel_rfl) ?_; simp only [Act.put, List.setIfInBounds_toArray, List.set_cons_zero, List.set_cons_succ])
  go_wp2_with fail
  refine (c_l6Live a _ _ _ r _).mono ?_
  rintro e w5 ⟨rfl, x⟩
  obtain ⟨F1, F2, F3, E3, FS, HF3, X3⟩ : Hid _ ∧ Hid _ ∧ Hid _ ∧ Hid _ ∧ Hid _ ∧ Hid _ ∧ Hid _ := ⟨Lib.hid (x.box F1.out), Lib.hid (x.box F2.out), Lib.hid (x.box F3.out), Lib.hid (x.box E3.out), Lib.hid (FS.out.keep x), Lib.hid (HF3.out.keep x), Lib.hid (Ext.trans X3.out x)⟩
  have hsz_w5 := x.size
  clear x
  cases gl : liveB r
  ·have HQ := Lib.hid (show hearR2 r m 2 (prepR r m) = sameR r ∧ hearO r m 2 (prepO r m) = [] by
   rw [HY.out.1, HY.out.2, HS3.out]
   constructor <;> simp only [prepR, prepO, followO, followB, gl, Bool.true_and, Bool.false_and, Bool.and_true, Bool.and_false, Bool.true_or, Bool.false_or, Bool.or_true, Bool.or_false, Bool.not_true, Bool.not_false, Bool.false_eq_true, if_false, if_true, eq_self, List.append_nil, List.nil_append])
   (go_wp2_with (with_reducible refine wl_stop 23 ?_); refine stop_load (E3.out) rfl Tryz.underlying43 (by kernel_rfl) ?_; simp only [Act.put, List.setIfInBounds_toArray, List.set_cons_zero, List.set_cons_succ])
   (go_wp2_with (with_reducible refine wl_stopS 43 ?_); refine stop_store ((w.heap.size + 1 + 1)) (Rp.cs a1 A1 qs.length c1 (sameR r)) rfl rfl (F3.out) (by kernel_rfl) rfl (by simp [Value.oneCell']) ?_)
   intro W9 e9 k9
   have X9 := Lib.hid (chg_new X3.out k9 (by omega))
   have HE9 := Lib.hid e9
   have HT9 := Lib.hid (RoT.of (O := []) (HF3.out.boxed F3.out k9) (FS.out.boxed F3.out (by decide) (by decide) (by decide) (by decide) k9) rfl)
   clear e9 k9
   go_wp2
   refine bodyPost_ret (results_box2 Tryz.results41 rfl rfl Tryz.underlying43 (by kernel_rfl) HE9.out) rfl ⟨_, rfl, ?_, X9.out⟩
   rw [HQ.out.1, HQ.out.2]
   exact HT9.out
  ·have d1 := bx_cell F1.out
   have d2 := bx_cell F2.out
   have z1 := bx_lt F1.out
   have z2 := bx_lt F2.out
   cases g0 : decide (r.view < m.view)
   ·cases g1 : (m.view != r.view)
    ·cases g2 : (r.mode != 1)
     ·cases g3 : leadsB r
      ·cases g4 : (r.view % r.of != m.frm)
       ·have hv1 : (m.view == r.view) = true := by simpa using g1
        have hm1 : (r.mode == 1) = true := by simpa using g2
        have hf1 : (m.frm == r.view % r.of) = true := by simp at g4 ⊢; exact g4.symm
        go_wp2
        clear d1 d2 z1 z2
        (refine Rm.wp_region_mix' (R := relE w5.heap.size) (fun _ _ _ => True) (fun _ _ _ _ _ hq => hq) 24 (by first | exact Nat.le_refl _ | omega | (simp; omega)) (by kernel_rfl) (by kernel_rfl) ?_; simp only [List.take_succ_cons, List.take_zero, List.drop_succ_cons, List.drop_zero])
        ((iterate 1 (refine Rm.wpMix_plain rfl rfl ?_; go_big_quiet_step (fail); refine wpQuiet_nil ?_)); (refine Rm.wpMix_load1 (fun W9' h9 => show W9'.cell? _ = some (.int .i64 m.view) from bx_cell (Ext.box h9 F2.out) 2) rfl rfl rfl Tryz.underlying3 rfl ?_; simp only [Act.put, List.setIfInBounds_toArray, List.set_cons_zero, List.set_cons_succ]); (iterate 1 (refine Rm.wpMix_plain rfl rfl ?_; go_big_quiet_step (fail); refine wpQuiet_nil ?_)); (refine Rm.wpMix_load1 (fun W9' h9 => show W9'.cell? _ = some (.int .i64 r.view) from bx_cell (Ext.box h9 F1.out) 3) rfl rfl rfl Tryz.underlying3 rfl ?_; simp only [Act.put, List.setIfInBounds_toArray, List.set_cons_zero, List.set_cons_succ]); (iterate 1 (refine Rm.wpMix_plain rfl rfl ?_; go_big_quiet_step (fail); refine wpQuiet_nil ?_)); (try simp only [g1, Bool.not_true, Bool.not_false]); (iterate 1 (refine Rm.wpMix_plain rfl rfl ?_; go_big_quiet_step (fail); refine wpQuiet_nil ?_)); (iterate 1 (refine Rm.wpMix_plain rfl rfl ?_; go_big_quiet_step (fail); refine wpQuiet_nil ?_)); (refine Rm.wpMix_load1 (fun W9' h9 => show W9'.cell? _ = some (.int .i64 r.mode) from bx_cell (Ext.box h9 F1.out) 2) rfl rfl rfl Tryz.underlying3 rfl ?_; simp only [Act.put, List.setIfInBounds_toArray, List.set_cons_zero, List.set_cons_succ]); (iterate 1 (refine Rm.wpMix_plain rfl rfl ?_; go_big_quiet_step (fail); refine wpQuiet_nil ?_)); (try simp only [g2, Bool.not_true, Bool.not_false]); (iterate 2 (refine Rm.wpMix_plain rfl rfl ?_; go_big_quiet_step (fail); refine wpQuiet_nil ?_)))
        (refine Rm.wpMix_loadAgg (fun W9' h9 => rp_whole F1.out h9) rfl rfl rfl Tryz.underlying43 (by kernel_rfl) ?_; simp only [Act.put, List.setIfInBounds_toArray, List.set_cons_zero, List.set_cons_succ])
        (refine Rm.wpMix_det rfl rfl rfl (enters Tryz.func67 (by kernel_rfl) rfl) (fun W9' h9 => c_l6Leads a A _ c r W9' HIV.out.1 HIV.out.2) rfl ?_; simp only [Act.put, List.setIfInBounds_toArray, List.set_cons_zero, List.set_cons_succ])
        ((try simp only [g3, Bool.not_true, Bool.not_false]); (iterate 2 (refine Rm.wpMix_plain rfl rfl ?_; go_big_quiet_step (fail); refine wpQuiet_nil ?_)); (iterate 1 (refine Rm.wpMix_plain rfl rfl ?_; go_big_quiet_step (fail); refine wpQuiet_nil ?_)); (refine Rm.wpMix_load1 (fun W9' h9 => show W9'.cell? _ = some (.int .i64 r.view) from bx_cell (Ext.box h9 F1.out) 3) rfl rfl rfl Tryz.underlying3 rfl ?_; simp only [Act.put, List.setIfInBounds_toArray, List.set_cons_zero, List.set_cons_succ]); (iterate 1 (refine Rm.wpMix_plain rfl rfl ?_; go_big_quiet_step (fail); refine wpQuiet_nil ?_)); (refine Rm.wpMix_load1 (fun W9' h9 => show W9'.cell? _ = some (.int .i64 r.of) from bx_cell (Ext.box h9 F1.out) 1) rfl rfl rfl Tryz.underlying3 rfl ?_; simp only [Act.put, List.setIfInBounds_toArray, List.set_cons_zero, List.set_cons_succ]))
        (refine Rm.wpMix_det rfl rfl rfl (enters Tryz.func68 (by kernel_rfl) rfl) (fun W9' h9 => c_sPrimaryOf r.view r.of W9' HIV.out.1 HIV.out.2) rfl ?_; simp only [Act.put, List.setIfInBounds_toArray, List.set_cons_zero, List.set_cons_succ])
        ((iterate 1 (refine Rm.wpMix_plain rfl rfl ?_; go_big_quiet_step (fail); refine wpQuiet_nil ?_)); (refine Rm.wpMix_load1 (fun W9' h9 => show W9'.cell? _ = some (.int .i64 m.frm) from bx_cell (Ext.box h9 F2.out) 1) rfl rfl rfl Tryz.underlying3 rfl ?_; simp only [Act.put, List.setIfInBounds_toArray, List.set_cons_zero, List.set_cons_succ]); (iterate 1 (refine Rm.wpMix_plain rfl rfl ?_; go_big_quiet_step (fail); refine wpQuiet_nil ?_)); (try simp only [g4, Bool.not_true, Bool.not_false]); (iterate 1 (refine Rm.wpMix_plain rfl rfl ?_; go_big_quiet_step (fail); refine wpQuiet_nil ?_)))
        refine Rm.wpMix_nil ?_
        rintro w6 hW
        have x : Ext w5 w6 := hW
        obtain ⟨F1, F2, F3, E3, FS, HF3, X3⟩ : Hid _ ∧ Hid _ ∧ Hid _ ∧ Hid _ ∧ Hid _ ∧ Hid _ ∧ Hid _ := ⟨Lib.hid (x.box F1.out), Lib.hid (x.box F2.out), Lib.hid (x.box F3.out), Lib.hid (x.box E3.out), Lib.hid (FS.out.keep x), Lib.hid (HF3.out.keep x), Lib.hid (Ext.trans X3.out x)⟩
        have hsz_w6 := x.size
        clear x hW
        (go_wp2_with (with_reducible refine wl_stop 66 ?_); refine stop_loadAgg (rp_log F1.out (ext_refl _)) rfl Tryz.underlying40 (by kernel_rfl) ?_; simp only [Act.put, List.setIfInBounds_toArray, List.set_cons_zero, List.set_cons_succ])
        go_wp2_with fail
        refine (c_sLogEnd a r.log HRs.out.1 HRs.out.2.1 HRs.out.2.2 _ (HR.out.l.keep X3.out) G.out.lok).mono ?_
        rintro e w7 ⟨rfl, x⟩
        obtain ⟨F1, F2, F3, E3, FS, HF3, X3⟩ : Hid _ ∧ Hid _ ∧ Hid _ ∧ Hid _ ∧ Hid _ ∧ Hid _ ∧ Hid _ := ⟨Lib.hid (x.box F1.out), Lib.hid (x.box F2.out), Lib.hid (x.box F3.out), Lib.hid (x.box E3.out), Lib.hid (FS.out.keep x), Lib.hid (HF3.out.keep x), Lib.hid (Ext.trans X3.out x)⟩
        have hsz_w7 := x.size
        clear x
        have d1 := bx_cell F1.out
        have d2 := bx_cell F2.out
        have z1 := bx_lt F1.out
        have z2 := bx_lt F2.out
        have HFo := Lib.hid (show (liveB r && followB r m) = true ∧ followO r m = [] by
         constructor <;> simp only [followO, followB, gl, g0, hv1, hm1, g3, hf1, Bool.true_and, Bool.false_and, Bool.and_true, Bool.and_false, Bool.true_or, Bool.false_or, Bool.or_true, Bool.or_false, Bool.not_true, Bool.not_false, Bool.false_eq_true, if_false, if_true, eq_self, List.append_nil, List.nil_append])
        clear hv1 hm1 hf1
        cases g5 : decide (r.log.fin + 1 < m.op)
        ·cases g6 : (m.op == r.log.fin + 1)
         ·have HQ := Lib.hid (show hearR2 r m 2 (prepR r m) = r.upTo m.commit ∧ hearO r m 2 (prepO r m) = [⟨m.frm, okM (r.upTo m.commit)⟩] by
          rw [HY.out.1, HY.out.2]
          have h1 : prepR r m = r.upTo m.commit := by unfold prepR; simp only [HFo.out.1, g5, g6, Bool.true_and, Bool.false_and, Bool.and_true, Bool.and_false, Bool.true_or, Bool.false_or, Bool.or_true, Bool.or_false, Bool.not_true, Bool.not_false, Bool.false_eq_true, if_false, if_true, eq_self, List.append_nil, List.nil_append]
          refine ⟨h1, ?_⟩
          unfold prepO
          simp only [h1, HFo.out.1, HFo.out.2, g5, g6, Bool.true_and, Bool.false_and, Bool.and_true, Bool.and_false, Bool.true_or, Bool.false_or, Bool.or_true, Bool.or_false, Bool.not_true, Bool.not_false, Bool.false_eq_true, if_false, if_true, eq_self, List.append_nil, List.nil_append])
          go_wp2
          clear d1 d2 z1 z2
          rw [HS3.out] at E3 HF3
          (refine Rm.wp_region_mix' (R := relE w7.heap.size) (fun _ _ _ => True) (fun _ _ _ _ _ hq => hq) 10 (by first | exact Nat.le_refl _ | omega | (simp; omega)) (by kernel_rfl) (by kernel_rfl) ?_; simp only [List.take_succ_cons, List.take_zero, List.drop_succ_cons, List.drop_zero])
          ((iterate 1 (refine Rm.wpMix_plain rfl rfl ?_; go_big_quiet_step (fail); refine wpQuiet_nil ?_)); (refine Rm.wpMix_load1 (fun W9' h9 => show W9'.cell? _ = some (.int .i64 r.commit) from bx_cell (Ext.box h9 F1.out) 5) rfl rfl rfl Tryz.underlying3 rfl ?_; simp only [Act.put, List.setIfInBounds_toArray, List.set_cons_zero, List.set_cons_succ]); (iterate 1 (refine Rm.wpMix_plain rfl rfl ?_; go_big_quiet_step (fail); refine wpQuiet_nil ?_)); (refine Rm.wpMix_load1 (fun W9' h9 => show W9'.cell? _ = some (.int .i64 m.commit) from bx_cell (Ext.box h9 F2.out) 4) rfl rfl rfl Tryz.underlying3 rfl ?_; simp only [Act.put, List.setIfInBounds_toArray, List.set_cons_zero, List.set_cons_succ]); (iterate 1 (refine Rm.wpMix_plain rfl rfl ?_; go_big_quiet_step (fail); refine wpQuiet_nil ?_)))
          (refine Rm.wpMix_loadAgg (fun W9' h9 => rp_log E3.out h9) rfl rfl rfl Tryz.underlying40 (by kernel_rfl) ?_; simp only [Act.put, List.setIfInBounds_toArray, List.set_cons_zero, List.set_cons_succ])
          (refine Rm.wpMix_det rfl rfl rfl (enters Tryz.func69 (by kernel_rfl) rfl) (fun W9' h9 => c_sLogEnd a1 (r).log HRs.out.1 HRs.out.2.1 HRs.out.2.2 W9' (HF3.out.l.rd.keep h9) G.out.lok) rfl ?_; simp only [Act.put, List.setIfInBounds_toArray, List.set_cons_zero, List.set_cons_succ])
          (refine Rm.wpMix_det rfl rfl rfl (enters Tryz.func71 (by kernel_rfl) rfl) (fun W9' h9 => c_l1Min m.commit (r).log.fin W9') rfl ?_; simp only [Act.put, List.setIfInBounds_toArray, List.set_cons_zero, List.set_cons_succ])
          (refine Rm.wpMix_det rfl rfl rfl (enters Tryz.func70 (by kernel_rfl) rfl) (fun W9' h9 => c_l1Max r.commit (min m.commit (r).log.fin) W9') rfl ?_; simp only [Act.put, List.setIfInBounds_toArray, List.set_cons_zero, List.set_cons_succ])
          ((iterate 1 (refine Rm.wpMix_plain rfl rfl ?_; go_big_quiet_step (fail); refine wpQuiet_nil ?_)))
          refine Rm.wpMix_nil ?_
          rintro v1 hW
          have x : Ext w7 v1 := hW
          obtain ⟨F1, F2, F3, E3, FS, HF3, X3⟩ : Hid _ ∧ Hid _ ∧ Hid _ ∧ Hid _ ∧ Hid _ ∧ Hid _ ∧ Hid _ := ⟨Lib.hid (x.box F1.out), Lib.hid (x.box F2.out), Lib.hid (x.box F3.out), Lib.hid (x.box E3.out), Lib.hid (FS.out.keep x), Lib.hid (HF3.out.keep x), Lib.hid (Ext.trans X3.out x)⟩
          have hsz_v1 := x.size
          clear x hW
          have b8 := bx_cell E3.out
          have f8_ := bx_frozen E3.out
          have l8 := bx_lt E3.out
          have P8 := box_put E3.out 5 (.int .i64 (max r.commit (min m.commit (r).log.fin)))
          simp only [List.setIfInBounds_toArray, List.set_cons_zero, List.set_cons_succ] at P8
          have c8 := chg_set (Chg.refl v1 [w1.heap.size + 1]) (p := ⟨w1.heap.size + 1, 5, none⟩) (by simp) (.int .i64 (max r.commit (min m.commit (r).log.fin)))
          have hf8 := HF3.out.boxed E3.out c8
          have HP8 := Lib.hid P8
          have HF8 := Lib.hid (show RpF _ (w.heap.size + 1 + 1 + 1) a1 A1 c1 qs ((r).upTo m.commit) from ⟨hf8.l, hf8.v, hf8.vl, hf8.e⟩)
          have F18 := Lib.hid (box_out' F1.out c8 (by simp; omega))
          have F28 := Lib.hid (box_out' F2.out c8 (by simp; omega))
          have F38 := Lib.hid (box_out' F3.out c8 (by simp; omega))
          have X8 := Lib.hid (ext_chg X3.out c8 (fun g hg => by rw [List.mem_singleton] at hg; omega))
          clear P8 c8 hf8 F3 E3 FS HF3 X3 F1 F2
          go_wp2
          refine code_go (F := fun W => W.heap[w1.heap.size + 1]? = some (.cells (Rp.cs a1 A1 qs.length c1 ((r).upTo m.commit)) 43) ∧ RpF W (w.heap.size + 1 + 1 + 1) a1 A1 c1 qs ((r).upTo m.commit) ∧ W.heap[w.heap.size]? = some (Rp.obj a A ps.length c r) ∧ W.heap[w.heap.size + 1]? = some (Mg.obj am m) ∧ W.heap[w.heap.size + 1 + 1]? = some Rp.zobj ∧ Ext w W ∧ w1.heap.size + 1 < W.heap.size) ⟨HP8.out, HF8.out, F18.out, F28.out, F38.out, X8.out, by simpa using l8⟩ ?_
          intro W8 ⟨e3, hf3, f1, f2, f3, x3, l9⟩
          have E3 := Lib.hid e3
          have HF3 := Lib.hid hf3
          have F1 := Lib.hid f1
          have F2 := Lib.hid f2
          have F3 := Lib.hid f3
          have X3 := Lib.hid x3
          clear e3 hf3 f1 f2 f3 x3 HP8 HF8 F18 F28 F38 X8 b8 f8_ l8
          have hq9 : w.heap.size + 1 + 1 < W8.heap.size := by omega
          have HW1 := Lib.hid (fun W' (h : (relS (w.heap.size + 1 + 1) (.cells (Rp.cs a1 A1 qs.length c1 ((r).upTo m.commit)) 43) W8.heap.size hq9).rel W8 W') => cells_mid (cs := Rp.cs a1 A1 qs.length c1 ((r).upTo m.commit)) (relS_box E3.out (by omega) W' h) [] [] rfl rfl)
          have HW2 := Lib.hid (fun W' (h : (relS (w.heap.size + 1 + 1) (.cells (Rp.cs a1 A1 qs.length c1 ((r).upTo m.commit)) 43) W8.heap.size hq9).rel W8 W') => cells_mid (cs := Lg.cs a1 (r).log) (relS_box E3.out (by omega) W' h) [.int .i64 r.me, .int .i64 r.of, .int .i64 r.mode, .int .i64 r.view, .int .i64 r.normal, .int .i64 (max r.commit (min m.commit (r).log.fin))] [.slice A1 qs.length c1, .int .i64 r.cell, .int .i64 r.nonce] rfl rfl)
          (refine Rm.wp_region_mix' (R := relS (w.heap.size + 1 + 1) (.cells (Rp.cs a1 A1 qs.length c1 ((r).upTo m.commit)) 43) W8.heap.size hq9) (stored (w.heap.size + 1 + 1) (.cells (Rp.cs a1 A1 qs.length c1 ((r).upTo m.commit)) 43)) (fun _ _ _ _ _ hq => hq) 14 (by first | exact Nat.le_refl _ | omega | (simp; omega)) (by kernel_rfl) (by kernel_rfl) ?_; simp only [List.take_succ_cons, List.take_zero, List.drop_succ_cons, List.drop_zero])
          (refine Rm.wpMix_loadAgg (HW1.out) rfl rfl rfl Tryz.underlying43 (by kernel_rfl) ?_; simp only [Act.put, List.setIfInBounds_toArray, List.set_cons_zero, List.set_cons_succ])
          ((iterate 1 (refine Rm.wpMix_plain rfl rfl ?_; go_big_quiet_step (fail); refine wpQuiet_nil ?_)); (refine Rm.wpMix_load1 (fun W9' h9 => show W9'.cell? _ = some (.int .i64 m.frm) from bx_cell (relS_box F2.out (by omega) W9' h9) 1) rfl rfl rfl Tryz.underlying3 rfl ?_; simp only [Act.put, List.setIfInBounds_toArray, List.set_cons_zero, List.set_cons_succ]); (iterate 1 (refine Rm.wpMix_plain rfl rfl ?_; go_big_quiet_step (fail); refine wpQuiet_nil ?_)); (refine Rm.wpMix_load1 (fun W9' h9 => show W9'.cell? _ = some (.int .i64 r.me) from bx_cell (relS_box F1.out (by omega) W9' h9) 0) rfl rfl rfl Tryz.underlying3 rfl ?_; simp only [Act.put, List.setIfInBounds_toArray, List.set_cons_zero, List.set_cons_succ]); (iterate 1 (refine Rm.wpMix_plain rfl rfl ?_; go_big_quiet_step (fail); refine wpQuiet_nil ?_)); (refine Rm.wpMix_load1 (fun W9' h9 => show W9'.cell? _ = some (.int .i64 r.view) from bx_cell (relS_box F1.out (by omega) W9' h9) 3) rfl rfl rfl Tryz.underlying3 rfl ?_; simp only [Act.put, List.setIfInBounds_toArray, List.set_cons_zero, List.set_cons_succ]); (iterate 1 (refine Rm.wpMix_plain rfl rfl ?_; go_big_quiet_step (fail); refine wpQuiet_nil ?_)))
          (refine Rm.wpMix_loadAgg (HW2.out) rfl rfl rfl Tryz.underlying40 (by kernel_rfl) ?_; simp only [Act.put, List.setIfInBounds_toArray, List.set_cons_zero, List.set_cons_succ])
          (refine Rm.wpMix_det rfl rfl rfl (enters Tryz.func69 (by kernel_rfl) rfl) (fun W9' h9 => (c_sLogEnd a1 (r).log HRs.out.1 HRs.out.2.1 HRs.out.2.2 W9' (HF3.out.chg h9.1 (fun k hk => by rw [List.mem_singleton] at hk; omega)).l.rd G.out.lok).mono fun e w' ⟨he, hx⟩ => ⟨he, Rm.Rel.ext _ _ _ hx⟩) rfl ?_; simp only [Act.put, List.setIfInBounds_toArray, List.set_cons_zero, List.set_cons_succ])
          (iterate 2 (refine Rm.wpMix_plain rfl rfl ?_; go_big_quiet_step (fail); refine wpQuiet_nil ?_))
          (refine Rm.wpMix_alloc (.cells (OtE.cells LAd.none ⟨m.frm, okM ((r).upTo m.commit)⟩) 100) rfl (fun W => by kernel_rfl) ?_; intro p1 hp1 hps1 hpi1; simp only [layVal, Act.put, List.setIfInBounds_toArray, List.set_cons_zero, List.set_cons_succ])
          refine wpMix_st F3.out rfl rfl rfl rfl rfl (by kernel_rfl) rfl (by simp [Value.oneCell']) ?_
          simp only [Act.put, List.setIfInBounds_toArray, List.set_cons_zero, List.set_cons_succ]
          refine Rm.wpMix_nil ?_
          rintro W9 ⟨⟨h9, hp9⟩, e9⟩
          have c9 := h9.1
          have HE9 := Lib.hid e9
          have HX9 := Lib.hid (ext_chg X3.out c9 (fun g hg => by rw [List.mem_singleton] at hg; omega))
          have HT9 := Lib.hid (RoT.of (B := 0) (HF3.out.chg c9 (fun k hk => by rw [List.mem_singleton] at hk; omega)) (OsK.one hp9 (Nat.zero_le _) (none_lgF _ _)) rfl)
          clear c9 h9 e9 hp9 hp1 hps1 hpi1
          go_wp2
          refine bodyPost_ret (results_box2 Tryz.results41 rfl rfl Tryz.underlying43 (by kernel_rfl) HE9.out) rfl ⟨_, rfl, ?_, HX9.out⟩
          rw [HQ.out.1, HQ.out.2]
          exact HT9.out
         ·(go_wp2_with (with_reducible refine wl_stop 87 ?_); refine stop_load (F1.out) rfl Tryz.underlying43 (by kernel_rfl) ?_; simp only [Act.put, List.setIfInBounds_toArray, List.set_cons_zero, List.set_cons_succ])
          go_wp2_with fail
          refine (c_l6Put a A ps.length c r (entM m) _ (HR.out.l.keep X3.out) HRk.out).mono ?_
          rintro e w8 ⟨⟨a8, rfl, f8⟩, x⟩
          obtain ⟨F1, F2, F3, E3, FS, HF3, X3⟩ : Hid _ ∧ Hid _ ∧ Hid _ ∧ Hid _ ∧ Hid _ ∧ Hid _ ∧ Hid _ := ⟨Lib.hid (x.box F1.out), Lib.hid (x.box F2.out), Lib.hid (x.box F3.out), Lib.hid (x.box E3.out), Lib.hid (FS.out.keep x), Lib.hid (HF3.out.keep x), Lib.hid (Ext.trans X3.out x)⟩
          have hsz_w8 := x.size
          have HL8 := Lib.hid (f8.less (show w.heap.size + 1 + 1 + 1 ≤ w7.heap.size by omega))
          clear x f8 d1 d2 z1 z2
          obtain ⟨L8, hL8⟩ : ∃ L8, putL (pLog r) (entM m) = L8 := ⟨_, rfl⟩
          rw [hL8] at HL8 ⊢
          have HL := Lib.hid hL8
          clear hL8
          cases q : putOk (pLog r) (entM m)
          ·have HQ := Lib.hid (show hearR2 r m 2 (prepR r m) = sameR r ∧ hearO r m 2 (prepO r m) = [] by
           rw [HY.out.1, HY.out.2, HS3.out]
           have h1 : prepR r m = r := by unfold prepR; simp only [HFo.out.1, g5, g6, q, Bool.true_and, Bool.false_and, Bool.and_true, Bool.and_false, Bool.true_or, Bool.false_or, Bool.or_true, Bool.or_false, Bool.not_true, Bool.not_false, Bool.false_eq_true, if_false, if_true, eq_self, List.append_nil, List.nil_append]
           refine ⟨h1, ?_⟩
           unfold prepO
           simp only [h1, HFo.out.1, HFo.out.2, g5, g6, q, Bool.true_and, Bool.false_and, Bool.and_true, Bool.and_false, Bool.true_or, Bool.false_or, Bool.or_true, Bool.or_false, Bool.not_true, Bool.not_false, Bool.false_eq_true, if_false, if_true, eq_self, List.append_nil, List.nil_append])
           have x := ext_alloc w8 (.cells (Lg.cs a8 L8) 40)
           obtain ⟨F1, F2, F3, E3, FS, HF3, X3⟩ : Hid _ ∧ Hid _ ∧ Hid _ ∧ Hid _ ∧ Hid _ ∧ Hid _ ∧ Hid _ := ⟨Lib.hid (x.box F1.out), Lib.hid (x.box F2.out), Lib.hid (x.box F3.out), Lib.hid (x.box E3.out), Lib.hid (FS.out.keep x), Lib.hid (HF3.out.keep x), Lib.hid (Ext.trans X3.out x)⟩
           have hsz_w9 := x.size
           have HB9 := Lib.hid (hNew (w := w8) (o := .cells (Lg.cs a8 L8) 40) rfl)
           have HL9 := Lib.hid (HL8.out.keep x)
           clear x HL8
           clear HB9 HL9
           (go_wp2_with (with_reducible refine wl_stop 100 ?_); refine stop_load (E3.out) rfl Tryz.underlying43 (by kernel_rfl) ?_; simp only [Act.put, List.setIfInBounds_toArray, List.set_cons_zero, List.set_cons_succ])
           (go_wp2_with (with_reducible refine wl_stopS 43 ?_); refine stop_store ((w.heap.size + 1 + 1)) (Rp.cs a1 A1 qs.length c1 (sameR r)) rfl rfl (F3.out) (by kernel_rfl) rfl (by simp [Value.oneCell']) ?_)
           intro W9 e9 k9
           have X9 := Lib.hid (chg_new X3.out k9 (by omega))
           have HE9 := Lib.hid e9
           have HT9 := Lib.hid (RoT.of (O := []) (HF3.out.boxed F3.out k9) (FS.out.boxed F3.out (by decide) (by decide) (by decide) (by decide) k9) rfl)
           clear e9 k9
           go_wp2
           refine bodyPost_ret (results_box2 Tryz.results41 rfl rfl Tryz.underlying43 (by kernel_rfl) HE9.out) rfl ⟨_, rfl, ?_, X9.out⟩
           rw [HQ.out.1, HQ.out.2]
           exact HT9.out
          ·have HPE := Lib.hid (putE_w q)
           have HQ := Lib.hid (show hearR2 r m 2 (prepR r m) = (r.wLog L8).upTo m.commit ∧ hearO r m 2 (prepO r m) = [⟨m.frm, okM ((r.wLog L8).upTo m.commit)⟩] by
            rw [HY.out.1, HY.out.2]
            have h1 : prepR r m = (r.wLog L8).upTo m.commit := by unfold prepR; simp only [HFo.out.1, g5, g6, q, Bool.true_and, Bool.false_and, Bool.and_true, Bool.and_false, Bool.true_or, Bool.false_or, Bool.or_true, Bool.or_false, Bool.not_true, Bool.not_false, Bool.false_eq_true, if_false, if_true, eq_self, List.append_nil, List.nil_append]; rw [HPE.out, HL.out]
            refine ⟨h1, ?_⟩
            unfold prepO
            simp only [h1, HFo.out.1, HFo.out.2, g5, g6, q, Bool.true_and, Bool.false_and, Bool.and_true, Bool.and_false, Bool.true_or, Bool.false_or, Bool.or_true, Bool.or_false, Bool.not_true, Bool.not_false, Bool.false_eq_true, if_false, if_true, eq_self, List.append_nil, List.nil_append])
           have HLo := Lib.hid (show logOk L8 = true by have := putE_ok (e := entM m) HRk.out; rw [HPE.out, HL.out] at this; exact this)
           have HLs := Lib.hid (lokS HLo.out)
           have x := ext_alloc w8 (.cells (Lg.cs a8 L8) 40)
           obtain ⟨F1, F2, F3, E3, FS, HF3, X3⟩ : Hid _ ∧ Hid _ ∧ Hid _ ∧ Hid _ ∧ Hid _ ∧ Hid _ ∧ Hid _ := ⟨Lib.hid (x.box F1.out), Lib.hid (x.box F2.out), Lib.hid (x.box F3.out), Lib.hid (x.box E3.out), Lib.hid (FS.out.keep x), Lib.hid (HF3.out.keep x), Lib.hid (Ext.trans X3.out x)⟩
           have hsz_w9 := x.size
           have HB9 := Lib.hid (hNew (w := w8) (o := .cells (Lg.cs a8 L8) 40) rfl)
           have HL9 := Lib.hid (HL8.out.keep x)
           clear x HL8
           rw [HS3.out] at E3 HF3
           have b3 := bx_cell E3.out
           have f3 := bx_frozen E3.out
           have l3 := bx_lt E3.out
           have b9 := bx_cell HB9.out
           have l9 := bx_lt HB9.out
           have hne9 : ¬ w1.heap.size + 1 = w8.heap.size := by omega
           have P8 := box_put (box_put (box_put (box_put E3.out 6 (.int .i64 L8.base)) 7 (.slice a8.cA L8.cells.length a8.cc)) 8 (.slice a8.sA L8.seats.length a8.sc)) 9 (.slice a8.eA L8.ents.length a8.ec)
           simp only [List.setIfInBounds_toArray, List.set_cons_zero, List.set_cons_succ] at P8
           have c8 := chg_set (chg_set (chg_set (chg_set (Chg.refl (w8.alloc (.cells (Lg.cs a8 L8) 40)) [w1.heap.size + 1]) (p := ⟨w1.heap.size + 1, 6, none⟩) (by simp) (.int .i64 L8.base)) (p := ⟨w1.heap.size + 1, 7, none⟩) (by simp) (.slice a8.cA L8.cells.length a8.cc)) (p := ⟨w1.heap.size + 1, 8, none⟩) (by simp) (.slice a8.sA L8.seats.length a8.sc)) (p := ⟨w1.heap.size + 1, 9, none⟩) (by simp) (.slice a8.eA L8.ents.length a8.ec)
           have hf8 := HF3.out.boxed E3.out c8
           have hl8 := HL9.out.boxed E3.out (by decide) (by decide) (by decide) c8
           have HP8 := Lib.hid P8
           have HF8 := Lib.hid (show RpF _ (w.heap.size + 1 + 1 + 1) a8 A1 c1 qs (r.wLog L8) from ⟨hl8, hf8.v, hf8.vl, hf8.e⟩)
           have F18 := Lib.hid (box_out' F1.out c8 (by simp; omega))
           have F28 := Lib.hid (box_out' F2.out c8 (by simp; omega))
           have F38 := Lib.hid (box_out' F3.out c8 (by simp; omega))
           have X8 := Lib.hid (ext_chg X3.out c8 (fun g hg => by rw [List.mem_singleton] at hg; omega))
           have hs8 := c8.size
           clear P8 c8 hf8 hl8 F3 E3 FS HF3 X3 F1 F2 HL9 HB9
           go_wp2
           refine code_go (F := fun W => W.heap[w1.heap.size + 1]? = some (.cells (Rp.cs a8 A1 qs.length c1 (r.wLog L8)) 43) ∧ RpF W (w.heap.size + 1 + 1 + 1) a8 A1 c1 qs (r.wLog L8) ∧ W.heap[w.heap.size]? = some (Rp.obj a A ps.length c r) ∧ W.heap[w.heap.size + 1]? = some (Mg.obj am m) ∧ W.heap[w.heap.size + 1 + 1]? = some Rp.zobj ∧ Ext w W ∧ w1.heap.size + 1 < W.heap.size) ⟨HP8.out, HF8.out, F18.out, F28.out, F38.out, X8.out, by simp at *; omega⟩ ?_
           intro V8 ⟨e3, hf3, f1, f2, f3_, x3, l9_⟩
           have E3 := Lib.hid e3
           have HF3 := Lib.hid hf3
           have F1 := Lib.hid f1
           have F2 := Lib.hid f2
           have F3 := Lib.hid f3_
           have X3 := Lib.hid x3
           have FS : Hid True := Lib.hid trivial
           clear e3 hf3 f1 f2 f3_ x3 HP8 HF8 F18 F28 F38 X8 b3 f3 l3 b9 l9 hs8 hne9
           (refine Rm.wp_region_mix' (R := relE V8.heap.size) (fun _ _ _ => True) (fun _ _ _ _ _ hq => hq) 10 (by first | exact Nat.le_refl _ | omega | (simp; omega)) (by kernel_rfl) (by kernel_rfl) ?_; simp only [List.take_succ_cons, List.take_zero, List.drop_succ_cons, List.drop_zero])
           ((iterate 1 (refine Rm.wpMix_plain rfl rfl ?_; go_big_quiet_step (fail); refine wpQuiet_nil ?_)); (refine Rm.wpMix_load1 (fun W9' h9 => show W9'.cell? _ = some (.int .i64 r.commit) from bx_cell (Ext.box h9 F1.out) 5) rfl rfl rfl Tryz.underlying3 rfl ?_; simp only [Act.put, List.setIfInBounds_toArray, List.set_cons_zero, List.set_cons_succ]); (iterate 1 (refine Rm.wpMix_plain rfl rfl ?_; go_big_quiet_step (fail); refine wpQuiet_nil ?_)); (refine Rm.wpMix_load1 (fun W9' h9 => show W9'.cell? _ = some (.int .i64 m.commit) from bx_cell (Ext.box h9 F2.out) 4) rfl rfl rfl Tryz.underlying3 rfl ?_; simp only [Act.put, List.setIfInBounds_toArray, List.set_cons_zero, List.set_cons_succ]); (iterate 1 (refine Rm.wpMix_plain rfl rfl ?_; go_big_quiet_step (fail); refine wpQuiet_nil ?_)))
           (refine Rm.wpMix_loadAgg (fun W9' h9 => rp_log E3.out h9) rfl rfl rfl Tryz.underlying40 (by kernel_rfl) ?_; simp only [Act.put, List.setIfInBounds_toArray, List.set_cons_zero, List.set_cons_succ])
           (refine Rm.wpMix_det rfl rfl rfl (enters Tryz.func69 (by kernel_rfl) rfl) (fun W9' h9 => c_sLogEnd a8 (r.wLog L8).log HLs.out.1 HLs.out.2.1 HLs.out.2.2 W9' (HF3.out.l.rd.keep h9) HLo.out) rfl ?_; simp only [Act.put, List.setIfInBounds_toArray, List.set_cons_zero, List.set_cons_succ])
           (refine Rm.wpMix_det rfl rfl rfl (enters Tryz.func71 (by kernel_rfl) rfl) (fun W9' h9 => c_l1Min m.commit (r.wLog L8).log.fin W9') rfl ?_; simp only [Act.put, List.setIfInBounds_toArray, List.set_cons_zero, List.set_cons_succ])
           (refine Rm.wpMix_det rfl rfl rfl (enters Tryz.func70 (by kernel_rfl) rfl) (fun W9' h9 => c_l1Max r.commit (min m.commit (r.wLog L8).log.fin) W9') rfl ?_; simp only [Act.put, List.setIfInBounds_toArray, List.set_cons_zero, List.set_cons_succ])
           ((iterate 1 (refine Rm.wpMix_plain rfl rfl ?_; go_big_quiet_step (fail); refine wpQuiet_nil ?_)))
           refine Rm.wpMix_nil ?_
           rintro v1 hW
           have x : Ext V8 v1 := hW
           obtain ⟨F1, F2, F3, E3, HF3, X3⟩ : Hid _ ∧ Hid _ ∧ Hid _ ∧ Hid _ ∧ Hid _ ∧ Hid _ := ⟨Lib.hid (x.box F1.out), Lib.hid (x.box F2.out), Lib.hid (x.box F3.out), Lib.hid (x.box E3.out), Lib.hid (HF3.out.keep x), Lib.hid (Ext.trans X3.out x)⟩
           have hsz_v1 := x.size
           clear x hW
           have b8 := bx_cell E3.out
           have f8_ := bx_frozen E3.out
           have l8 := bx_lt E3.out
           have P8 := box_put E3.out 5 (.int .i64 (max r.commit (min m.commit (r.wLog L8).log.fin)))
           simp only [List.setIfInBounds_toArray, List.set_cons_zero, List.set_cons_succ] at P8
           have c8 := chg_set (Chg.refl v1 [w1.heap.size + 1]) (p := ⟨w1.heap.size + 1, 5, none⟩) (by simp) (.int .i64 (max r.commit (min m.commit (r.wLog L8).log.fin)))
           have hf8 := HF3.out.boxed E3.out c8
           have HP8 := Lib.hid P8
           have HF8 := Lib.hid (show RpF _ (w.heap.size + 1 + 1 + 1) a8 A1 c1 qs ((r.wLog L8).upTo m.commit) from ⟨hf8.l, hf8.v, hf8.vl, hf8.e⟩)
           have F18 := Lib.hid (box_out' F1.out c8 (by simp; omega))
           have F28 := Lib.hid (box_out' F2.out c8 (by simp; omega))
           have F38 := Lib.hid (box_out' F3.out c8 (by simp; omega))
           have X8 := Lib.hid (ext_chg X3.out c8 (fun g hg => by rw [List.mem_singleton] at hg; omega))
           clear P8 c8 hf8 F3 E3 FS HF3 X3 F1 F2
           go_wp2
           refine code_go (F := fun W => W.heap[w1.heap.size + 1]? = some (.cells (Rp.cs a8 A1 qs.length c1 ((r.wLog L8).upTo m.commit)) 43) ∧ RpF W (w.heap.size + 1 + 1 + 1) a8 A1 c1 qs ((r.wLog L8).upTo m.commit) ∧ W.heap[w.heap.size]? = some (Rp.obj a A ps.length c r) ∧ W.heap[w.heap.size + 1]? = some (Mg.obj am m) ∧ W.heap[w.heap.size + 1 + 1]? = some Rp.zobj ∧ Ext w W ∧ w1.heap.size + 1 < W.heap.size) ⟨HP8.out, HF8.out, F18.out, F28.out, F38.out, X8.out, by simpa using l8⟩ ?_
           intro W8 ⟨e3, hf3, f1, f2, f3, x3, l9⟩
           have E3 := Lib.hid e3
           have HF3 := Lib.hid hf3
           have F1 := Lib.hid f1
           have F2 := Lib.hid f2
           have F3 := Lib.hid f3
           have X3 := Lib.hid x3
           clear e3 hf3 f1 f2 f3 x3 HP8 HF8 F18 F28 F38 X8 b8 f8_ l8
           have hq9 : w.heap.size + 1 + 1 < W8.heap.size := by omega
           have HW1 := Lib.hid (fun W' (h : (relS (w.heap.size + 1 + 1) (.cells (Rp.cs a8 A1 qs.length c1 ((r.wLog L8).upTo m.commit)) 43) W8.heap.size hq9).rel W8 W') => cells_mid (cs := Rp.cs a8 A1 qs.length c1 ((r.wLog L8).upTo m.commit)) (relS_box E3.out (by omega) W' h) [] [] rfl rfl)
           have HW2 := Lib.hid (fun W' (h : (relS (w.heap.size + 1 + 1) (.cells (Rp.cs a8 A1 qs.length c1 ((r.wLog L8).upTo m.commit)) 43) W8.heap.size hq9).rel W8 W') => cells_mid (cs := Lg.cs a8 (r.wLog L8).log) (relS_box E3.out (by omega) W' h) [.int .i64 r.me, .int .i64 r.of, .int .i64 r.mode, .int .i64 r.view, .int .i64 r.normal, .int .i64 (max r.commit (min m.commit (r.wLog L8).log.fin))] [.slice A1 qs.length c1, .int .i64 r.cell, .int .i64 r.nonce] rfl rfl)
           (refine Rm.wp_region_mix' (R := relS (w.heap.size + 1 + 1) (.cells (Rp.cs a8 A1 qs.length c1 ((r.wLog L8).upTo m.commit)) 43) W8.heap.size hq9) (stored (w.heap.size + 1 + 1) (.cells (Rp.cs a8 A1 qs.length c1 ((r.wLog L8).upTo m.commit)) 43)) (fun _ _ _ _ _ hq => hq) 14 (by first | exact Nat.le_refl _ | omega | (simp; omega)) (by kernel_rfl) (by kernel_rfl) ?_; simp only [List.take_succ_cons, List.take_zero, List.drop_succ_cons, List.drop_zero])
           (refine Rm.wpMix_loadAgg (HW1.out) rfl rfl rfl Tryz.underlying43 (by kernel_rfl) ?_; simp only [Act.put, List.setIfInBounds_toArray, List.set_cons_zero, List.set_cons_succ])
           ((iterate 1 (refine Rm.wpMix_plain rfl rfl ?_; go_big_quiet_step (fail); refine wpQuiet_nil ?_)); (refine Rm.wpMix_load1 (fun W9' h9 => show W9'.cell? _ = some (.int .i64 m.frm) from bx_cell (relS_box F2.out (by omega) W9' h9) 1) rfl rfl rfl Tryz.underlying3 rfl ?_; simp only [Act.put, List.setIfInBounds_toArray, List.set_cons_zero, List.set_cons_succ]); (iterate 1 (refine Rm.wpMix_plain rfl rfl ?_; go_big_quiet_step (fail); refine wpQuiet_nil ?_)); (refine Rm.wpMix_load1 (fun W9' h9 => show W9'.cell? _ = some (.int .i64 r.me) from bx_cell (relS_box F1.out (by omega) W9' h9) 0) rfl rfl rfl Tryz.underlying3 rfl ?_; simp only [Act.put, List.setIfInBounds_toArray, List.set_cons_zero, List.set_cons_succ]); (iterate 1 (refine Rm.wpMix_plain rfl rfl ?_; go_big_quiet_step (fail); refine wpQuiet_nil ?_)); (refine Rm.wpMix_load1 (fun W9' h9 => show W9'.cell? _ = some (.int .i64 r.view) from bx_cell (relS_box F1.out (by omega) W9' h9) 3) rfl rfl rfl Tryz.underlying3 rfl ?_; simp only [Act.put, List.setIfInBounds_toArray, List.set_cons_zero, List.set_cons_succ]); (iterate 1 (refine Rm.wpMix_plain rfl rfl ?_; go_big_quiet_step (fail); refine wpQuiet_nil ?_)))
           (refine Rm.wpMix_loadAgg (HW2.out) rfl rfl rfl Tryz.underlying40 (by kernel_rfl) ?_; simp only [Act.put, List.setIfInBounds_toArray, List.set_cons_zero, List.set_cons_succ])
           (refine Rm.wpMix_det rfl rfl rfl (enters Tryz.func69 (by kernel_rfl) rfl) (fun W9' h9 => (c_sLogEnd a8 (r.wLog L8).log HLs.out.1 HLs.out.2.1 HLs.out.2.2 W9' (HF3.out.chg h9.1 (fun k hk => by rw [List.mem_singleton] at hk; omega)).l.rd HLo.out).mono fun e w' ⟨he, hx⟩ => ⟨he, Rm.Rel.ext _ _ _ hx⟩) rfl ?_; simp only [Act.put, List.setIfInBounds_toArray, List.set_cons_zero, List.set_cons_succ])
           (iterate 2 (refine Rm.wpMix_plain rfl rfl ?_; go_big_quiet_step (fail); refine wpQuiet_nil ?_))
           (refine Rm.wpMix_alloc (.cells (OtE.cells LAd.none ⟨m.frm, okM ((r.wLog L8).upTo m.commit)⟩) 100) rfl (fun W => by kernel_rfl) ?_; intro p1 hp1 hps1 hpi1; simp only [layVal, Act.put, List.setIfInBounds_toArray, List.set_cons_zero, List.set_cons_succ])
           refine wpMix_st F3.out rfl rfl rfl rfl rfl (by kernel_rfl) rfl (by simp [Value.oneCell']) ?_
           simp only [Act.put, List.setIfInBounds_toArray, List.set_cons_zero, List.set_cons_succ]
           refine Rm.wpMix_nil ?_
           rintro W9 ⟨⟨h9, hp9⟩, e9⟩
           have c9 := h9.1
           have HE9 := Lib.hid e9
           have HX9 := Lib.hid (ext_chg X3.out c9 (fun g hg => by rw [List.mem_singleton] at hg; omega))
           have HT9 := Lib.hid (RoT.of (B := 0) (HF3.out.chg c9 (fun k hk => by rw [List.mem_singleton] at hk; omega)) (OsK.one hp9 (Nat.zero_le _) (none_lgF _ _)) rfl)
           clear c9 h9 e9 hp9 hp1 hps1 hpi1
           go_wp2
           refine bodyPost_ret (results_box2 Tryz.results41 rfl rfl Tryz.underlying43 (by kernel_rfl) HE9.out) rfl ⟨_, rfl, ?_, HX9.out⟩
           rw [HQ.out.1, HQ.out.2]
           exact HT9.out
        ·have HQ := Lib.hid (show hearR2 r m 2 (prepR r m) = sameR r ∧ hearO r m 2 (prepO r m) = [⟨m.frm, askM2 r r.view r.log.fin⟩] by
         rw [HY.out.1, HY.out.2, HS3.out]
         have h1 : prepR r m = r := by unfold prepR; simp only [HFo.out.1, g5, Bool.true_and, Bool.false_and, Bool.and_true, Bool.and_false, Bool.true_or, Bool.false_or, Bool.or_true, Bool.or_false, Bool.not_true, Bool.not_false, Bool.false_eq_true, if_false, if_true, eq_self, List.append_nil, List.nil_append]
         refine ⟨h1, ?_⟩
         unfold prepO
         simp only [h1, HFo.out.1, HFo.out.2, g5, Bool.true_and, Bool.false_and, Bool.and_true, Bool.and_false, Bool.true_or, Bool.false_or, Bool.or_true, Bool.or_false, Bool.not_true, Bool.not_false, Bool.false_eq_true, if_false, if_true, eq_self, List.append_nil, List.nil_append])
         go_wp2
         clear d1 d2 z1 z2
         have hq9 : w.heap.size + 1 + 1 < w7.heap.size := by omega
         have HW1 := Lib.hid (fun W' (h : (relS (w.heap.size + 1 + 1) (.cells (Rp.cs a1 A1 qs.length c1 (sameR r)) 43) w7.heap.size hq9).rel w7 W') => cells_mid (cs := Rp.cs a1 A1 qs.length c1 (sameR r)) (relS_box E3.out (by omega) W' h) [] [] rfl rfl)
         have HW2 := Lib.hid (fun W' (h : (relS (w.heap.size + 1 + 1) (.cells (Rp.cs a1 A1 qs.length c1 (sameR r)) 43) w7.heap.size hq9).rel w7 W') => cells_mid (cs := Rp.cs a A ps.length c r) (relS_box F1.out (by omega) W' h) [] [] rfl rfl)
         (refine Rm.wp_region_mix' (R := relS (w.heap.size + 1 + 1) (.cells (Rp.cs a1 A1 qs.length c1 (sameR r)) 43) w7.heap.size hq9) (stored (w.heap.size + 1 + 1) (.cells (Rp.cs a1 A1 qs.length c1 (sameR r)) 43)) (fun _ _ _ _ _ hq => hq) 9 (by first | exact Nat.le_refl _ | omega | (simp; omega)) (by kernel_rfl) (by kernel_rfl) ?_; simp only [List.take_succ_cons, List.take_zero, List.drop_succ_cons, List.drop_zero])
         (refine Rm.wpMix_loadAgg (HW1.out) rfl rfl rfl Tryz.underlying43 (by kernel_rfl) ?_; simp only [Act.put, List.setIfInBounds_toArray, List.set_cons_zero, List.set_cons_succ])
         (refine Rm.wpMix_loadAgg (HW2.out) rfl rfl rfl Tryz.underlying43 (by kernel_rfl) ?_; simp only [Act.put, List.setIfInBounds_toArray, List.set_cons_zero, List.set_cons_succ])
         ((iterate 1 (refine Rm.wpMix_plain rfl rfl ?_; go_big_quiet_step (fail); refine wpQuiet_nil ?_)); (refine Rm.wpMix_load1 (fun W9' h9 => show W9'.cell? _ = some (.int .i64 r.view) from bx_cell (relS_box F1.out (by omega) W9' h9) 3) rfl rfl rfl Tryz.underlying3 rfl ?_; simp only [Act.put, List.setIfInBounds_toArray, List.set_cons_zero, List.set_cons_succ]); (iterate 2 (refine Rm.wpMix_plain rfl rfl ?_; go_big_quiet_step (fail); refine wpQuiet_nil ?_)); (refine Rm.wpMix_load1 (fun W9' h9 => show W9'.cell? _ = some (.int .i64 m.frm) from bx_cell (relS_box F2.out (by omega) W9' h9) 1) rfl rfl rfl Tryz.underlying3 rfl ?_; simp only [Act.put, List.setIfInBounds_toArray, List.set_cons_zero, List.set_cons_succ]))
         refine Rm.wpMix_call (AskV w7.heap.size ⟨m.frm, askM2 r r.view r.log.fin⟩) rfl rfl rfl (enters Tryz.func66 (by kernel_rfl) rfl) (AskV.mono _ _ _ _ _) (fun W' hW' => (c_l6Ask a A _ c r r.view r.log.fin m.frm W').mono fun e w' h => ask_v h hW'.1.size) rfl (fun v6 hv6 => ?_)
         obtain ⟨_, _, p6, rfl, _⟩ := hv6
         simp only [Act.put, List.setIfInBounds_toArray, List.set_cons_zero, List.set_cons_succ]
         refine wpMix_st F3.out rfl rfl rfl rfl rfl (by kernel_rfl) rfl (by simp [Value.oneCell']) ?_
         simp only [Act.put, List.setIfInBounds_toArray, List.set_cons_zero, List.set_cons_succ]
         refine Rm.wpMix_nil ?_
         rintro W9 ⟨⟨h9, hv9⟩, e9⟩
         have c9 := h9.1
         have HE9 := Lib.hid e9
         have hk9 := hv9.inv
         have HX9 := Lib.hid (ext_chg X3.out c9 (fun g hg => by rw [List.mem_singleton] at hg; omega))
         have HT9 := Lib.hid (RoT.of (HF3.out.chg c9 (fun k hk => by rw [List.mem_singleton] at hk; omega)) hk9 rfl)
         clear c9 h9 e9 hv9 hk9
         go_wp2
         refine bodyPost_ret (results_box2 Tryz.results41 rfl rfl Tryz.underlying43 (by kernel_rfl) HE9.out) rfl ⟨_, rfl, ?_, HX9.out⟩
         rw [HQ.out.1, HQ.out.2]
         exact HT9.out
       ·have hg : (m.frm == r.view % r.of) = false := by simp at g4 ⊢; exact fun h => g4 h.symm
        have HQ := Lib.hid (show hearR2 r m 2 (prepR r m) = sameR r ∧ hearO r m 2 (prepO r m) = [] by
         rw [HY.out.1, HY.out.2, HS3.out]
         constructor <;> simp only [prepR, prepO, followO, followB, gl, g0, hg, Bool.true_and, Bool.false_and, Bool.and_true, Bool.and_false, Bool.true_or, Bool.false_or, Bool.or_true, Bool.or_false, Bool.not_true, Bool.not_false, Bool.false_eq_true, if_false, if_true, eq_self, List.append_nil, List.nil_append])
        go_wp2
        clear d1 d2 z1 z2
        (refine Rm.wp_region_mix' (R := relE w5.heap.size) (fun _ _ _ => True) (fun _ _ _ _ _ hq => hq) 24 (by first | exact Nat.le_refl _ | omega | (simp; omega)) (by kernel_rfl) (by kernel_rfl) ?_; simp only [List.take_succ_cons, List.take_zero, List.drop_succ_cons, List.drop_zero])
        ((iterate 1 (refine Rm.wpMix_plain rfl rfl ?_; go_big_quiet_step (fail); refine wpQuiet_nil ?_)); (refine Rm.wpMix_load1 (fun W9' h9 => show W9'.cell? _ = some (.int .i64 m.view) from bx_cell (Ext.box h9 F2.out) 2) rfl rfl rfl Tryz.underlying3 rfl ?_; simp only [Act.put, List.setIfInBounds_toArray, List.set_cons_zero, List.set_cons_succ]); (iterate 1 (refine Rm.wpMix_plain rfl rfl ?_; go_big_quiet_step (fail); refine wpQuiet_nil ?_)); (refine Rm.wpMix_load1 (fun W9' h9 => show W9'.cell? _ = some (.int .i64 r.view) from bx_cell (Ext.box h9 F1.out) 3) rfl rfl rfl Tryz.underlying3 rfl ?_; simp only [Act.put, List.setIfInBounds_toArray, List.set_cons_zero, List.set_cons_succ]); (iterate 1 (refine Rm.wpMix_plain rfl rfl ?_; go_big_quiet_step (fail); refine wpQuiet_nil ?_)); (try simp only [g1, Bool.not_true, Bool.not_false]); (iterate 1 (refine Rm.wpMix_plain rfl rfl ?_; go_big_quiet_step (fail); refine wpQuiet_nil ?_)); (iterate 1 (refine Rm.wpMix_plain rfl rfl ?_; go_big_quiet_step (fail); refine wpQuiet_nil ?_)); (refine Rm.wpMix_load1 (fun W9' h9 => show W9'.cell? _ = some (.int .i64 r.mode) from bx_cell (Ext.box h9 F1.out) 2) rfl rfl rfl Tryz.underlying3 rfl ?_; simp only [Act.put, List.setIfInBounds_toArray, List.set_cons_zero, List.set_cons_succ]); (iterate 1 (refine Rm.wpMix_plain rfl rfl ?_; go_big_quiet_step (fail); refine wpQuiet_nil ?_)); (try simp only [g2, Bool.not_true, Bool.not_false]); (iterate 2 (refine Rm.wpMix_plain rfl rfl ?_; go_big_quiet_step (fail); refine wpQuiet_nil ?_)))
        (refine Rm.wpMix_loadAgg (fun W9' h9 => rp_whole F1.out h9) rfl rfl rfl Tryz.underlying43 (by kernel_rfl) ?_; simp only [Act.put, List.setIfInBounds_toArray, List.set_cons_zero, List.set_cons_succ])
        (refine Rm.wpMix_det rfl rfl rfl (enters Tryz.func67 (by kernel_rfl) rfl) (fun W9' h9 => c_l6Leads a A _ c r W9' HIV.out.1 HIV.out.2) rfl ?_; simp only [Act.put, List.setIfInBounds_toArray, List.set_cons_zero, List.set_cons_succ])
        ((try simp only [g3, Bool.not_true, Bool.not_false]); (iterate 2 (refine Rm.wpMix_plain rfl rfl ?_; go_big_quiet_step (fail); refine wpQuiet_nil ?_)); (iterate 1 (refine Rm.wpMix_plain rfl rfl ?_; go_big_quiet_step (fail); refine wpQuiet_nil ?_)); (refine Rm.wpMix_load1 (fun W9' h9 => show W9'.cell? _ = some (.int .i64 r.view) from bx_cell (Ext.box h9 F1.out) 3) rfl rfl rfl Tryz.underlying3 rfl ?_; simp only [Act.put, List.setIfInBounds_toArray, List.set_cons_zero, List.set_cons_succ]); (iterate 1 (refine Rm.wpMix_plain rfl rfl ?_; go_big_quiet_step (fail); refine wpQuiet_nil ?_)); (refine Rm.wpMix_load1 (fun W9' h9 => show W9'.cell? _ = some (.int .i64 r.of) from bx_cell (Ext.box h9 F1.out) 1) rfl rfl rfl Tryz.underlying3 rfl ?_; simp only [Act.put, List.setIfInBounds_toArray, List.set_cons_zero, List.set_cons_succ]))
        (refine Rm.wpMix_det rfl rfl rfl (enters Tryz.func68 (by kernel_rfl) rfl) (fun W9' h9 => c_sPrimaryOf r.view r.of W9' HIV.out.1 HIV.out.2) rfl ?_; simp only [Act.put, List.setIfInBounds_toArray, List.set_cons_zero, List.set_cons_succ])
        ((iterate 1 (refine Rm.wpMix_plain rfl rfl ?_; go_big_quiet_step (fail); refine wpQuiet_nil ?_)); (refine Rm.wpMix_load1 (fun W9' h9 => show W9'.cell? _ = some (.int .i64 m.frm) from bx_cell (Ext.box h9 F2.out) 1) rfl rfl rfl Tryz.underlying3 rfl ?_; simp only [Act.put, List.setIfInBounds_toArray, List.set_cons_zero, List.set_cons_succ]); (iterate 1 (refine Rm.wpMix_plain rfl rfl ?_; go_big_quiet_step (fail); refine wpQuiet_nil ?_)); (try simp only [g4, Bool.not_true, Bool.not_false]); (iterate 1 (refine Rm.wpMix_plain rfl rfl ?_; go_big_quiet_step (fail); refine wpQuiet_nil ?_)))
        refine Rm.wpMix_nil ?_
        rintro w6 hW
        have x : Ext w5 w6 := hW
        obtain ⟨F1, F2, F3, E3, FS, HF3, X3⟩ : Hid _ ∧ Hid _ ∧ Hid _ ∧ Hid _ ∧ Hid _ ∧ Hid _ ∧ Hid _ := ⟨Lib.hid (x.box F1.out), Lib.hid (x.box F2.out), Lib.hid (x.box F3.out), Lib.hid (x.box E3.out), Lib.hid (FS.out.keep x), Lib.hid (HF3.out.keep x), Lib.hid (Ext.trans X3.out x)⟩
        have hsz_w6 := x.size
        clear x hW
        (go_wp2_with (with_reducible refine wl_stop 63 ?_); refine stop_load (E3.out) rfl Tryz.underlying43 (by kernel_rfl) ?_; simp only [Act.put, List.setIfInBounds_toArray, List.set_cons_zero, List.set_cons_succ])
        (go_wp2_with (with_reducible refine wl_stopS 43 ?_); refine stop_store ((w.heap.size + 1 + 1)) (Rp.cs a1 A1 qs.length c1 (sameR r)) rfl rfl (F3.out) (by kernel_rfl) rfl (by simp [Value.oneCell']) ?_)
        intro W9 e9 k9
        have X9 := Lib.hid (chg_new X3.out k9 (by omega))
        have HE9 := Lib.hid e9
        have HT9 := Lib.hid (RoT.of (O := []) (HF3.out.boxed F3.out k9) (FS.out.boxed F3.out (by decide) (by decide) (by decide) (by decide) k9) rfl)
        clear e9 k9
        go_wp2
        refine bodyPost_ret (results_box2 Tryz.results41 rfl rfl Tryz.underlying43 (by kernel_rfl) HE9.out) rfl ⟨_, rfl, ?_, X9.out⟩
        rw [HQ.out.1, HQ.out.2]
        exact HT9.out
      ·have HQ := Lib.hid (show hearR2 r m 2 (prepR r m) = sameR r ∧ hearO r m 2 (prepO r m) = [] by
       rw [HY.out.1, HY.out.2, HS3.out]
       constructor <;> simp only [prepR, prepO, followO, followB, gl, g0, g3, Bool.true_and, Bool.false_and, Bool.and_true, Bool.and_false, Bool.true_or, Bool.false_or, Bool.or_true, Bool.or_false, Bool.not_true, Bool.not_false, Bool.false_eq_true, if_false, if_true, eq_self, List.append_nil, List.nil_append])
       go_wp2
       clear d1 d2 z1 z2
       (refine Rm.wp_region_mix' (R := relE w5.heap.size) (fun _ _ _ => True) (fun _ _ _ _ _ hq => hq) 24 (by first | exact Nat.le_refl _ | omega | (simp; omega)) (by kernel_rfl) (by kernel_rfl) ?_; simp only [List.take_succ_cons, List.take_zero, List.drop_succ_cons, List.drop_zero])
       ((iterate 1 (refine Rm.wpMix_plain rfl rfl ?_; go_big_quiet_step (fail); refine wpQuiet_nil ?_)); (refine Rm.wpMix_load1 (fun W9' h9 => show W9'.cell? _ = some (.int .i64 m.view) from bx_cell (Ext.box h9 F2.out) 2) rfl rfl rfl Tryz.underlying3 rfl ?_; simp only [Act.put, List.setIfInBounds_toArray, List.set_cons_zero, List.set_cons_succ]); (iterate 1 (refine Rm.wpMix_plain rfl rfl ?_; go_big_quiet_step (fail); refine wpQuiet_nil ?_)); (refine Rm.wpMix_load1 (fun W9' h9 => show W9'.cell? _ = some (.int .i64 r.view) from bx_cell (Ext.box h9 F1.out) 3) rfl rfl rfl Tryz.underlying3 rfl ?_; simp only [Act.put, List.setIfInBounds_toArray, List.set_cons_zero, List.set_cons_succ]); (iterate 1 (refine Rm.wpMix_plain rfl rfl ?_; go_big_quiet_step (fail); refine wpQuiet_nil ?_)); (try simp only [g1, Bool.not_true, Bool.not_false]); (iterate 1 (refine Rm.wpMix_plain rfl rfl ?_; go_big_quiet_step (fail); refine wpQuiet_nil ?_)); (iterate 1 (refine Rm.wpMix_plain rfl rfl ?_; go_big_quiet_step (fail); refine wpQuiet_nil ?_)); (refine Rm.wpMix_load1 (fun W9' h9 => show W9'.cell? _ = some (.int .i64 r.mode) from bx_cell (Ext.box h9 F1.out) 2) rfl rfl rfl Tryz.underlying3 rfl ?_; simp only [Act.put, List.setIfInBounds_toArray, List.set_cons_zero, List.set_cons_succ]); (iterate 1 (refine Rm.wpMix_plain rfl rfl ?_; go_big_quiet_step (fail); refine wpQuiet_nil ?_)); (try simp only [g2, Bool.not_true, Bool.not_false]); (iterate 2 (refine Rm.wpMix_plain rfl rfl ?_; go_big_quiet_step (fail); refine wpQuiet_nil ?_)))
       (refine Rm.wpMix_loadAgg (fun W9' h9 => rp_whole F1.out h9) rfl rfl rfl Tryz.underlying43 (by kernel_rfl) ?_; simp only [Act.put, List.setIfInBounds_toArray, List.set_cons_zero, List.set_cons_succ])
       (refine Rm.wpMix_det rfl rfl rfl (enters Tryz.func67 (by kernel_rfl) rfl) (fun W9' h9 => c_l6Leads a A _ c r W9' HIV.out.1 HIV.out.2) rfl ?_; simp only [Act.put, List.setIfInBounds_toArray, List.set_cons_zero, List.set_cons_succ])
       ((try simp only [g3, Bool.not_true, Bool.not_false]); (iterate 2 (refine Rm.wpMix_plain rfl rfl ?_; go_big_quiet_step (fail); refine wpQuiet_nil ?_)); (iterate 8 (refine Rm.wpMix_skip rfl rfl ?_; simp only [Act.put, List.setIfInBounds_toArray, List.set_cons_zero, List.set_cons_succ])); (iterate 1 (refine Rm.wpMix_plain rfl rfl ?_; go_big_quiet_step (fail); refine wpQuiet_nil ?_)))
       refine Rm.wpMix_nil ?_
       rintro w6 hW
       have x : Ext w5 w6 := hW
       obtain ⟨F1, F2, F3, E3, FS, HF3, X3⟩ : Hid _ ∧ Hid _ ∧ Hid _ ∧ Hid _ ∧ Hid _ ∧ Hid _ ∧ Hid _ := ⟨Lib.hid (x.box F1.out), Lib.hid (x.box F2.out), Lib.hid (x.box F3.out), Lib.hid (x.box E3.out), Lib.hid (FS.out.keep x), Lib.hid (HF3.out.keep x), Lib.hid (Ext.trans X3.out x)⟩
       have hsz_w6 := x.size
       clear x hW
       (go_wp2_with (with_reducible refine wl_stop 63 ?_); refine stop_load (E3.out) rfl Tryz.underlying43 (by kernel_rfl) ?_; simp only [Act.put, List.setIfInBounds_toArray, List.set_cons_zero, List.set_cons_succ])
       (go_wp2_with (with_reducible refine wl_stopS 43 ?_); refine stop_store ((w.heap.size + 1 + 1)) (Rp.cs a1 A1 qs.length c1 (sameR r)) rfl rfl (F3.out) (by kernel_rfl) rfl (by simp [Value.oneCell']) ?_)
       intro W9 e9 k9
       have X9 := Lib.hid (chg_new X3.out k9 (by omega))
       have HE9 := Lib.hid e9
       have HT9 := Lib.hid (RoT.of (O := []) (HF3.out.boxed F3.out k9) (FS.out.boxed F3.out (by decide) (by decide) (by decide) (by decide) k9) rfl)
       clear e9 k9
       go_wp2
       refine bodyPost_ret (results_box2 Tryz.results41 rfl rfl Tryz.underlying43 (by kernel_rfl) HE9.out) rfl ⟨_, rfl, ?_, X9.out⟩
       rw [HQ.out.1, HQ.out.2]
       exact HT9.out
     ·have hg : (r.mode == 1) = false := by simpa using g2
      have HQ := Lib.hid (show hearR2 r m 2 (prepR r m) = sameR r ∧ hearO r m 2 (prepO r m) = [] by
       rw [HY.out.1, HY.out.2, HS3.out]
       constructor <;> simp only [prepR, prepO, followO, followB, gl, g0, hg, Bool.true_and, Bool.false_and, Bool.and_true, Bool.and_false, Bool.true_or, Bool.false_or, Bool.or_true, Bool.or_false, Bool.not_true, Bool.not_false, Bool.false_eq_true, if_false, if_true, eq_self, List.append_nil, List.nil_append])
      go_wp2
      clear d1 d2 z1 z2
      (refine Rm.wp_region_mix' (R := relE w5.heap.size) (fun _ _ _ => True) (fun _ _ _ _ _ hq => hq) 24 (by first | exact Nat.le_refl _ | omega | (simp; omega)) (by kernel_rfl) (by kernel_rfl) ?_; simp only [List.take_succ_cons, List.take_zero, List.drop_succ_cons, List.drop_zero])
      ((iterate 1 (refine Rm.wpMix_plain rfl rfl ?_; go_big_quiet_step (fail); refine wpQuiet_nil ?_)); (refine Rm.wpMix_load1 (fun W9' h9 => show W9'.cell? _ = some (.int .i64 m.view) from bx_cell (Ext.box h9 F2.out) 2) rfl rfl rfl Tryz.underlying3 rfl ?_; simp only [Act.put, List.setIfInBounds_toArray, List.set_cons_zero, List.set_cons_succ]); (iterate 1 (refine Rm.wpMix_plain rfl rfl ?_; go_big_quiet_step (fail); refine wpQuiet_nil ?_)); (refine Rm.wpMix_load1 (fun W9' h9 => show W9'.cell? _ = some (.int .i64 r.view) from bx_cell (Ext.box h9 F1.out) 3) rfl rfl rfl Tryz.underlying3 rfl ?_; simp only [Act.put, List.setIfInBounds_toArray, List.set_cons_zero, List.set_cons_succ]); (iterate 1 (refine Rm.wpMix_plain rfl rfl ?_; go_big_quiet_step (fail); refine wpQuiet_nil ?_)); (try simp only [g1, Bool.not_true, Bool.not_false]); (iterate 1 (refine Rm.wpMix_plain rfl rfl ?_; go_big_quiet_step (fail); refine wpQuiet_nil ?_)); (iterate 1 (refine Rm.wpMix_plain rfl rfl ?_; go_big_quiet_step (fail); refine wpQuiet_nil ?_)); (refine Rm.wpMix_load1 (fun W9' h9 => show W9'.cell? _ = some (.int .i64 r.mode) from bx_cell (Ext.box h9 F1.out) 2) rfl rfl rfl Tryz.underlying3 rfl ?_; simp only [Act.put, List.setIfInBounds_toArray, List.set_cons_zero, List.set_cons_succ]); (iterate 1 (refine Rm.wpMix_plain rfl rfl ?_; go_big_quiet_step (fail); refine wpQuiet_nil ?_)); (try simp only [g2, Bool.not_true, Bool.not_false]); (iterate 2 (refine Rm.wpMix_plain rfl rfl ?_; go_big_quiet_step (fail); refine wpQuiet_nil ?_)); (iterate 2 (refine Rm.wpMix_skip rfl rfl ?_; simp only [Act.put, List.setIfInBounds_toArray, List.set_cons_zero, List.set_cons_succ])); (iterate 2 (refine Rm.wpMix_plain rfl rfl ?_; go_big_quiet_step (fail); refine wpQuiet_nil ?_)); (iterate 8 (refine Rm.wpMix_skip rfl rfl ?_; simp only [Act.put, List.setIfInBounds_toArray, List.set_cons_zero, List.set_cons_succ])); (iterate 1 (refine Rm.wpMix_plain rfl rfl ?_; go_big_quiet_step (fail); refine wpQuiet_nil ?_)))
      refine Rm.wpMix_nil ?_
      rintro w6 hW
      have x : Ext w5 w6 := hW
      obtain ⟨F1, F2, F3, E3, FS, HF3, X3⟩ : Hid _ ∧ Hid _ ∧ Hid _ ∧ Hid _ ∧ Hid _ ∧ Hid _ ∧ Hid _ := ⟨Lib.hid (x.box F1.out), Lib.hid (x.box F2.out), Lib.hid (x.box F3.out), Lib.hid (x.box E3.out), Lib.hid (FS.out.keep x), Lib.hid (HF3.out.keep x), Lib.hid (Ext.trans X3.out x)⟩
      have hsz_w6 := x.size
      clear x hW
      (go_wp2_with (with_reducible refine wl_stop 63 ?_); refine stop_load (E3.out) rfl Tryz.underlying43 (by kernel_rfl) ?_; simp only [Act.put, List.setIfInBounds_toArray, List.set_cons_zero, List.set_cons_succ])
      (go_wp2_with (with_reducible refine wl_stopS 43 ?_); refine stop_store ((w.heap.size + 1 + 1)) (Rp.cs a1 A1 qs.length c1 (sameR r)) rfl rfl (F3.out) (by kernel_rfl) rfl (by simp [Value.oneCell']) ?_)
      intro W9 e9 k9
      have X9 := Lib.hid (chg_new X3.out k9 (by omega))
      have HE9 := Lib.hid e9
      have HT9 := Lib.hid (RoT.of (O := []) (HF3.out.boxed F3.out k9) (FS.out.boxed F3.out (by decide) (by decide) (by decide) (by decide) k9) rfl)
      clear e9 k9
      go_wp2
      refine bodyPost_ret (results_box2 Tryz.results41 rfl rfl Tryz.underlying43 (by kernel_rfl) HE9.out) rfl ⟨_, rfl, ?_, X9.out⟩
      rw [HQ.out.1, HQ.out.2]
      exact HT9.out
    ·have hg : (m.view == r.view) = false := by simpa using g1
     have HQ := Lib.hid (show hearR2 r m 2 (prepR r m) = sameR r ∧ hearO r m 2 (prepO r m) = [] by
      rw [HY.out.1, HY.out.2, HS3.out]
      constructor <;> simp only [prepR, prepO, followO, followB, gl, g0, hg, Bool.true_and, Bool.false_and, Bool.and_true, Bool.and_false, Bool.true_or, Bool.false_or, Bool.or_true, Bool.or_false, Bool.not_true, Bool.not_false, Bool.false_eq_true, if_false, if_true, eq_self, List.append_nil, List.nil_append])
     go_wp2
     clear d1 d2 z1 z2
     (refine Rm.wp_region_mix' (R := relE w5.heap.size) (fun _ _ _ => True) (fun _ _ _ _ _ hq => hq) 24 (by first | exact Nat.le_refl _ | omega | (simp; omega)) (by kernel_rfl) (by kernel_rfl) ?_; simp only [List.take_succ_cons, List.take_zero, List.drop_succ_cons, List.drop_zero])
     ((iterate 1 (refine Rm.wpMix_plain rfl rfl ?_; go_big_quiet_step (fail); refine wpQuiet_nil ?_)); (refine Rm.wpMix_load1 (fun W9' h9 => show W9'.cell? _ = some (.int .i64 m.view) from bx_cell (Ext.box h9 F2.out) 2) rfl rfl rfl Tryz.underlying3 rfl ?_; simp only [Act.put, List.setIfInBounds_toArray, List.set_cons_zero, List.set_cons_succ]); (iterate 1 (refine Rm.wpMix_plain rfl rfl ?_; go_big_quiet_step (fail); refine wpQuiet_nil ?_)); (refine Rm.wpMix_load1 (fun W9' h9 => show W9'.cell? _ = some (.int .i64 r.view) from bx_cell (Ext.box h9 F1.out) 3) rfl rfl rfl Tryz.underlying3 rfl ?_; simp only [Act.put, List.setIfInBounds_toArray, List.set_cons_zero, List.set_cons_succ]); (iterate 1 (refine Rm.wpMix_plain rfl rfl ?_; go_big_quiet_step (fail); refine wpQuiet_nil ?_)); (try simp only [g1, Bool.not_true, Bool.not_false]); (iterate 1 (refine Rm.wpMix_plain rfl rfl ?_; go_big_quiet_step (fail); refine wpQuiet_nil ?_)); (iterate 3 (refine Rm.wpMix_skip rfl rfl ?_; simp only [Act.put, List.setIfInBounds_toArray, List.set_cons_zero, List.set_cons_succ])); (iterate 2 (refine Rm.wpMix_plain rfl rfl ?_; go_big_quiet_step (fail); refine wpQuiet_nil ?_)); (iterate 2 (refine Rm.wpMix_skip rfl rfl ?_; simp only [Act.put, List.setIfInBounds_toArray, List.set_cons_zero, List.set_cons_succ])); (iterate 2 (refine Rm.wpMix_plain rfl rfl ?_; go_big_quiet_step (fail); refine wpQuiet_nil ?_)); (iterate 8 (refine Rm.wpMix_skip rfl rfl ?_; simp only [Act.put, List.setIfInBounds_toArray, List.set_cons_zero, List.set_cons_succ])); (iterate 1 (refine Rm.wpMix_plain rfl rfl ?_; go_big_quiet_step (fail); refine wpQuiet_nil ?_)))
     refine Rm.wpMix_nil ?_
     rintro w6 hW
     have x : Ext w5 w6 := hW
     obtain ⟨F1, F2, F3, E3, FS, HF3, X3⟩ : Hid _ ∧ Hid _ ∧ Hid _ ∧ Hid _ ∧ Hid _ ∧ Hid _ ∧ Hid _ := ⟨Lib.hid (x.box F1.out), Lib.hid (x.box F2.out), Lib.hid (x.box F3.out), Lib.hid (x.box E3.out), Lib.hid (FS.out.keep x), Lib.hid (HF3.out.keep x), Lib.hid (Ext.trans X3.out x)⟩
     have hsz_w6 := x.size
     clear x hW
     (go_wp2_with (with_reducible refine wl_stop 63 ?_); refine stop_load (E3.out) rfl Tryz.underlying43 (by kernel_rfl) ?_; simp only [Act.put, List.setIfInBounds_toArray, List.set_cons_zero, List.set_cons_succ])
     (go_wp2_with (with_reducible refine wl_stopS 43 ?_); refine stop_store ((w.heap.size + 1 + 1)) (Rp.cs a1 A1 qs.length c1 (sameR r)) rfl rfl (F3.out) (by kernel_rfl) rfl (by simp [Value.oneCell']) ?_)
     intro W9 e9 k9
     have X9 := Lib.hid (chg_new X3.out k9 (by omega))
     have HE9 := Lib.hid e9
     have HT9 := Lib.hid (RoT.of (O := []) (HF3.out.boxed F3.out k9) (FS.out.boxed F3.out (by decide) (by decide) (by decide) (by decide) k9) rfl)
     clear e9 k9
     go_wp2
     refine bodyPost_ret (results_box2 Tryz.results41 rfl rfl Tryz.underlying43 (by kernel_rfl) HE9.out) rfl ⟨_, rfl, ?_, X9.out⟩
     rw [HQ.out.1, HQ.out.2]
     exact HT9.out
   ·have HQ := Lib.hid (show hearR2 r m 2 (prepR r m) = sameR r ∧ hearO r m 2 (prepO r m) = [⟨m.frm, askM2 r m.view r.commit⟩] by
    have hvv : (m.view == r.view) = false := by simp at g0 ⊢; omega
    rw [HY.out.1, HY.out.2, HS3.out]
    constructor <;> simp only [prepR, prepO, followO, followB, gl, g0, hvv, Bool.true_and, Bool.false_and, Bool.and_true, Bool.and_false, Bool.true_or, Bool.false_or, Bool.or_true, Bool.or_false, Bool.not_true, Bool.not_false, Bool.false_eq_true, if_false, if_true, eq_self, List.append_nil, List.nil_append])
    go_wp2
    clear d1 d2 z1 z2
    have hq9 : w.heap.size + 1 + 1 < w5.heap.size := by omega
    have HW1 := Lib.hid (fun W' (h : (relS (w.heap.size + 1 + 1) (.cells (Rp.cs a1 A1 qs.length c1 (sameR r)) 43) w5.heap.size hq9).rel w5 W') => cells_mid (cs := Rp.cs a1 A1 qs.length c1 (sameR r)) (relS_box E3.out (by omega) W' h) [] [] rfl rfl)
    have HW2 := Lib.hid (fun W' (h : (relS (w.heap.size + 1 + 1) (.cells (Rp.cs a1 A1 qs.length c1 (sameR r)) 43) w5.heap.size hq9).rel w5 W') => cells_mid (cs := Rp.cs a A ps.length c r) (relS_box F1.out (by omega) W' h) [] [] rfl rfl)
    (refine Rm.wp_region_mix' (R := relS (w.heap.size + 1 + 1) (.cells (Rp.cs a1 A1 qs.length c1 (sameR r)) 43) w5.heap.size hq9) (stored (w.heap.size + 1 + 1) (.cells (Rp.cs a1 A1 qs.length c1 (sameR r)) 43)) (fun _ _ _ _ _ hq => hq) 10 (by first | exact Nat.le_refl _ | omega | (simp; omega)) (by kernel_rfl) (by kernel_rfl) ?_; simp only [List.take_succ_cons, List.take_zero, List.drop_succ_cons, List.drop_zero])
    (refine Rm.wpMix_loadAgg (HW1.out) rfl rfl rfl Tryz.underlying43 (by kernel_rfl) ?_; simp only [Act.put, List.setIfInBounds_toArray, List.set_cons_zero, List.set_cons_succ])
    (refine Rm.wpMix_loadAgg (HW2.out) rfl rfl rfl Tryz.underlying43 (by kernel_rfl) ?_; simp only [Act.put, List.setIfInBounds_toArray, List.set_cons_zero, List.set_cons_succ])
    ((iterate 1 (refine Rm.wpMix_plain rfl rfl ?_; go_big_quiet_step (fail); refine wpQuiet_nil ?_)); (refine Rm.wpMix_load1 (fun W9' h9 => show W9'.cell? _ = some (.int .i64 m.view) from bx_cell (relS_box F2.out (by omega) W9' h9) 2) rfl rfl rfl Tryz.underlying3 rfl ?_; simp only [Act.put, List.setIfInBounds_toArray, List.set_cons_zero, List.set_cons_succ]); (iterate 1 (refine Rm.wpMix_plain rfl rfl ?_; go_big_quiet_step (fail); refine wpQuiet_nil ?_)); (refine Rm.wpMix_load1 (fun W9' h9 => show W9'.cell? _ = some (.int .i64 r.commit) from bx_cell (relS_box F1.out (by omega) W9' h9) 5) rfl rfl rfl Tryz.underlying3 rfl ?_; simp only [Act.put, List.setIfInBounds_toArray, List.set_cons_zero, List.set_cons_succ]); (iterate 1 (refine Rm.wpMix_plain rfl rfl ?_; go_big_quiet_step (fail); refine wpQuiet_nil ?_)); (refine Rm.wpMix_load1 (fun W9' h9 => show W9'.cell? _ = some (.int .i64 m.frm) from bx_cell (relS_box F2.out (by omega) W9' h9) 1) rfl rfl rfl Tryz.underlying3 rfl ?_; simp only [Act.put, List.setIfInBounds_toArray, List.set_cons_zero, List.set_cons_succ]))
    refine Rm.wpMix_call (AskV w5.heap.size ⟨m.frm, askM2 r m.view r.commit⟩) rfl rfl rfl (enters Tryz.func66 (by kernel_rfl) rfl) (AskV.mono _ _ _ _ _) (fun W' hW' => (c_l6Ask a A _ c r m.view r.commit m.frm W').mono fun e w' h => ask_v h hW'.1.size) rfl (fun v6 hv6 => ?_)
    obtain ⟨_, _, p6, rfl, _⟩ := hv6
    simp only [Act.put, List.setIfInBounds_toArray, List.set_cons_zero, List.set_cons_succ]
    refine wpMix_st F3.out rfl rfl rfl rfl rfl (by kernel_rfl) rfl (by simp [Value.oneCell']) ?_
    simp only [Act.put, List.setIfInBounds_toArray, List.set_cons_zero, List.set_cons_succ]
    refine Rm.wpMix_nil ?_
    rintro W9 ⟨⟨h9, hv9⟩, e9⟩
    have c9 := h9.1
    have HE9 := Lib.hid e9
    have hk9 := hv9.inv
    have HX9 := Lib.hid (ext_chg X3.out c9 (fun g hg => by rw [List.mem_singleton] at hg; omega))
    have HT9 := Lib.hid (RoT.of (HF3.out.chg c9 (fun k hk => by rw [List.mem_singleton] at hk; omega)) hk9 rfl)
    clear c9 h9 e9 hv9 hk9
    go_wp2
    refine bodyPost_ret (results_box2 Tryz.results41 rfl rfl Tryz.underlying43 (by kernel_rfl) HE9.out) rfl ⟨_, rfl, ?_, HX9.out⟩
    rw [HQ.out.1, HQ.out.2]
    exact HT9.out
end Go.Proofs.YtkenlhdiehaemaaGreat
