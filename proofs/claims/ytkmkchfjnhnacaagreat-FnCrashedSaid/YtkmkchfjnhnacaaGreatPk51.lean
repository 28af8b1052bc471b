/- Restart of the program (beside XGf). -/
import Derived.Test.YtkmkchfjnhnacaaGreatPk17
namespace Go.Proofs.YtkmkchfjnhnacaaGreat
open Go.ChangeShapes Go.WideShapes Go.ChangeAt Go.RowKit Go.Sort
set_option linter.unusedVariables false
set_option linter.unusedSimpArgs false
set_option maxRecDepth 100000 in
set_option maxHeartbeats 4000000 in
theorem c_iRestart (a : LAd) (A : Option Addr) (c : Nat) (ps : List VtE) (r : Rp) (w : World) (hr : RpR w a A c ps r) (hs : r.log.small) (hn : ps.length ≤ 1048576) (hv : LgS ps) :
  Calls Tryz.prog 10 #[Rp.val a A ps.length c r] w fun e w' => ∃ v, e = .returned v ∧ RoX w' w.heap.size (restR r) (restO r) v ∧ Ext w w' := by
 have X0 : Ext w ((w.alloc (Rp.obj a A ps.length c r)).alloc Rp.zobj) := ext_to (ext_alloc _ _) _
 have hcon := c_iReplicaOk a A c ps r _ (hr.keep X0) hs hn hv
 have HCp := Hd (fun W (h : Ext w W) => c_copyReplica a A c ps r W (hr.keep h) hs hn hv)
 have D1 := Hd (hOld (o := Rp.zobj) (hNew (w := w) (o := Rp.obj a A ps.length c r) rfl))
 have D2 := hNew (w := w.alloc (Rp.obj a A ps.length c r)) (o := Rp.zobj) rfl
 rw [sz_alloc] at D2
 have HD2 := Hd D2
 have HX0 := Hd X0
 clear D2 X0 hr hv hs
 cases q : rpOk r
 ·rw [q] at hcon
  have HC := Hd hcon
  have HR := Hd (show restR r = Rp.zero ∧ restO r = [] by simp [restR, restO, q])
  clear q hcon HCp
  go_enter Tryz.func10, Tryz.ntmps10
  (go_wp2_with (with_reducible refine wl_stop 5 ?_); refine stop_load (D1.out) rfl Tryz.underlying33 (by kernel_rfl) ?_; simp only [Act.put, Sa, Sz, Ss])
  go_wp2_with fail
  refine HC.out.mono ?_
  rintro e w1 ⟨rfl, x1⟩
  have HB := Hd (x1.box HD2.out)
  (go_wp2_with (with_reducible refine wl_stopS 33 ?_); refine stop_store (w.heap.size + 1) #[.int .i64 0, .int .i64 0, .int .i64 0, .int .i64 0, .int .i64 0, .int .i64 0, .int .i64 0, .slice none 0 0, .slice none 0 0, .slice none 0 0, .slice none 0 0, .int .i64 0, .int .i64 0] rfl rfl (HB.out) (by kernel_rfl) rfl (by simp [Value.oneCell']) ?_)
  intro W4 E4 C4
  have hX4 := Hd (chg_new (Ext.trans HX0.out x1) C4 (by omega))
  go_wp2
  refine bodyPost_ret (results_box2 Tryz.results10 rfl rfl Tryz.underlying33 (by kernel_rfl) E4) rfl ⟨_, rfl, ?_, hX4.out⟩
  rw [HR.out.1, HR.out.2]
  exact ⟨LAd.none, none, 0, [], none, 0, [], w.heap.size, rfl, RpO.none _ _ _ _ rfl rfl, OsO.nil _ _ _, rfl, Nat.le_refl _, hX4.out.size⟩
 ·rw [q] at hcon
  have HC := Hd hcon
  have hfacts := rpOk_facts q
  have HR := Hd (show restR r = (if wakes r = true then r.waked else r) ∧ restO r = (if wakes r = true then allTo r.me (askM r) r.of.toNat else []) by simp [restR, restO, q])
  clear q hcon
  go_enter Tryz.func10, Tryz.ntmps10
  (go_wp2_with (with_reducible refine wl_stop 5 ?_); refine stop_load (D1.out) rfl Tryz.underlying33 (by kernel_rfl) ?_; simp only [Act.put, Sa, Sz, Ss])
  go_wp2_with fail
  refine HC.out.mono ?_
  rintro e w1 ⟨rfl, x1⟩
  have B1 := Hd (x1.box D1.out)
  have B2 := Hd (x1.box HD2.out)
  have X1 := Hd (Ext.trans HX0.out x1)
  clear D1 HD2 HX0 HC x1
  (go_wp2_with (with_reducible refine wl_stop 9 ?_); refine stop_load (B1.out) rfl Tryz.underlying33 (by kernel_rfl) ?_; simp only [Act.put, Sa, Sz, Ss])
  go_wp2_with fail
  refine (HCp.out _ X1.out).mono ?_
  rintro e w2 ⟨a', A', c', qs, rfl, hql, o2, x2⟩
  have HO2 := Hd o2
  have E2 := Hd (x2.box B2.out)
  have X2 := Hd (Ext.trans X1.out x2)
  have HL := Hd hql
  have hs2 := X2.out.size
  have hs1 := X1.out.size
  have hs12 := x2.size
  have hlt2 := bx_lt B2.out
  have d0 := bx_cell (hNew (w := w2) (o := Kp.obj a' A' ps.length c' r (.slice none 0 0)) rfl)
  have g0 := bx_frozen (hNew (w := w2) (o := Kp.obj a' A' ps.length c' r (.slice none 0 0)) rfl)
  have z0 := bx_lt (hNew (w := w2) (o := Kp.obj a' A' ps.length c' r (.slice none 0 0)) rfl)
  have HK0 := Hd (show KS (w2.alloc (Kp.obj a' A' ps.length c' r (.slice none 0 0))) (w2.alloc (Kp.obj a' A' ps.length c' r (.slice none 0 0))) w2.heap.size a' A' ps.length c' r [] none 0 from ⟨hNew rfl, World.ownsRow_nil _ _ _ _, OsQ.nil _ _, Chg.refl _ _⟩)
  have HZ0 := Hd (hOld (o := Kp.obj a' A' ps.length c' r (.slice none 0 0)) E2.out)
  clear o2 x2 hql B1 B2
  cases qm : (r.mode == 0)
  ·have HR' := Hd (show restR r = r ∧ restO r = [] by rw [HR.out.1, HR.out.2]; simp [wakes, qm])
   go_wp2
   refine code_go (F := fun W => KS (w2.alloc (Kp.obj a' A' ps.length c' r (.slice none 0 0))) W w2.heap.size a' A' ps.length c' r [] none 0 ∧ W.heap[w.heap.size + 1]? = some Rp.zobj) ⟨HK0.out, HZ0.out⟩ ?_
   rintro W ⟨kW, dW⟩
   have KW := Hd kW
   have DW := Hd dW
   clear kW dW d0 g0 z0
   have hq9 : w.heap.size + 1 < W.heap.size := by have := KW.out.chg.size; simp only [sz_alloc] at this; omega
   have M := Hd (fun W' (h : (relS (w.heap.size + 1) (.cells (Rp.cs a' A' ps.length c' r) 33) W.heap.size hq9).rel W W') => cells_mid (cs := Rp.cs a' A' ps.length c' r) (relS_box KW.out.box (by omega) W' h) [] [.slice none (List.length []) 0] rfl rfl)
   (refine Rm.wp_region_mix' (R := relS (w.heap.size + 1) (.cells (Rp.cs a' A' ps.length c' r) 33) W.heap.size hq9) (stored (w.heap.size + 1) (.cells (Rp.cs a' A' ps.length c' r) 33)) (fun _ _ _ _ _ hq => hq) 9 (by first | exact Nat.le_refl _ | omega | (simp; omega)) (by kernel_rfl) (by kernel_rfl) ?_; simp only [Tc, Tz, Dc, Dz])
   (iterate 1 (refine Rm.wpMix_plain rfl rfl ?_; go_big_quiet_step (fail); refine wpQuiet_nil ?_))
   (refine Rm.wpMix_nilp rfl rfl rfl ?_; simp only [Act.put, Sa, Sz, Ss])
   (iterate 1 (refine Rm.wpMix_plain rfl rfl ?_; go_big_quiet_step (fail); refine wpQuiet_nil ?_))
   (refine Rm.wpMix_loadAgg (M.out) rfl rfl rfl Tryz.underlying33 (by kernel_rfl) ?_; simp only [Act.put, Sa, Sz, Ss])
   (iterate 1 (refine Rm.wpMix_plain rfl rfl ?_; go_big_quiet_step (fail); refine wpQuiet_nil ?_))
   (refine Rm.wpMix_nilp rfl rfl rfl ?_; simp only [Act.put, Sa, Sz, Ss])
   (iterate 1 (refine Rm.wpMix_plain rfl rfl ?_; go_big_quiet_step (fail); refine wpQuiet_nil ?_))
   (refine Rm.wpMix_load1 (fun W' h => show W'.cell? _ = some (.slice none (List.length []) 0) from bx_cell (relS_box KW.out.box (by omega) W' h) 13) rfl rfl rfl Tryz.underlying38 rfl ?_; simp only [Act.put, Sa, Sz, Ss])
   refine wpMix_st DW.out rfl rfl rfl rfl rfl (by kernel_rfl) rfl (by simp [Value.oneCell']) ?_
   simp only [Act.put, Sa, Sz, Ss]
   refine Rm.wpMix_nil ?_
   rintro W9 ⟨h9, E9⟩
   have c9 := h9.1
   have HE9 := Hd E9
   have X9 := (((chg_ext [w2.heap.size, w.heap.size + 1] (ext_alloc w2 (Kp.obj a' A' ps.length c' r (.slice none 0 0)))).trans (KW.out.chg.more (fun k hk => by rw [Mi] at hk; simp [hk]))).trans (c9.more (fun k hk => by rw [Mi] at hk; simp [hk])))
   have hR9 := HO2.out.chgAny X9 (fun k h1 h2 hm => by simp only [List.mem_cons, List.mem_nil_iff, or_false] at hm; omega)
   have hO9 := (KW.out.logs.own KW.out.row).chg c9 (fun k hk hm => by rw [Mi] at hm; have := (KW.out.logs.own KW.out.row).low k hk; simp only [sz_alloc] at this; omega)
   have HX9 := Hd (ext_chg X2.out X9 (fun g hg => by simp only [List.mem_cons, List.mem_nil_iff, or_false] at hg; omega))
   have HR9 := Hd hR9
   have HO9 := Hd (hO9.wide (Nat.le_refl _) c9.size)
   have hMW := Nat.le_trans KW.out.chg.size c9.size
   clear E9 h9 c9 X9 hR9 hO9 M
   go_wp2
   refine bodyPost_ret (results_box2 Tryz.results10 rfl rfl Tryz.underlying33 (by kernel_rfl) HE9.out) rfl ⟨_, rfl, ?_, HX9.out⟩
   rw [HR'.out.1, HR'.out.2]
   refine ⟨a', A', c', qs, none, 0, [], (w2.alloc (Kp.obj a' A' ps.length c' r (.slice none 0 0))).heap.size, by rw [HL.out]; rfl, ?_, HO9.out, rfl, by simp; omega, hMW⟩
   exact RpO.wide ⟨HR9.out.l, HR9.out.v, HR9.out.e, HR9.out.d⟩ (by omega) (by simp)
  ·cases qn : decide (r.nonce < 1000000000)
   ·have HR' := Hd (show restR r = r ∧ restO r = [] by rw [HR.out.1, HR.out.2]; simp [wakes, qm, qn])
    go_wp2
    refine code_go (F := fun W => KS (w2.alloc (Kp.obj a' A' ps.length c' r (.slice none 0 0))) W w2.heap.size a' A' ps.length c' r [] none 0 ∧ W.heap[w.heap.size + 1]? = some Rp.zobj) ⟨HK0.out, HZ0.out⟩ ?_
    rintro W ⟨kW, dW⟩
    have KW := Hd kW
    have DW := Hd dW
    clear kW dW d0 g0 z0
    have hq9 : w.heap.size + 1 < W.heap.size := by have := KW.out.chg.size; simp only [sz_alloc] at this; omega
    have M := Hd (fun W' (h : (relS (w.heap.size + 1) (.cells (Rp.cs a' A' ps.length c' r) 33) W.heap.size hq9).rel W W') => cells_mid (cs := Rp.cs a' A' ps.length c' r) (relS_box KW.out.box (by omega) W' h) [] [.slice none (List.length []) 0] rfl rfl)
    (refine Rm.wp_region_mix' (R := relS (w.heap.size + 1) (.cells (Rp.cs a' A' ps.length c' r) 33) W.heap.size hq9) (stored (w.heap.size + 1) (.cells (Rp.cs a' A' ps.length c' r) 33)) (fun _ _ _ _ _ hq => hq) 9 (by first | exact Nat.le_refl _ | omega | (simp; omega)) (by kernel_rfl) (by kernel_rfl) ?_; simp only [Tc, Tz, Dc, Dz])
    (iterate 1 (refine Rm.wpMix_plain rfl rfl ?_; go_big_quiet_step (fail); refine wpQuiet_nil ?_))
    (refine Rm.wpMix_nilp rfl rfl rfl ?_; simp only [Act.put, Sa, Sz, Ss])
    (iterate 1 (refine Rm.wpMix_plain rfl rfl ?_; go_big_quiet_step (fail); refine wpQuiet_nil ?_))
    (refine Rm.wpMix_loadAgg (M.out) rfl rfl rfl Tryz.underlying33 (by kernel_rfl) ?_; simp only [Act.put, Sa, Sz, Ss])
    (iterate 1 (refine Rm.wpMix_plain rfl rfl ?_; go_big_quiet_step (fail); refine wpQuiet_nil ?_))
    (refine Rm.wpMix_nilp rfl rfl rfl ?_; simp only [Act.put, Sa, Sz, Ss])
    (iterate 1 (refine Rm.wpMix_plain rfl rfl ?_; go_big_quiet_step (fail); refine wpQuiet_nil ?_))
    (refine Rm.wpMix_load1 (fun W' h => show W'.cell? _ = some (.slice none (List.length []) 0) from bx_cell (relS_box KW.out.box (by omega) W' h) 13) rfl rfl rfl Tryz.underlying38 rfl ?_; simp only [Act.put, Sa, Sz, Ss])
    refine wpMix_st DW.out rfl rfl rfl rfl rfl (by kernel_rfl) rfl (by simp [Value.oneCell']) ?_
    simp only [Act.put, Sa, Sz, Ss]
    refine Rm.wpMix_nil ?_
    rintro W9 ⟨h9, E9⟩
    have c9 := h9.1
    have HE9 := Hd E9
    have X9 := (((chg_ext [w2.heap.size, w.heap.size + 1] (ext_alloc w2 (Kp.obj a' A' ps.length c' r (.slice none 0 0)))).trans (KW.out.chg.more (fun k hk => by rw [Mi] at hk; simp [hk]))).trans (c9.more (fun k hk => by rw [Mi] at hk; simp [hk])))
    have hR9 := HO2.out.chgAny X9 (fun k h1 h2 hm => by simp only [List.mem_cons, List.mem_nil_iff, or_false] at hm; omega)
    have hO9 := (KW.out.logs.own KW.out.row).chg c9 (fun k hk hm => by rw [Mi] at hm; have := (KW.out.logs.own KW.out.row).low k hk; simp only [sz_alloc] at this; omega)
    have HX9 := Hd (ext_chg X2.out X9 (fun g hg => by simp only [List.mem_cons, List.mem_nil_iff, or_false] at hg; omega))
    have HR9 := Hd hR9
    have HO9 := Hd (hO9.wide (Nat.le_refl _) c9.size)
    have hMW := Nat.le_trans KW.out.chg.size c9.size
    clear E9 h9 c9 X9 hR9 hO9 M
    go_wp2
    refine bodyPost_ret (results_box2 Tryz.results10 rfl rfl Tryz.underlying33 (by kernel_rfl) HE9.out) rfl ⟨_, rfl, ?_, HX9.out⟩
    rw [HR'.out.1, HR'.out.2]
    refine ⟨a', A', c', qs, none, 0, [], (w2.alloc (Kp.obj a' A' ps.length c' r (.slice none 0 0))).heap.size, by rw [HL.out]; rfl, ?_, HO9.out, rfl, by simp; omega, hMW⟩
    exact RpO.wide ⟨HR9.out.l, HR9.out.v, HR9.out.e, HR9.out.d⟩ (by omega) (by simp)
   ·have HR' := Hd (show restR r = r.waked ∧ restO r = allTo r.me (askM r) r.of.toNat by rw [HR.out.1, HR.out.2]; simp [wakes, qm, qn])
    have HK1 := Hd (show KS (w2.alloc (Kp.obj a' A' ps.length c' r (.slice none 0 0))) (w2.alloc (Kp.obj a' A' ps.length c' r.waked (.slice none 0 0))) w2.heap.size a' A' ps.length c' r.waked [] none 0 from ⟨hNew rfl, World.ownsRow_nil _ _ _ _, OsQ.nil _ _, chg_alloc2 _ _ _⟩)
    have HZ1 := Hd (hOld (o := Kp.obj a' A' ps.length c' r.waked (.slice none 0 0)) E2.out)
    have hw : r.nonce + 1 ≤ 1000000000 := by have := of_decide_eq_true qn; omega
    go_wp2
    refine code_go (F := fun W => KS (w2.alloc (Kp.obj a' A' ps.length c' r (.slice none 0 0))) W w2.heap.size a' A' ps.length c' r.waked [] none 0 ∧ W.heap[w.heap.size + 1]? = some Rp.zobj) ⟨HK1.out, HZ1.out⟩ ?_
    rintro W ⟨kW, dW⟩
    have KW := Hd kW
    have DW := Hd dW
    clear kW dW d0 g0 z0
    (refine Rm.wp_region_mix' (R := relE W.heap.size) (fun _ _ _ => True) (fun _ _ _ _ _ hq => hq) 12 (by first | exact Nat.le_refl _ | omega | (simp; omega)) (by kernel_rfl) (by kernel_rfl) ?_; simp only [Tc, Tz, Dc, Dz])
    (iterate 2 (refine Rm.wpMix_plain rfl rfl ?_; go_big_quiet_step (fail); refine wpQuiet_nil ?_))
    (refine Rm.wpMix_nilp rfl rfl rfl ?_; simp only [Act.put, Sa, Sz, Ss])
    (iterate 2 (refine Rm.wpMix_plain rfl rfl ?_; go_big_quiet_step (fail); refine wpQuiet_nil ?_))
    (refine Rm.wpMix_load1 (fun W' h => show W'.cell? _ = some (.int .i64 r.me) from bx_cell (Ext.box h KW.out.box) 0) rfl rfl rfl Tryz.underlying3 rfl ?_; simp only [Act.put, Sa, Sz, Ss])
    (iterate 1 (refine Rm.wpMix_plain rfl rfl ?_; go_big_quiet_step (fail); refine wpQuiet_nil ?_))
    (refine Rm.wpMix_nilp rfl rfl rfl ?_; simp only [Act.put, Sa, Sz, Ss])
    (iterate 2 (refine Rm.wpMix_plain rfl rfl ?_; go_big_quiet_step (fail); refine wpQuiet_nil ?_))
    (refine Rm.wpMix_load1 (fun W' h => show W'.cell? _ = some (.int .i64 (r.nonce + 1)) from bx_cell (Ext.box h KW.out.box) 12) rfl rfl rfl Tryz.underlying3 rfl ?_; simp only [Act.put, Sa, Sz, Ss])
    (iterate 1 (refine Rm.wpMix_plain rfl rfl ?_; go_big_quiet_step (fail); refine wpQuiet_nil ?_))
    refine Rm.wpMix_nil ?_
    rintro W' hW'
    have hx' : Ext W W' := hW'
    have kW' : KS (w2.alloc (Kp.obj a' A' ps.length c' r (.slice none 0 0))) W' w2.heap.size a' A' ps.length c' r.waked [] none 0 := ⟨hx'.box KW.out.box, KW.out.row.kept hx', KW.out.logs.kept hx', KW.out.chg.trans (chg_ext _ hx')⟩
    have KW' := Hd kW'
    have DW' := Hd (hx'.box DW.out)
    clear KW DW hx' hW' kW'
    obtain ⟨N, hN, hN10⟩ : ∃ N : Nat, r.of = (N : Int) ∧ N ≤ 10 := ⟨r.of.toNat, by omega, by omega⟩
    go_wp2_with fail
    refine (c_sendAll _ w2.heap.size a' A' ps.length c' r.waked [] none 0 LAd.none (askM r) W' 0 N (by simp) KW'.out hN hN10 (LgF.zero _ _) (show Lg.none.small from ⟨by decide, by decide, by decide⟩) (by simp)).mono ?_
    rintro e W ⟨rfl, Ao, co, os, kW, hmap⟩
    have cK := kW.chg
    have KW := Hd (show KS (w2.alloc (Kp.obj a' A' ps.length c' r (.slice none 0 0))) W w2.heap.size a' A' ps.length c' r.waked os Ao co from by simpa using kW)
    have DW := Hd (show W.heap[w.heap.size + 1]? = some Rp.zobj from box_chg HZ0.out cK (by omega))
    have HM := Hd (show List.map Prod.snd os = allTo r.me (askM r) r.of.toNat from by rw [hmap, hN]; rfl)
    clear kW cK hmap KW' DW'
    go_wp2
    have hq9 : w.heap.size + 1 < W.heap.size := by have := KW.out.chg.size; simp only [sz_alloc] at this; omega
    have M := Hd (fun W' (h : (relS (w.heap.size + 1) (.cells (Rp.cs a' A' ps.length c' r.waked) 33) W.heap.size hq9).rel W W') => cells_mid (cs := Rp.cs a' A' ps.length c' r.waked) (relS_box KW.out.box (by omega) W' h) [] [.slice Ao (List.length os) co] rfl rfl)
    (refine Rm.wp_region_mix' (R := relS (w.heap.size + 1) (.cells (Rp.cs a' A' ps.length c' r.waked) 33) W.heap.size hq9) (stored (w.heap.size + 1) (.cells (Rp.cs a' A' ps.length c' r.waked) 33)) (fun _ _ _ _ _ hq => hq) 9 (by first | exact Nat.le_refl _ | omega | (simp; omega)) (by kernel_rfl) (by kernel_rfl) ?_; simp only [Tc, Tz, Dc, Dz])
    (iterate 1 (refine Rm.wpMix_plain rfl rfl ?_; go_big_quiet_step (fail); refine wpQuiet_nil ?_))
    (refine Rm.wpMix_nilp rfl rfl rfl ?_; simp only [Act.put, Sa, Sz, Ss])
    (iterate 1 (refine Rm.wpMix_plain rfl rfl ?_; go_big_quiet_step (fail); refine wpQuiet_nil ?_))
    (refine Rm.wpMix_loadAgg (M.out) rfl rfl rfl Tryz.underlying33 (by kernel_rfl) ?_; simp only [Act.put, Sa, Sz, Ss])
    (iterate 1 (refine Rm.wpMix_plain rfl rfl ?_; go_big_quiet_step (fail); refine wpQuiet_nil ?_))
    (refine Rm.wpMix_nilp rfl rfl rfl ?_; simp only [Act.put, Sa, Sz, Ss])
    (iterate 1 (refine Rm.wpMix_plain rfl rfl ?_; go_big_quiet_step (fail); refine wpQuiet_nil ?_))
    (refine Rm.wpMix_load1 (fun W' h => show W'.cell? _ = some (.slice Ao (List.length os) co) from bx_cell (relS_box KW.out.box (by omega) W' h) 13) rfl rfl rfl Tryz.underlying38 rfl ?_; simp only [Act.put, Sa, Sz, Ss])
    refine wpMix_st DW.out rfl rfl rfl rfl rfl (by kernel_rfl) rfl (by simp [Value.oneCell']) ?_
    simp only [Act.put, Sa, Sz, Ss]
    refine Rm.wpMix_nil ?_
    rintro W9 ⟨h9, E9⟩
    have c9 := h9.1
    have HE9 := Hd E9
    have X9 := (((chg_ext [w2.heap.size, w.heap.size + 1] (ext_alloc w2 (Kp.obj a' A' ps.length c' r (.slice none 0 0)))).trans (KW.out.chg.more (fun k hk => by rw [Mi] at hk; simp [hk]))).trans (c9.more (fun k hk => by rw [Mi] at hk; simp [hk])))
    have hR9 := HO2.out.chgAny X9 (fun k h1 h2 hm => by simp only [List.mem_cons, List.mem_nil_iff, or_false] at hm; omega)
    have hO9 := (KW.out.logs.own KW.out.row).chg c9 (fun k hk hm => by rw [Mi] at hm; have := (KW.out.logs.own KW.out.row).low k hk; simp only [sz_alloc] at this; omega)
    have HX9 := Hd (ext_chg X2.out X9 (fun g hg => by simp only [List.mem_cons, List.mem_nil_iff, or_false] at hg; omega))
    have HR9 := Hd hR9
    have HO9 := Hd (hO9.wide (Nat.le_refl _) c9.size)
    have hMW := Nat.le_trans KW.out.chg.size c9.size
    clear E9 h9 c9 X9 hR9 hO9 M
    go_wp2
    refine bodyPost_ret (results_box2 Tryz.results10 rfl rfl Tryz.underlying33 (by kernel_rfl) HE9.out) rfl ⟨_, rfl, ?_, HX9.out⟩
    rw [HR'.out.1, HR'.out.2]
    refine ⟨a', A', c', qs, Ao, co, os, (w2.alloc (Kp.obj a' A' ps.length c' r (.slice none 0 0))).heap.size, by rw [HL.out]; rfl, ?_, HO9.out, HM.out, by simp; omega, hMW⟩
    exact RpO.wide ⟨HR9.out.l, HR9.out.v, HR9.out.e, HR9.out.d⟩ (by omega) (by simp)
end Go.Proofs.YtkmkchfjnhnacaaGreat
