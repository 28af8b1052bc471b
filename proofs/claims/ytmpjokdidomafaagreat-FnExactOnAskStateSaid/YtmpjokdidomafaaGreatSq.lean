/- A replica that is asked, of the reference: who hears, and OnAskBack. -/
import Derived.Test.YtmpjokdidomafaaGreatHa
import Derived.Test.YtmpjokdidomafaaGreatFt
import Derived.Test.YtmpjokdidomafaaGreatSr
import Derived.Test.YtmpjokdidomafaaGreatMo
namespace Go.Proofs.YtmpjokdidomafaaGreat
open Go.ChangeShapes Go.WideShapes Go.ChangeAt Go.RowKit Go.Sort
set_option linter.unusedVariables false
set_option linter.unusedSimpArgs false

def sHearB (r : Rp) (m : Mg) (kind : Int) : Bool := sFits m && ((m.kind == kind) && ((kind == 1) || (decide (m.frm < r.of) && (m.frm != r.me))))
theorem hear_eq {r : Rp} {m : Mg} {kind : Int} (h70 : sHas (iForm kind) 70 = true) (h102 : sHas (sForm kind) 102 = true) (hne : (kind == 1) = false) : hearB r m kind = sHearB r m kind := by
  unfold hearB sHearB
  rw [fits_eq, h70, hne]
  cases hf : sFits m
  · rfl
  · cases hk : (m.kind == kind)
    · rfl
    · have hk' : m.kind = kind := by simpa using hk
      have h1 : sN m (sForm m.kind) 1 = true := by
        unfold sFits at hf
        simp only [Bool.and_eq_true] at hf
        exact hf.2.1
      rw [hk'] at h1
      simp only [sN, numOk, h102, Bool.true_and, Bool.not_true, Bool.false_and, Bool.or_false, inB, Bool.and_eq_true, decide_eq_true_eq] at h1
      have h2 : inB m.frm 0 (r.of - 1) = decide (m.frm < r.of) := by
        unfold inB
        rw [Bool.eq_iff_iff]
        simp
        omega
      rw [h2]
      simp

set_option maxRecDepth 100000 in
set_option maxHeartbeats 8000000 in
theorem c_l6Hears (a : LAd) (A : Option Addr) (c : Nat) (ps : List VtE) (r : Rp) (am : LAd) (m : Mg) (kind : Int) (w : World) (hr : RpR w a A c ps r) (hs : r.log.small) (hn : ps.length ≤ 1048576) (hv : LgS ps) (hm : LgR w am m.log) (hms : m.log.small) :
    Calls Tryz.prog 57 #[Rp.val a A ps.length c r, Mg.val am m, .int .i64 kind] w fun e w' => e = .returned (.bool (rpOk r && sHearB r m kind)) ∧ Ext w w' := by
  have X0 : Ext w ((w.alloc (Rp.obj a A ps.length c r)).alloc (Mg.obj am m)) := ext_to (ext_alloc _ _) _
  have hcon := c_sReplicaOk a A c ps r _ (hr.keep X0) hs hn hv
  have HFt := Lib.hid (fun W (h : Ext w W) => c_sMsgFits am m W hms (hm.keep h))
  have D1 := Lib.hid (hOld (o := Mg.obj am m) (hNew (w := w) (o := Rp.obj a A ps.length c r) rfl))
  have D2 := Lib.hid (hNew (w := w.alloc (Rp.obj a A ps.length c r)) (o := Mg.obj am m) (k := w.heap.size + 1) (by simp))
  have HX0 := Lib.hid X0
  obtain ⟨ff, hff⟩ : ∃ ff, sFits m = ff := ⟨_, rfl⟩
  have hfc := fun W (h : Ext w W) => HFt.out W h
  rw [hff] at hfc
  have HFc := Lib.hid hfc
  obtain ⟨V, hV⟩ : ∃ V, (rpOk r && sHearB r m kind) = V := ⟨_, rfl⟩
  have HV := Lib.hid (show V = (rpOk r && (ff && ((m.kind == kind) && ((kind == 1) || (decide (m.frm < r.of) && (m.frm != r.me)))))) by rw [← hV, ← hff]; rfl)
  rw [hV]
  clear X0 hr hv hs hm HFt hff hfc hV
  cases q : rpOk r
  · rw [q] at hcon HV
    have HC := Lib.hid hcon
    clear q hcon
    go_enter Tryz.func57, Tryz.ntmps57
    (go_wp2_with (with_reducible refine wl_stop 7 ?_); refine stop_load (D1.out) rfl Tryz.underlying42 (by kernel_rfl) ?_; simp only [Act.put, List.setIfInBounds_toArray, List.set_cons_zero, List.set_cons_succ])
    go_wp2_with fail
    refine HC.out.mono ?_
    rintro e w1 ⟨rfl, x1⟩
    have X1 := Lib.hid (Ext.trans HX0.out x1)
    clear x1
    go_wp2
    go_ret
    exact ⟨ret_bool (by rw [HV.out]; rfl), X1.out⟩
  · rw [q] at hcon HV
    have HC := Lib.hid hcon
    clear q hcon
    go_enter Tryz.func57, Tryz.ntmps57
    (go_wp2_with (with_reducible refine wl_stop 7 ?_); refine stop_load (D1.out) rfl Tryz.underlying42 (by kernel_rfl) ?_; simp only [Act.put, List.setIfInBounds_toArray, List.set_cons_zero, List.set_cons_succ])
    go_wp2_with fail
    refine HC.out.mono ?_
    rintro e w1 ⟨rfl, x1⟩
    have E1 := Lib.hid (x1.box D1.out)
    have E2 := Lib.hid (x1.box D2.out)
    have X1 := Lib.hid (Ext.trans HX0.out x1)
    clear x1 D1 D2
    (go_wp2_with (with_reducible refine wl_stop 11 ?_); refine stop_loadG (E2.out) rfl rfl Tryz.underlying63 (by kernel_rfl) ?_; simp only [Act.put, List.setIfInBounds_toArray, List.set_cons_zero, List.set_cons_succ])
    go_wp2_with fail
    refine (HFc.out _ X1.out).mono ?_
    rintro e w2 ⟨rfl, x2⟩
    have X2 := Lib.hid (Ext.trans X1.out x2)
    have d1 := bx_cell (x2.box E1.out)
    have d2 := bx_cell (x2.box E2.out)
    have z1 := bx_lt (x2.box E1.out)
    have z2 := bx_lt (x2.box E2.out)
    clear x2 E1 E2 X1 HFc
    cases ff
    · go_wp2
      go_ret
      exact ⟨ret_bool (by rw [HV.out]; rfl), X2.out⟩
    · go_wp2
      all_goals
        go_ret
        refine ⟨ret_bool ?_, X2.out⟩
        rw [HV.out]
        (first | (simp [*]; done) | (simp_all; done) | (simp_all; omega))
end Go.Proofs.YtmpjokdidomafaaGreat

/- OnAskBack and OnAskState of the reference. -/
namespace Go.Proofs.YtmpjokdidomafaaGreat
open Go.ChangeShapes Go.WideShapes Go.ChangeAt Go.RowKit Go.Sort
set_option linter.unusedVariables false
set_option linter.unusedSimpArgs false

/-- a replica and what is sent, read so, also when a box of a replica turns -/
def RoT (w : World) (R : Rp) (O : List Ot) (V : Value) : Prop := ∃ a A c qs Ao co os, V = .tuple #[Rp.val a A (List.length qs) c R, .slice Ao (List.length os) co] ∧ RpR w a A c qs R ∧ OsR w Ao co os ∧ List.map Prod.snd os = O ∧
  ∀ (w' : World) (p : Nat) (cs : Array Value), w.heap[p]? = some (.cells cs 42 (0, 0)) → Chg w w' [p] → RpR w' a A c qs R ∧ OsR w' Ao co os
theorem outs1_stable {w w' : World} {B p p1 : Nat} {cs : Array Value} {a4 : LAd} {o : Ot} (h1 : w.heap[p1]? = some (.cells (OtE.cells a4 o) 83 (0, 0))) (hL : LgF w B a4 o.msg.log) (hp : w.heap[p]? = some (.cells cs 42 (0, 0))) (hc : Chg w w' [p]) : OsR w' (some ⟨p1, 0, none⟩) 1 [(a4, o)] := by
  have hne : p1 ≠ p := fun e => by
    rw [e, hp] at h1
    simp only [Option.some.injEq, Obj.cells.injEq] at h1
    exact absurd h1.2.1 (by decide)
  refine ⟨Rd.one (box_chg h1 hc hne) rfl, fun q hq => ?_⟩
  rw [List.mem_singleton] at hq
  subst hq
  exact (hL.boxed hp (by decide) (by decide) (by decide) hc).rd
/-- a log's value that reads so, its rows from B on -/
def LgV8 (B : Nat) (l : Lg) (v : Value) (W : World) : Prop := ∃ a, v = Lg.val a l ∧ LgF W B a l
theorem LgV8.mono (B : Nat) (l : Lg) (p : Nat) (obj : Obj) (hp : p < B) : Rm.Mono (relS p obj B hp) (LgV8 B l) := fun v w w' ⟨a, h, hf⟩ hx => ⟨a, h, hf.chg1 hx.1 hp⟩
theorem LgV8.inv {B : Nat} {l : Lg} {a : LAd} {W : World} (h : LgV8 B l (Lg.val a l) W) : LgF W B a l := by
  obtain ⟨b, he, hf⟩ := h
  obtain ⟨a1, a2, a3, a4, a5, a6⟩ := a
  obtain ⟨b1, b2, b3, b4, b5, b6⟩ := b
  simp only [Value.agg.injEq, Array.mk.injEq, List.cons.injEq, Value.slice.injEq, true_and, and_true] at he
  obtain ⟨⟨rfl, rfl⟩, ⟨rfl, rfl⟩, rfl, rfl⟩ := he
  exact hf

set_option maxRecDepth 100000 in
set_option maxHeartbeats 8000000 in
theorem c_sOnAskBack (a : LAd) (A : Option Addr) (c : Nat) (ps : List VtE) (r : Rp) (am : LAd) (m : Mg) (w : World) (hr : RpR w a A c ps r) (hs : r.log.small) (hn : ps.length ≤ 1048576) (hv : LgS ps) (hm : LgR w am m.log) (hms : m.log.small) :
    Calls Tryz.prog 23 #[Rp.val a A ps.length c r, Mg.val am m] w fun e w' => ∃ v, e = .returned v ∧ RoT w' (hearR r) (hearO r m 8 (backO r m)) v ∧ Ext w w' := by
  have X0 : Ext w (((w.alloc (Rp.obj a A ps.length c r)).alloc (Mg.obj am m)).alloc Rp.zobj) := ext_to (ext_to (ext_alloc _ _) _) _
  have HSm := Lib.hid (c_l6Same a A c ps r _ (hr.keep X0) hs hn hv)
  have HHr := Lib.hid (fun W (h : Ext w W) => c_l6Hears a A c ps r am m 8 W (hr.keep h) hs hn hv (hm.keep h) hms)
  have D1 := Lib.hid (hOld (o := Rp.zobj) (hOld (o := Mg.obj am m) (hNew (w := w) (o := Rp.obj a A ps.length c r) rfl)))
  have D2 := Lib.hid (hOld (o := Rp.zobj) (hNew (w := w.alloc (Rp.obj a A ps.length c r)) (o := Mg.obj am m) (k := w.heap.size + 1) (by simp)))
  have D3 := Lib.hid (hNew (w := (w.alloc (Rp.obj a A ps.length c r)).alloc (Mg.obj am m)) (o := Rp.zobj) (k := w.heap.size + 1 + 1) (by simp))
  have HX0 := Lib.hid X0
  have HR := Lib.hid hr
  have hheq : hearB r m 8 = sHearB r m 8 := hear_eq (by decide +kernel) (by decide +kernel) rfl
  have HQ := Lib.hid (show hearO r m 8 (backO r m) = if (rpOk r && sHearB r m 8) = true then backO r m else [] by unfold hearO; rw [hheq])
  clear X0 hr hv hm hheq
  go_enter Tryz.func23, Tryz.ntmps23
  (go_wp2_with (with_reducible refine wl_stop 7 ?_); refine stop_load (D1.out) rfl Tryz.underlying42 (by kernel_rfl) ?_; simp only [Act.put, List.setIfInBounds_toArray, List.set_cons_zero, List.set_cons_succ])
  go_wp2_with fail
  refine HSm.out.mono ?_
  rintro e w1 ⟨v1, rfl, ⟨a1, A1, c1, qs, rfl, f1⟩, x1⟩
  have HF1 := Lib.hid f1
  have B1 := Lib.hid (x1.box D1.out)
  have B2 := Lib.hid (x1.box D2.out)
  have B3 := Lib.hid (x1.box D3.out)
  have X1 := Lib.hid (Ext.trans HX0.out x1)
  have Z1 := Lib.hid (hNew (w := w1) (o := Rp.zobj) rfl)
  have hs1 := x1.size
  simp only [sz_alloc] at hs1
  clear f1 x1 D1 D2 D3 HX0 HSm
  (go_wp2_with (with_reducible refine wl_stopS 42 ?_); refine stop_store (w1.heap.size) (Rp.cs a1 A1 qs.length c1 (sameR r)) rfl rfl (Z1.out) (by kernel_rfl) rfl (by simp [Value.oneCell']) ?_)
  intro W3 e3 k3
  have x3 := chg_new (ext_alloc w1 Rp.zobj) k3 (Nat.le_refl _)
  have E3 := Lib.hid e3
  have F1 := Lib.hid (x3.box B1.out)
  have F2 := Lib.hid (x3.box B2.out)
  have F3 := Lib.hid (x3.box B3.out)
  have HF3 := Lib.hid (HF1.out.keep x3)
  have X3 := Lib.hid (Ext.trans X1.out x3)
  have hs3 := bx_lt e3
  clear e3 k3 x3 Z1 B1 B2 B3 HF1 X1
  (go_wp2_with (with_reducible refine wl_stop 9 ?_); refine stop_load (F1.out) rfl Tryz.underlying42 (by kernel_rfl) ?_; simp only [Act.put, List.setIfInBounds_toArray, List.set_cons_zero, List.set_cons_succ])
  (go_wp2_with (with_reducible refine wl_stop 10 ?_); refine stop_load (F2.out) rfl Tryz.underlying63 (by kernel_rfl) ?_; simp only [Act.put, List.setIfInBounds_toArray, List.set_cons_zero, List.set_cons_succ])
  go_wp2_with fail
  refine (HHr.out _ X3.out).mono ?_
  rintro e w4 ⟨rfl, x4⟩
  have G1 := Lib.hid (x4.box F1.out)
  have G2 := Lib.hid (x4.box F2.out)
  have G3 := Lib.hid (x4.box F3.out)
  have E4 := Lib.hid (x4.box E3.out)
  have HF4 := Lib.hid (HF3.out.keep x4)
  have X4 := Lib.hid (Ext.trans X3.out x4)
  have hs4 := x4.size
  clear x4 F1 F2 F3 E3 HF3 X3 HHr
  have d1 := bx_cell G1.out
  have d2 := bx_cell G2.out
  have z1 := bx_lt G1.out
  have z2 := bx_lt G2.out
  cases qh : (rpOk r && sHearB r m 8)
  · have HR' := Lib.hid (show hearO r m 8 (backO r m) = [] by rw [HQ.out, qh]; rfl)
    go_wp2_with (with_reducible refine wl_stop 18 ?_)
    clear d1 d2 z1 z2
    refine stop_load (E4.out) rfl Tryz.underlying42 (by kernel_rfl) ?_
    simp only [Act.put, List.setIfInBounds_toArray, List.set_cons_zero, List.set_cons_succ]
    have G3' := Lib.hid (Ext.box (ext_alloc w4 (.cells #[] 83)) G3.out)
    (go_wp2_with (with_reducible refine wl_stopS 42 ?_); refine stop_store ((w.heap.size + 1 + 1)) (Rp.cs a1 A1 qs.length c1 (sameR r)) rfl rfl (G3'.out) (by kernel_rfl) rfl (by simp [Value.oneCell']) ?_)
    intro W9 e9 k9
    have X9 := Lib.hid (chg_new (Ext.trans X4.out (ext_alloc w4 (.cells #[] 83))) k9 (by omega))
    have HE9 := Lib.hid e9
    have HF9 := Lib.hid ((HF4.out.keep (ext_alloc w4 (.cells #[] 83))).chg k9 (fun k hk => by rw [List.mem_singleton] at hk; simp only [sz_alloc]; omega))
    clear e9 k9
    go_wp2
    refine bodyPost_ret (results_box2 Tryz.results23 rfl rfl Tryz.underlying42 (by kernel_rfl) HE9.out) rfl ⟨_, rfl, ?_, X9.out⟩
    rw [HR'.out]
    exact ⟨a1, A1, c1, qs, _, _, [], rfl, HF9.out.rd, OsR.nil0 _ _, rfl, fun w' p cs hp hc => ⟨(HF9.out.boxed hp hc).rd, OsR.nil0 _ _⟩⟩
  · cases qm : (r.mode != 1)
    · have qm' : (r.mode == 1) = true := by rw [bne, Bool.not_eq_false'] at qm; exact qm
      have HR' := Lib.hid (show hearO r m 8 (backO r m) = [⟨m.frm, backM r m⟩] by rw [HQ.out, qh]; simp [backO, qm'])
      clear qm'
      have hq9 : w.heap.size + 1 + 1 < w4.heap.size := by omega
      have M1 := Lib.hid (fun W' (h : (relS (w.heap.size + 1 + 1) (.cells (Rp.cs a1 A1 qs.length c1 (sameR r)) 42) w4.heap.size hq9).rel w4 W') => cells_mid (cs := Rp.cs a1 A1 qs.length c1 (sameR r)) (relS_box E4.out (by omega) W' h) [] [] rfl rfl)
      have ML := Lib.hid (fun W' (h : (relS (w.heap.size + 1 + 1) (.cells (Rp.cs a1 A1 qs.length c1 (sameR r)) 42) w4.heap.size hq9).rel w4 W') => cells_mid (cs := Lg.cs a r.log) (relS_box G1.out (by omega) W' h) [.int .i64 r.me, .int .i64 r.of, .int .i64 r.mode, .int .i64 r.view, .int .i64 r.normal, .int .i64 r.commit] [.slice A ps.length c, .int .i64 r.cell, .int .i64 r.nonce] rfl rfl)
      go_wp2
      clear d1 d2 z1 z2
      (refine Rm.wp_region_mix' (R := relS (w.heap.size + 1 + 1) (.cells (Rp.cs a1 A1 qs.length c1 (sameR r)) 42) w4.heap.size hq9) (stored (w.heap.size + 1 + 1) (.cells (Rp.cs a1 A1 qs.length c1 (sameR r)) 42)) (fun _ _ _ _ _ hq => hq) 18 (by first | exact Nat.le_refl _ | omega | (simp; omega)) (by kernel_rfl) (by kernel_rfl) ?_; simp only [List.take_succ_cons, List.take_zero, List.drop_succ_cons, List.drop_zero])
      (refine Rm.wpMix_loadAgg (M1.out) rfl rfl rfl Tryz.underlying42 (by kernel_rfl) ?_; simp only [Act.put, List.setIfInBounds_toArray, List.set_cons_zero, List.set_cons_succ])
      (iterate 1 (refine Rm.wpMix_plain rfl rfl ?_; go_big_quiet_step (fail); refine wpQuiet_nil ?_))
      (refine Rm.wpMix_load1 (fun W' h => show W'.cell? _ = some (.int .i64 m.frm) from bx_cell (relS_box G2.out (by omega) W' h) 1) rfl rfl rfl Tryz.underlying3 rfl ?_; simp only [Act.put, List.setIfInBounds_toArray, List.set_cons_zero, List.set_cons_succ])
      (iterate 1 (refine Rm.wpMix_plain rfl rfl ?_; go_big_quiet_step (fail); refine wpQuiet_nil ?_))
      (refine Rm.wpMix_load1 (fun W' h => show W'.cell? _ = some (.int .i64 r.me) from bx_cell (relS_box G1.out (by omega) W' h) 0) rfl rfl rfl Tryz.underlying3 rfl ?_; simp only [Act.put, List.setIfInBounds_toArray, List.set_cons_zero, List.set_cons_succ])
      (iterate 1 (refine Rm.wpMix_plain rfl rfl ?_; go_big_quiet_step (fail); refine wpQuiet_nil ?_))
      (refine Rm.wpMix_load1 (fun W' h => show W'.cell? _ = some (.int .i64 r.view) from bx_cell (relS_box G1.out (by omega) W' h) 3) rfl rfl rfl Tryz.underlying3 rfl ?_; simp only [Act.put, List.setIfInBounds_toArray, List.set_cons_zero, List.set_cons_succ])
      (iterate 1 (refine Rm.wpMix_plain rfl rfl ?_; go_big_quiet_step (fail); refine wpQuiet_nil ?_))
      (refine Rm.wpMix_load1 (fun W' h => show W'.cell? _ = some (.int .i64 m.nonce) from bx_cell (relS_box G2.out (by omega) W' h) 6) rfl rfl rfl Tryz.underlying3 rfl ?_; simp only [Act.put, List.setIfInBounds_toArray, List.set_cons_zero, List.set_cons_succ])
      (iterate 1 (refine Rm.wpMix_plain rfl rfl ?_; go_big_quiet_step (fail); refine wpQuiet_nil ?_))
      (refine Rm.wpMix_load1 (fun W' h => show W'.cell? _ = some (.int .i64 r.commit) from bx_cell (relS_box G1.out (by omega) W' h) 5) rfl rfl rfl Tryz.underlying3 rfl ?_; simp only [Act.put, List.setIfInBounds_toArray, List.set_cons_zero, List.set_cons_succ])
      (iterate 1 (refine Rm.wpMix_plain rfl rfl ?_; go_big_quiet_step (fail); refine wpQuiet_nil ?_))
      (refine Rm.wpMix_loadAgg (ML.out) rfl rfl rfl Tryz.underlying39 (by kernel_rfl) ?_; simp only [Act.put, List.setIfInBounds_toArray, List.set_cons_zero, List.set_cons_succ])
      refine Rm.wpMix_call (LgV8 w4.heap.size r.log) rfl rfl rfl (enters Tryz.func58 (by kernel_rfl) rfl) (LgV8.mono _ _ _ _ _) (fun W' hW' => (c_l3Copy a r.log hs W' (HR.out.l.keep (ext_chg X4.out hW'.1 (fun g hg => by rw [List.mem_singleton] at hg; omega)))).mono fun e w' ⟨a4, he, hf, hx⟩ => ⟨_, he, ⟨a4, rfl, hf.less hW'.1.size⟩, Rm.Rel.ext _ _ _ hx⟩) rfl (fun v6 hv6 => ?_)
      obtain ⟨_, _, a4, rfl, _⟩ := hv6
      simp only [Act.put, List.setIfInBounds_toArray, List.set_cons_zero, List.set_cons_succ]
      (iterate 2 (refine Rm.wpMix_plain rfl rfl ?_; go_big_quiet_step (fail); refine wpQuiet_nil ?_))
      (refine Rm.wpMix_alloc (.cells (OtE.cells a4 ⟨m.frm, backM r m⟩) 83) rfl (fun W => by kernel_rfl) ?_; intro p1 hp1 hps1 hpi1; simp only [layVal, Act.put, List.setIfInBounds_toArray, List.set_cons_zero, List.set_cons_succ])
      refine wpMix_st G3.out rfl rfl rfl rfl rfl (by kernel_rfl) rfl (by simp [Value.oneCell']) ?_
      simp only [Act.put, List.setIfInBounds_toArray, List.set_cons_zero, List.set_cons_succ]
      refine Rm.wpMix_nil ?_
      rintro W9 ⟨⟨⟨h9, hv9⟩, hp9⟩, e9⟩
      have c9 := h9.1
      have HE9 := Lib.hid e9
      have HO9 := Lib.hid (show OsR W9 (some ⟨p1, 0, none⟩) 1 [(a4, (⟨m.frm, backM r m⟩ : Ot))] from ⟨Rd.one hp9 rfl, fun p hp => by rw [List.mem_singleton] at hp; subst hp; exact hv9.inv.rd⟩)
      have HX9 := Lib.hid (ext_chg X4.out c9 (fun g hg => by rw [List.mem_singleton] at hg; omega))
      have HF9 := Lib.hid (HF4.out.chg c9 (fun k hk => by rw [List.mem_singleton] at hk; simp only [sz_alloc]; omega))
      have HP9 := Lib.hid hp9
      have HL9 := Lib.hid hv9.inv
      clear c9 h9 e9 hv9 hp9 hp1 hps1 hpi1
      go_wp2
      refine bodyPost_ret (results_box2 Tryz.results23 rfl rfl Tryz.underlying42 (by kernel_rfl) HE9.out) rfl ⟨_, rfl, ?_, HX9.out⟩
      rw [HR'.out]
      exact ⟨a1, A1, c1, qs, _, _, [(a4, (⟨m.frm, backM r m⟩ : Ot))], rfl, HF9.out.rd, HO9.out, rfl, fun w' p cs hp hc => ⟨(HF9.out.boxed hp hc).rd, outs1_stable HP9.out HL9.out hp hc⟩⟩
    · have HR' := Lib.hid (show hearO r m 8 (backO r m) = [] by
        have : (r.mode == 1) = false := by rw [bne, Bool.not_eq_true'] at qm; exact qm
        rw [HQ.out, qh]; simp [backO, this])
      go_wp2_with (with_reducible refine wl_stop 18 ?_)
      clear d1 d2 z1 z2
      refine stop_load (E4.out) rfl Tryz.underlying42 (by kernel_rfl) ?_
      simp only [Act.put, List.setIfInBounds_toArray, List.set_cons_zero, List.set_cons_succ]
      have G3' := Lib.hid (Ext.box (ext_alloc w4 (.cells #[] 83)) G3.out)
      (go_wp2_with (with_reducible refine wl_stopS 42 ?_); refine stop_store ((w.heap.size + 1 + 1)) (Rp.cs a1 A1 qs.length c1 (sameR r)) rfl rfl (G3'.out) (by kernel_rfl) rfl (by simp [Value.oneCell']) ?_)
      intro W9 e9 k9
      have X9 := Lib.hid (chg_new (Ext.trans X4.out (ext_alloc w4 (.cells #[] 83))) k9 (by omega))
      have HE9 := Lib.hid e9
      have HF9 := Lib.hid ((HF4.out.keep (ext_alloc w4 (.cells #[] 83))).chg k9 (fun k hk => by rw [List.mem_singleton] at hk; simp only [sz_alloc]; omega))
      clear e9 k9
      go_wp2
      refine bodyPost_ret (results_box2 Tryz.results23 rfl rfl Tryz.underlying42 (by kernel_rfl) HE9.out) rfl ⟨_, rfl, ?_, X9.out⟩
      rw [HR'.out]
      exact ⟨a1, A1, c1, qs, _, _, [], rfl, HF9.out.rd, OsR.nil0 _ _, rfl, fun w' p cs hp hc => ⟨(HF9.out.boxed hp hc).rd, OsR.nil0 _ _⟩⟩

set_option maxRecDepth 100000 in
set_option maxHeartbeats 8000000 in
theorem c_sOnAskState (a : LAd) (A : Option Addr) (c : Nat) (ps : List VtE) (r : Rp) (am : LAd) (m : Mg) (w : World) (hr : RpR w a A c ps r) (hs : r.log.small) (hn : ps.length ≤ 1048576) (hv : LgS ps) (hm : LgR w am m.log) (hms : m.log.small) :
    Calls Tryz.prog 28 #[Rp.val a A ps.length c r, Mg.val am m] w fun e w' => ∃ v, e = .returned v ∧ RoT w' (hearR r) (hearO r m 10 (stateO r m)) v ∧ Ext w w' := by
  have X0 : Ext w (((w.alloc (Rp.obj a A ps.length c r)).alloc (Mg.obj am m)).alloc Rp.zobj) := ext_to (ext_to (ext_alloc _ _) _) _
  have HSm := Lib.hid (c_l6Same a A c ps r _ (hr.keep X0) hs hn hv)
  have HHr := Lib.hid (fun W (h : Ext w W) => c_l6Hears a A c ps r am m 10 W (hr.keep h) hs hn hv (hm.keep h) hms)
  have D1 := Lib.hid (hOld (o := Rp.zobj) (hOld (o := Mg.obj am m) (hNew (w := w) (o := Rp.obj a A ps.length c r) rfl)))
  have D2 := Lib.hid (hOld (o := Rp.zobj) (hNew (w := w.alloc (Rp.obj a A ps.length c r)) (o := Mg.obj am m) (k := w.heap.size + 1) (by simp)))
  have D3 := Lib.hid (hNew (w := (w.alloc (Rp.obj a A ps.length c r)).alloc (Mg.obj am m)) (o := Rp.zobj) (k := w.heap.size + 1 + 1) (by simp))
  have HX0 := Lib.hid X0
  have HR := Lib.hid hr
  have hheq : hearB r m 10 = sHearB r m 10 := hear_eq (by decide +kernel) (by decide +kernel) rfl
  have HQ := Lib.hid (show hearO r m 10 (stateO r m) = if (rpOk r && sHearB r m 10) = true then stateO r m else [] by unfold hearO; rw [hheq])
  clear X0 hr hv hm hheq
  go_enter Tryz.func28, Tryz.ntmps28
  (go_wp2_with (with_reducible refine wl_stop 7 ?_); refine stop_load (D1.out) rfl Tryz.underlying42 (by kernel_rfl) ?_; simp only [Act.put, List.setIfInBounds_toArray, List.set_cons_zero, List.set_cons_succ])
  go_wp2_with fail
  refine HSm.out.mono ?_
  rintro e w1 ⟨v1, rfl, ⟨a1, A1, c1, qs, rfl, f1⟩, x1⟩
  have HF1 := Lib.hid f1
  have B1 := Lib.hid (x1.box D1.out)
  have B2 := Lib.hid (x1.box D2.out)
  have B3 := Lib.hid (x1.box D3.out)
  have X1 := Lib.hid (Ext.trans HX0.out x1)
  have Z1 := Lib.hid (hNew (w := w1) (o := Rp.zobj) rfl)
  have hs1 := x1.size
  simp only [sz_alloc] at hs1
  clear f1 x1 D1 D2 D3 HX0 HSm
  (go_wp2_with (with_reducible refine wl_stopS 42 ?_); refine stop_store (w1.heap.size) (Rp.cs a1 A1 qs.length c1 (sameR r)) rfl rfl (Z1.out) (by kernel_rfl) rfl (by simp [Value.oneCell']) ?_)
  intro W3 e3 k3
  have x3 := chg_new (ext_alloc w1 Rp.zobj) k3 (Nat.le_refl _)
  have E3 := Lib.hid e3
  have F1 := Lib.hid (x3.box B1.out)
  have F2 := Lib.hid (x3.box B2.out)
  have F3 := Lib.hid (x3.box B3.out)
  have HF3 := Lib.hid (HF1.out.keep x3)
  have X3 := Lib.hid (Ext.trans X1.out x3)
  have hs3 := bx_lt e3
  clear e3 k3 x3 Z1 B1 B2 B3 HF1 X1
  (go_wp2_with (with_reducible refine wl_stop 9 ?_); refine stop_load (F1.out) rfl Tryz.underlying42 (by kernel_rfl) ?_; simp only [Act.put, List.setIfInBounds_toArray, List.set_cons_zero, List.set_cons_succ])
  (go_wp2_with (with_reducible refine wl_stop 10 ?_); refine stop_load (F2.out) rfl Tryz.underlying63 (by kernel_rfl) ?_; simp only [Act.put, List.setIfInBounds_toArray, List.set_cons_zero, List.set_cons_succ])
  go_wp2_with fail
  refine (HHr.out _ X3.out).mono ?_
  rintro e w4 ⟨rfl, x4⟩
  have G1 := Lib.hid (x4.box F1.out)
  have G2 := Lib.hid (x4.box F2.out)
  have G3 := Lib.hid (x4.box F3.out)
  have E4 := Lib.hid (x4.box E3.out)
  have HF4 := Lib.hid (HF3.out.keep x4)
  have X4 := Lib.hid (Ext.trans X3.out x4)
  have hs4 := x4.size
  clear x4 F1 F2 F3 E3 HF3 X3 HHr
  have d1 := bx_cell G1.out
  have d2 := bx_cell G2.out
  have z1 := bx_lt G1.out
  have z2 := bx_lt G2.out
  cases qh : (rpOk r && sHearB r m 10)
  · have HR' := Lib.hid (show hearO r m 10 (stateO r m) = [] by rw [HQ.out, qh]; rfl)
    go_wp2_with (with_reducible refine wl_stop 25 ?_)
    clear d1 d2 z1 z2
    refine stop_load (E4.out) rfl Tryz.underlying42 (by kernel_rfl) ?_
    simp only [Act.put, List.setIfInBounds_toArray, List.set_cons_zero, List.set_cons_succ]
    have G3' := Lib.hid (Ext.box (ext_alloc w4 (.cells #[] 83)) G3.out)
    (go_wp2_with (with_reducible refine wl_stopS 42 ?_); refine stop_store ((w.heap.size + 1 + 1)) (Rp.cs a1 A1 qs.length c1 (sameR r)) rfl rfl (G3'.out) (by kernel_rfl) rfl (by simp [Value.oneCell']) ?_)
    intro W9 e9 k9
    have X9 := Lib.hid (chg_new (Ext.trans X4.out (ext_alloc w4 (.cells #[] 83))) k9 (by omega))
    have HE9 := Lib.hid e9
    have HF9 := Lib.hid ((HF4.out.keep (ext_alloc w4 (.cells #[] 83))).chg k9 (fun k hk => by rw [List.mem_singleton] at hk; simp only [sz_alloc]; omega))
    clear e9 k9
    go_wp2
    refine bodyPost_ret (results_box2 Tryz.results28 rfl rfl Tryz.underlying42 (by kernel_rfl) HE9.out) rfl ⟨_, rfl, ?_, X9.out⟩
    rw [HR'.out]
    exact ⟨a1, A1, c1, qs, _, _, [], rfl, HF9.out.rd, OsR.nil0 _ _, rfl, fun w' p cs hp hc => ⟨(HF9.out.boxed hp hc).rd, OsR.nil0 _ _⟩⟩
  · cases qm : (r.mode != 1)
    · have qm' : (r.mode == 1) = true := by rw [bne, Bool.not_eq_false'] at qm; exact qm
      cases qv : (m.view != r.view)
      · have qv' : (m.view == r.view) = true := by rw [bne, Bool.not_eq_false'] at qv; exact qv
        have HR' := Lib.hid (show hearO r m 10 (stateO r m) = [⟨m.frm, stateM r⟩] by rw [HQ.out, qh]; simp [stateO, qm', qv'])
        clear qm' qv'
        have hq9 : w.heap.size + 1 + 1 < w4.heap.size := by omega
        have M1 := Lib.hid (fun W' (h : (relS (w.heap.size + 1 + 1) (.cells (Rp.cs a1 A1 qs.length c1 (sameR r)) 42) w4.heap.size hq9).rel w4 W') => cells_mid (cs := Rp.cs a1 A1 qs.length c1 (sameR r)) (relS_box E4.out (by omega) W' h) [] [] rfl rfl)
        have ML := Lib.hid (fun W' (h : (relS (w.heap.size + 1 + 1) (.cells (Rp.cs a1 A1 qs.length c1 (sameR r)) 42) w4.heap.size hq9).rel w4 W') => cells_mid (cs := Lg.cs a r.log) (relS_box G1.out (by omega) W' h) [.int .i64 r.me, .int .i64 r.of, .int .i64 r.mode, .int .i64 r.view, .int .i64 r.normal, .int .i64 r.commit] [.slice A ps.length c, .int .i64 r.cell, .int .i64 r.nonce] rfl rfl)
        go_wp2
        clear d1 d2 z1 z2
        (refine Rm.wp_region_mix' (R := relS (w.heap.size + 1 + 1) (.cells (Rp.cs a1 A1 qs.length c1 (sameR r)) 42) w4.heap.size hq9) (stored (w.heap.size + 1 + 1) (.cells (Rp.cs a1 A1 qs.length c1 (sameR r)) 42)) (fun _ _ _ _ _ hq => hq) 16 (by first | exact Nat.le_refl _ | omega | (simp; omega)) (by kernel_rfl) (by kernel_rfl) ?_; simp only [List.take_succ_cons, List.take_zero, List.drop_succ_cons, List.drop_zero])
        (refine Rm.wpMix_loadAgg (M1.out) rfl rfl rfl Tryz.underlying42 (by kernel_rfl) ?_; simp only [Act.put, List.setIfInBounds_toArray, List.set_cons_zero, List.set_cons_succ])
        (iterate 1 (refine Rm.wpMix_plain rfl rfl ?_; go_big_quiet_step (fail); refine wpQuiet_nil ?_))
        (refine Rm.wpMix_load1 (fun W' h => show W'.cell? _ = some (.int .i64 m.frm) from bx_cell (relS_box G2.out (by omega) W' h) 1) rfl rfl rfl Tryz.underlying3 rfl ?_; simp only [Act.put, List.setIfInBounds_toArray, List.set_cons_zero, List.set_cons_succ])
        (iterate 1 (refine Rm.wpMix_plain rfl rfl ?_; go_big_quiet_step (fail); refine wpQuiet_nil ?_))
        (refine Rm.wpMix_load1 (fun W' h => show W'.cell? _ = some (.int .i64 r.me) from bx_cell (relS_box G1.out (by omega) W' h) 0) rfl rfl rfl Tryz.underlying3 rfl ?_; simp only [Act.put, List.setIfInBounds_toArray, List.set_cons_zero, List.set_cons_succ])
        (iterate 1 (refine Rm.wpMix_plain rfl rfl ?_; go_big_quiet_step (fail); refine wpQuiet_nil ?_))
        (refine Rm.wpMix_load1 (fun W' h => show W'.cell? _ = some (.int .i64 r.view) from bx_cell (relS_box G1.out (by omega) W' h) 3) rfl rfl rfl Tryz.underlying3 rfl ?_; simp only [Act.put, List.setIfInBounds_toArray, List.set_cons_zero, List.set_cons_succ])
        (iterate 1 (refine Rm.wpMix_plain rfl rfl ?_; go_big_quiet_step (fail); refine wpQuiet_nil ?_))
        (refine Rm.wpMix_load1 (fun W' h => show W'.cell? _ = some (.int .i64 r.commit) from bx_cell (relS_box G1.out (by omega) W' h) 5) rfl rfl rfl Tryz.underlying3 rfl ?_; simp only [Act.put, List.setIfInBounds_toArray, List.set_cons_zero, List.set_cons_succ])
        (iterate 1 (refine Rm.wpMix_plain rfl rfl ?_; go_big_quiet_step (fail); refine wpQuiet_nil ?_))
        (refine Rm.wpMix_loadAgg (ML.out) rfl rfl rfl Tryz.underlying39 (by kernel_rfl) ?_; simp only [Act.put, List.setIfInBounds_toArray, List.set_cons_zero, List.set_cons_succ])
        refine Rm.wpMix_call (LgV8 w4.heap.size r.log) rfl rfl rfl (enters Tryz.func58 (by kernel_rfl) rfl) (LgV8.mono _ _ _ _ _) (fun W' hW' => (c_l3Copy a r.log hs W' (HR.out.l.keep (ext_chg X4.out hW'.1 (fun g hg => by rw [List.mem_singleton] at hg; omega)))).mono fun e w' ⟨a4, he, hf, hx⟩ => ⟨_, he, ⟨a4, rfl, hf.less hW'.1.size⟩, Rm.Rel.ext _ _ _ hx⟩) rfl (fun v6 hv6 => ?_)
        obtain ⟨_, _, a4, rfl, _⟩ := hv6
        simp only [Act.put, List.setIfInBounds_toArray, List.set_cons_zero, List.set_cons_succ]
        (iterate 2 (refine Rm.wpMix_plain rfl rfl ?_; go_big_quiet_step (fail); refine wpQuiet_nil ?_))
        (refine Rm.wpMix_alloc (.cells (OtE.cells a4 ⟨m.frm, stateM r⟩) 83) rfl (fun W => by kernel_rfl) ?_; intro p1 hp1 hps1 hpi1; simp only [layVal, Act.put, List.setIfInBounds_toArray, List.set_cons_zero, List.set_cons_succ])
        refine wpMix_st G3.out rfl rfl rfl rfl rfl (by kernel_rfl) rfl (by simp [Value.oneCell']) ?_
        simp only [Act.put, List.setIfInBounds_toArray, List.set_cons_zero, List.set_cons_succ]
        refine Rm.wpMix_nil ?_
        rintro W9 ⟨⟨⟨h9, hv9⟩, hp9⟩, e9⟩
        have c9 := h9.1
        have HE9 := Lib.hid e9
        have HO9 := Lib.hid (show OsR W9 (some ⟨p1, 0, none⟩) 1 [(a4, (⟨m.frm, stateM r⟩ : Ot))] from ⟨Rd.one hp9 rfl, fun p hp => by rw [List.mem_singleton] at hp; subst hp; exact hv9.inv.rd⟩)
        have HX9 := Lib.hid (ext_chg X4.out c9 (fun g hg => by rw [List.mem_singleton] at hg; omega))
        have HF9 := Lib.hid (HF4.out.chg c9 (fun k hk => by rw [List.mem_singleton] at hk; simp only [sz_alloc]; omega))
        have HP9 := Lib.hid hp9
        have HL9 := Lib.hid hv9.inv
        clear c9 h9 e9 hv9 hp9 hp1 hps1 hpi1
        go_wp2
        refine bodyPost_ret (results_box2 Tryz.results28 rfl rfl Tryz.underlying42 (by kernel_rfl) HE9.out) rfl ⟨_, rfl, ?_, HX9.out⟩
        rw [HR'.out]
        exact ⟨a1, A1, c1, qs, _, _, [(a4, (⟨m.frm, stateM r⟩ : Ot))], rfl, HF9.out.rd, HO9.out, rfl, fun w' p cs hp hc => ⟨(HF9.out.boxed hp hc).rd, outs1_stable HP9.out HL9.out hp hc⟩⟩
      · have HR' := Lib.hid (show hearO r m 10 (stateO r m) = [] by
          have : (m.view == r.view) = false := by rw [bne, Bool.not_eq_true'] at qv; exact qv
          rw [HQ.out, qh]; simp [stateO, this])
        clear qm'
        go_wp2_with (with_reducible refine wl_stop 25 ?_)
        clear d1 d2 z1 z2
        refine stop_load (E4.out) rfl Tryz.underlying42 (by kernel_rfl) ?_
        simp only [Act.put, List.setIfInBounds_toArray, List.set_cons_zero, List.set_cons_succ]
        have G3' := Lib.hid (Ext.box (ext_alloc w4 (.cells #[] 83)) G3.out)
        (go_wp2_with (with_reducible refine wl_stopS 42 ?_); refine stop_store ((w.heap.size + 1 + 1)) (Rp.cs a1 A1 qs.length c1 (sameR r)) rfl rfl (G3'.out) (by kernel_rfl) rfl (by simp [Value.oneCell']) ?_)
        intro W9 e9 k9
        have X9 := Lib.hid (chg_new (Ext.trans X4.out (ext_alloc w4 (.cells #[] 83))) k9 (by omega))
        have HE9 := Lib.hid e9
        have HF9 := Lib.hid ((HF4.out.keep (ext_alloc w4 (.cells #[] 83))).chg k9 (fun k hk => by rw [List.mem_singleton] at hk; simp only [sz_alloc]; omega))
        clear e9 k9
        go_wp2
        refine bodyPost_ret (results_box2 Tryz.results28 rfl rfl Tryz.underlying42 (by kernel_rfl) HE9.out) rfl ⟨_, rfl, ?_, X9.out⟩
        rw [HR'.out]
        exact ⟨a1, A1, c1, qs, _, _, [], rfl, HF9.out.rd, OsR.nil0 _ _, rfl, fun w' p cs hp hc => ⟨(HF9.out.boxed hp hc).rd, OsR.nil0 _ _⟩⟩
    · have HR' := Lib.hid (show hearO r m 10 (stateO r m) = [] by
        have : (r.mode == 1) = false := by rw [bne, Bool.not_eq_true'] at qm; exact qm
        rw [HQ.out, qh]; simp [stateO, this])
      go_wp2_with (with_reducible refine wl_stop 25 ?_)
      clear d1 d2 z1 z2
      refine stop_load (E4.out) rfl Tryz.underlying42 (by kernel_rfl) ?_
      simp only [Act.put, List.setIfInBounds_toArray, List.set_cons_zero, List.set_cons_succ]
      have G3' := Lib.hid (Ext.box (ext_alloc w4 (.cells #[] 83)) G3.out)
      (go_wp2_with (with_reducible refine wl_stopS 42 ?_); refine stop_store ((w.heap.size + 1 + 1)) (Rp.cs a1 A1 qs.length c1 (sameR r)) rfl rfl (G3'.out) (by kernel_rfl) rfl (by simp [Value.oneCell']) ?_)
      intro W9 e9 k9
      have X9 := Lib.hid (chg_new (Ext.trans X4.out (ext_alloc w4 (.cells #[] 83))) k9 (by omega))
      have HE9 := Lib.hid e9
      have HF9 := Lib.hid ((HF4.out.keep (ext_alloc w4 (.cells #[] 83))).chg k9 (fun k hk => by rw [List.mem_singleton] at hk; simp only [sz_alloc]; omega))
      clear e9 k9
      go_wp2
      refine bodyPost_ret (results_box2 Tryz.results28 rfl rfl Tryz.underlying42 (by kernel_rfl) HE9.out) rfl ⟨_, rfl, ?_, X9.out⟩
      rw [HR'.out]
      exact ⟨a1, A1, c1, qs, _, _, [], rfl, HF9.out.rd, OsR.nil0 _ _, rfl, fun w' p cs hp hc => ⟨(HF9.out.boxed hp hc).rd, OsR.nil0 _ _⟩⟩
end Go.Proofs.YtmpjokdidomafaaGreat

/- Helpers for laws on a replica and a message. -/
namespace Go.Proofs.YtmpjokdidomafaaGreat
open Go.ChangeShapes Go.WideShapes Go.ChangeAt Go.RowKit Go.Sort
set_option linter.unusedVariables false
set_option linter.unusedSimpArgs false

set_option maxHeartbeats 1000000 in
theorem c_markMsg (a : LAd) (m : Mg) (B T : Nat) (k : Int) (w : World) (h : LgO w B T a m.log) (h0 : 0 ≤ k) (h1 : k ≤ 1000000000) (hs : m.log.small) :
    Calls Tryz.prog 27 #[Mg.val a m, .int .i64 k] w fun e w' => e = .returned (.int .i64 (k + m.log.mN)) ∧ Chg w w' a.fp := by
  have X0 := ext_alloc w (Mg.obj a m)
  have HL := Lib.hid (h.kept X0)
  have HS := Lib.hid hs
  clear h hs
  go_enter Tryz.func27, Tryz.ntmps27
  go_wp2_with fail
  refine (c_markLog a m.log B T k _ HL.out h0 h1 HS.out).mono ?_
  rintro e w1 ⟨rfl, o1, c1⟩
  have C1 := Lib.hid c1
  clear o1 c1
  go_wp2
  go_ret
  exact ⟨rfl, (chg_ext _ X0).trans C1.out⟩
/-- a message's value that reads as m -/
def MgV (m : Mg) (v : Value) (w : World) : Prop := ∃ a, v = Mg.val a m ∧ LgR w a m.log
theorem MgV.mono (m : Mg) : Mono (MgV m) := fun v w w' ⟨a, h, hr⟩ hx => ⟨a, h, hr.keep hx⟩
theorem c_eqMsgNew (b : LAd) (v : Value) (m : Mg) (hs : m.log.small) (W : World) (hb : LgR W b m.log) (hv : MgV m v W) : Calls Tryz.prog 26 #[Mg.val b m, v] W (fun e w' => e = .returned (.bool true) ∧ Ext W w') := by
  obtain ⟨c, rfl, hc⟩ := hv
  exact c_eqMsg_same b c m hs W hb hc
/-- a replica and what is sent as a value -/
def RoV (R : Rp) (O : List Ot) (v : Value) (w : World) : Prop := RoT w R O v
theorem RoV.mono (R : Rp) (O : List Ot) : Mono (RoV R O) := fun v w w' ⟨a, A, c, qs, Ao, co, os, h1, h2, h3, h4, h5⟩ hx => ⟨a, A, c, qs, Ao, co, os, h1, h2.keep hx, h3.keep hx, h4, fun w2 p cs hp hc => by
  by_cases hlt : p < w.heap.size
  · exact h5 w2 p cs ((hx.block p hlt).symm.trans hp) ((chg_ext [p] hx).trans hc)
  · have hx2 : Ext w w2 := ext_chg hx hc (fun g hg => by rw [List.mem_singleton] at hg; omega)
    exact ⟨h2.keep hx2, h3.keep hx2⟩⟩
theorem RoV.inv {R : Rp} {O : List Ot} {a : LAd} {A : Option Addr} {n c : Nat} {Ao : Option Addr} {k co : Nat} {W : World} (h : RoV R O (.tuple #[Rp.val a A n c R, .slice Ao k co]) W) : ∃ qs os, List.length qs = n ∧ List.length os = k ∧ List.map Prod.snd os = O ∧
    ∀ (w' : World) (p : Nat) (cs : Array Value), W.heap[p]? = some (.cells cs 42 (0, 0)) → Chg W w' [p] → RpR w' a A c qs R ∧ OsR w' Ao co os := by
  obtain ⟨b, A', c', qs, Ao', co', os, he, h1, h2, h3, h4⟩ := h
  obtain ⟨a1, a2, a3, a4, a5, a6⟩ := a
  obtain ⟨b1, b2, b3, b4, b5, b6⟩ := b
  simp only [Value.tuple.injEq, Array.mk.injEq, List.cons.injEq, Value.agg.injEq, Value.slice.injEq, true_and, and_true] at he
  obtain ⟨⟨⟨rfl, rfl⟩, ⟨rfl, rfl⟩, ⟨rfl, rfl⟩, rfl, rfl, rfl⟩, rfl, rfl, rfl⟩ := he
  exact ⟨qs, os, rfl, rfl, h3, h4⟩
theorem RoX.rov {w : World} {B : Nat} {R : Rp} {O : List Ot} {v : Value} (h : RoX w B R O v) : RoV R O v w := by
  obtain ⟨a, A, c, qs, Ao, co, os, M, h1, h2, h3, h4, _⟩ := h
  refine ⟨a, A, c, qs, Ao, co, os, h1, h2.rd, h3.rd, h4, fun w' p cs hp hc => ⟨?_, ?_⟩⟩
  · refine RpO.rd ⟨h2.l.chg hc (fun k hk hm => ?_), h2.v.chg hc (fun k hk hm => ?_), h2.e, h2.d⟩ (B := B) (T := M)
    · rw [List.mem_singleton] at hm; subst hm; exact lg_box_apart hp h2.l (by decide) (by decide) (by decide) hk
    · rw [List.mem_singleton] at hm; subst hm
      rcases List.mem_append.1 hk with hk | hk
      · exact box_apart hp h2.v.r (by decide) hk
      · obtain ⟨q, hq, hk⟩ := List.mem_flatMap.1 hk
        exact lg_box_apart hp (h2.v.l q hq) (by decide) (by decide) (by decide) hk
  · refine (h3.chg hc (fun k hk hm => ?_)).rd
    rw [List.mem_singleton] at hm; subst hm
    rcases List.mem_append.1 hk with hk | hk
    · exact box_apart hp h3.r (by decide) hk
    · obtain ⟨q, hq, hk⟩ := List.mem_flatMap.1 hk
      exact lg_box_apart hp (h3.l q hq) (by decide) (by decide) (by decide) hk
theorem hear_small {ps : List VtE} {r : Rp} {m : Mg} {kind : Int} {O : List Ot} (he : ps.map Prod.snd = r.votes) (hn : rpN ps r ≤ 1048576) (hlog : r.log.small) (hvs : LgS ps) (h3 : ∀ o ∈ O, o.msg.log.small) (h4 : O.length ≤ 10) : RoS ps (hearR r) (hearO r m kind O) := by
  unfold hearR hearO sameR
  cases q : rpOk r
  · exact RoS.nil rfl rfl rfl
  · simp only [if_true, Bool.true_and]
    cases hearB r m kind
    · exact RoS.same he hn hlog hvs rfl rfl (by simp) (by simp)
    · exact RoS.same he hn hlog hvs rfl rfl (by simpa using h3) (by simpa using h4)
theorem back_small {r : Rp} {m : Mg} (h : r.log.small) : (∀ o ∈ backO r m, o.msg.log.small) ∧ (backO r m).length ≤ 10 := by
  unfold backO
  split
  · exact ⟨fun o ho => by rw [List.mem_singleton] at ho; subst ho; exact h, by simp⟩
  · simp
theorem state_small {r : Rp} {m : Mg} (h : r.log.small) : (∀ o ∈ stateO r m, o.msg.log.small) ∧ (stateO r m).length ≤ 10 := by
  unfold stateO
  split
  · exact ⟨fun o ho => by rw [List.mem_singleton] at ho; subst ho; exact h, by simp⟩
  · simp
end Go.Proofs.YtmpjokdidomafaaGreat
