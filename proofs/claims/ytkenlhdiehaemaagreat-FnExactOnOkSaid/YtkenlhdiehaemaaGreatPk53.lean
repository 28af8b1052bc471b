/- FnExactOnOk: for every input the law returns true. No condition. -/
import Derived.Test.YtkenlhdiehaemaaGreatPk50
import Derived.Test.YtkenlhdiehaemaaGreatPk52
import Derived.Test.YtkenlhdiehaemaaGreatPk44
import Derived.Test.YtkenlhdiehaemaaGreatPk33
namespace Go.Proofs.YtkenlhdiehaemaaGreat.l48
open Go.ChangeShapes Go.WideShapes Go.ChangeAt Go.RowKit Go.Joins Go.Deep Go.Sort
set_option linter.unusedVariables false
set_option maxRecDepth 100000 in
set_option maxHeartbeats 8000000 in
theorem walk (a : LAd) (A : Option Addr) (c : Nat) (ps : List VtE) (r : Rp) (am : LAd) (m : Mg) (w : World) (hr : RpR w a A c ps r) (hm : LgR w am m.log) : Calls Tryz.prog 11 #[Rp.val a A ps.length c r, Mg.val am m] w fun e w' => e = .returned (.bool true) ∧ Ext w w' := by
 have X0 : Ext w ((w.alloc (Rp.objL a A ps.length c r)).alloc (Mg.objL am m)) := ext_to (ext_alloc _ _) _
 have hcon := c_szReplica a A c ps r 1048576 (by omega) (by omega) _ (hr.keep X0)
 have D0 := Hd (hOld (o := Mg.objL am m) (hNew (w := w) (o := Rp.objL a A ps.length c r) rfl))
 have DM0 := Hd (hNew (w := w.alloc (Rp.objL a A ps.length c r)) (o := Mg.objL am m) (k := w.heap.size + 1) (by simp))
 have HX0 := Hd X0
 by_cases hn : rpN ps r ≤ 1048576
 ·rw [szV_le (by omega)] at hcon
  have hg0 : decide ((1048576 : Int) - ((rpN ps r : Nat) : Int) < 0) = false := by simp; omega
  have hlog : r.log.small := lgN_small (n := rpN ps r) (by unfold rpN; omega) hn
  have hlen : ps.length ≤ 1048576 := by unfold rpN at hn; omega
  have hvs : LgS ps := vsN_small ps (rpN ps r) (by unfold rpN; omega) hn
  have HC := Hd hcon
  have HZm := Hd (fun W (h : Ext w W) => c_szMsg am m (1048576 - ((rpN ps r : Nat) : Int)) (by omega) (by omega) W (hm.keep h))
  clear hcon X0
  by_cases hnm : ((lgN m.log : Nat) : Int) ≤ 1048576 - ((rpN ps r : Nat) : Int)
  ·have hZ := HZm.out
   rw [szV_le hnm] at hZ
   have HZ := Hd hZ
   obtain ⟨left, hleft⟩ : ∃ left, (1048576 - ((rpN ps r : Nat) : Int)) - ((lgN m.log : Nat) : Int) = left := ⟨_, rfl⟩
   have hg6 : decide (left < 0) = false := by simp; omega
   rw [hleft] at HZ
   have hms : m.log.small := lgN_small (n := 1048576) (by omega) (Nat.le_refl _)
   have hRS := hear_small2 (m := m) (kind := 3) (R2 := okR r m) (O := okO r m) hr.e hn hlog hvs (fun q1 q2 => ok_small hr.e hn hlog hvs q1)
   obtain ⟨R, hR⟩ : ∃ R, hearR2 r m 3 (okR r m) = R := ⟨_, rfl⟩
   obtain ⟨O, hO⟩ : ∃ O, hearO r m 3 (okO r m) = O := ⟨_, rfl⟩
   rw [hR, hO] at hRS
   have HRS := Hd hRS
   have HS := Hd (show ∀ (v1 v2 : Value) (W : World), RpV ps.length r v1 W → MgV m v2 W → Calls Tryz.prog 43 #[v1, v2] W fun e w' => ∃ v, e = .returned v ∧ RoV R O v w' ∧ Ext W w' from fun v1 v2 W h1 h2 => by
    obtain ⟨a, g, qs, rfl, hl, h⟩ := h1
    obtain ⟨b, rfl, hb⟩ := h2
    have := c_sOnOk a (some ⟨g, 0, none⟩) ps.length qs r b m W h hlog (by omega) (LgS.congr (hr.e.trans h.e.symm) hvs) hb hms
    rw [hl, hR, hO] at this
    exact this)
   have HI := Hd (show ∀ (a : LAd) (g : Nat) (qs : List VtE) (b : LAd) (W : World), qs.length = ps.length → RpR W a (some ⟨g, 0, none⟩) ps.length qs r → LgR W b m.log → Calls Tryz.prog 44 #[Rp.val a (some ⟨g, 0, none⟩) ps.length ps.length r, Mg.val b m] W fun e w' => ∃ v, e = .returned v ∧ RoY w' W.heap.size R O v ∧ Ext W w' from fun a g qs b W hl h hb => by
    have := c_iOnOk a (some ⟨g, 0, none⟩) ps.length qs r b m W h hlog (by omega) (LgS.congr (hr.e.trans h.e.symm) hvs) hb hms
    rw [hl, hR, hO] at this
    exact this)
   have HIv := Hd (show ∀ (v1 v2 : Value) (W : World), RpV ps.length r v1 W → MgV m v2 W → Calls Tryz.prog 44 #[v1, v2] W fun e w' => ∃ v, e = .returned v ∧ RoV R O v w' ∧ Ext W w' from fun v1 v2 W h1 h2 => by
    obtain ⟨a, g, qs, rfl, hl, h⟩ := h1
    obtain ⟨b, rfl, hb⟩ := h2
    exact (HI.out a g qs b W hl h hb).mono fun e w' ⟨v, he, hv, hx⟩ => ⟨v, he, hv.rov, hx⟩)
   have HT := Hd (show ∀ W, Ext w W → Calls Tryz.prog 14 #[Rp.val a A ps.length c r] W fun e w' => ∃ (a' : LAd) (g : Nat) (qs : List VtE), e = .returned (Rp.val a' (some ⟨g, 0, none⟩) ps.length ps.length r) ∧ qs.length = ps.length ∧ RpO w' W.heap.size w'.heap.size a' (some ⟨g, 0, none⟩) ps.length qs r ∧ Ext W w' from fun W h => c_toReplica a A c ps r W (hr.keep h) hlog hlen hvs)
   have HTv := Hd (show ∀ W, Ext w W → Calls Tryz.prog 14 #[Rp.val a A ps.length c r] W fun e w' => ∃ v, e = .returned v ∧ RpV ps.length r v w' ∧ Ext W w' from fun W h => (HT.out W h).mono fun e w' ⟨a', g, qs, he, hl, ho, hx⟩ => ⟨_, he, ⟨a', g, qs, rfl, hl, ho.rd⟩, hx⟩)
   have HTm := Hd (show ∀ W, Ext w W → Calls Tryz.prog 23 #[Mg.val am m] W fun e w' => ∃ a' : LAd, e = .returned (Mg.val a' m) ∧ LgO w' W.heap.size w'.heap.size a' m.log ∧ Ext W w' from fun W h => c_toMsg am m W (hm.keep h) hms)
   have HTmv := Hd (show ∀ W, Ext w W → Calls Tryz.prog 23 #[Mg.val am m] W fun e w' => ∃ v, e = .returned v ∧ MgV m v w' ∧ Ext W w' from fun W h => (HTm.out W h).mono fun e w' ⟨a', he, ho, hx⟩ => ⟨_, he, ⟨a', rfl, ho.rd⟩, hx⟩)
   have HK := Hd (show ∀ qs : List VtE, qs.map Prod.snd = r.votes → rpK 1 qs r ≤ 20000000 from fun qs h => rpK_less (hr.e.trans h.symm) hn)
   have HVS := Hd (show ∀ qs : List VtE, qs.map Prod.snd = r.votes → LgS qs from fun qs h => LgS.congr (hr.e.trans h.symm) hvs)
   have HLog := Hd hlog
   have HMs := Hd hms
   have hmm0 := Lg.mN_pos m.log
   have hmm1 := Lg.mN_small m.log hms
   clear hR hO hRS hlog hvs hr hms hm hleft hnm HZm hZ
   go_enter Tryz.func11, Tryz.ntmps11
   (go_wp2_with (with_reducible refine wl_stop 17 ?_); refine stop_load (D0.out) rfl Tryz.underlying31 (by kernel_rfl) ?_; simp only [Act.put, Sa, Sz, Ss])
   go_wp2_with fail
   refine HC.out.mono ?_
   rintro e w1' ⟨rfl, y1'⟩
   have DM1' := Hd (y1'.box DM0.out)
   have D1' := Hd (y1'.box D0.out)
   have X1' := Hd (Ext.trans HX0.out y1')
   have s1' := y1'.size
   simp only [sz_alloc] at s1'
   clear HC y1' D0 DM0 HX0
   (go_wp2_with (with_reducible refine wl_stop 22 ?_); refine stop_load (DM1'.out) rfl Tryz.underlying53 (by kernel_rfl) ?_; simp only [Act.put, Sa, Sz, Ss])
   go_wp2_with fail
   refine (HZ.out _ X1'.out).mono ?_
   rintro e w1 ⟨rfl, y1⟩
   have D1 := Hd (y1.box D1'.out)
   have DM1 := Hd (y1.box DM1'.out)
   have X1 := Hd (Ext.trans X1'.out y1)
   have s1 := y1.size
   clear HZ y1 D1' DM1' X1'
   go_wp2
   (refine wp_region_mixb (fun _ _ _ _ _ hq => hq) 9 (by kernel_rfl) (by kernel_rfl) (fun hg => ?_); simp only [headOps, Tc, Tz, List.filter_cons, List.filter_nil, isAlloc, Bool.not_true, Bool.not_false, Bf, if_true, if_false, List.cons_append, List.nil_append, Dc, Dz])
   (refine wpMix_load (D1.out) rfl rfl rfl Tryz.underlying31 (by kernel_rfl) ?_; simp only [Act.put, Sa, Sz, Ss])
   refine wpMix_call (RpV ps.length r) rfl rfl rfl (enters Tryz.func14 (by kernel_rfl) rfl) (RpV.mono _ _) (fun W hW => HTv.out W (Ext.trans X1.out hW)) rfl (fun v29 hv29 => ?_)
   simp only [Act.put, Sa, Sz, Ss]
   (refine wpMix_load (DM1.out) rfl rfl rfl Tryz.underlying53 (by kernel_rfl) ?_; simp only [Act.put, Sa, Sz, Ss])
   refine wpMix_call (MgV m) rfl rfl rfl (enters Tryz.func23 (by kernel_rfl) rfl) (MgV.mono _) (fun W hW => HTmv.out W (Ext.trans X1.out hW.1)) rfl (fun v31 hv31 => ?_)
   simp only [Act.put, Sa, Sz, Ss]
   refine wpMix_call (RoV R O) rfl rfl rfl (enters Tryz.func43 (by kernel_rfl) rfl) (RoV.mono _ _) (fun W hW => HS.out v29 v31 W hW.1.2 hW.2) rfl (fun v32 hv32 => ?_)
   obtain ⟨_, _, a3, A3, c3, qs0, Ao3, co3, os0, rfl, _⟩ := hv32
   simp only [Act.put, Sa, Sz, Ss]
   (repeat (first | (refine wpMix_plain rfl rfl ?_; go_big_quiet_step (fail); refine wpQuiet_nil ?_) | (refine wpMix_skip rfl rfl ?_; simp only [Act.put, Sa, Sz, Ss])))
   (refine wpMix_alloc (Rp.zobj) rfl (fun W => by kernel_rfl) ?_; intro p3 hp3 hps3 hpi3; simp only [layVal, Act.put, Sa, Sz, Ss])
   refine wpMix_nil ?_
   rintro w3 ⟨⟨⟨⟨x3, _⟩, _⟩, ro3⟩, z3⟩
   have x3' : Ext w1 w3 := x3
   obtain ⟨qs3, os3, hql3, hol3, hm3, st3⟩ := ro3.inv
   have Z3 := Hd z3
   have ST3 := Hd st3
   have HM3 := Hd hm3
   have D3 := Hd (x3'.box D1.out)
   have DM3 := Hd (x3'.box DM1.out)
   have X3 := Hd (Ext.trans X1.out x3')
   have s3 := x3'.size
   rw [← hql3, ← hol3]
   clear hm3 st3 x3 x3' ro3 z3 hv29 hv31 D1 DM1 X1 HS hps3 hpi3 hql3 hol3
   (go_wp2_with (with_reducible refine wl_stopS 43 ?_); refine stop_store (p3) (Rp.cs a3 A3 qs3.length c3 R) rfl rfl (Z3.out) (by kernel_rfl) rfl (by simp [Value.oneCell']) ?_)
   intro W3 e3 k3
   have hst := ST3.out W3 p3 _ Z3.out k3
   have E3 := Hd e3
   have F3 := Hd hst.1
   have FO3 := Hd hst.2
   have G1 := Hd (box_chg D3.out k3 (by omega))
   have G2 := Hd (box_chg DM3.out k3 (by omega))
   have Y3 := Hd (ext_chg X3.out k3 (fun g hg => by rw [Mi] at hg; omega))
   have s3' := bx_lt e3
   clear e3 k3 hst Z3 ST3 D3 DM3 X3
   (go_wp2_with (with_reducible refine wl_stop 35 ?_); refine stop_load (G1.out) rfl Tryz.underlying31 (by kernel_rfl) ?_; simp only [Act.put, Sa, Sz, Ss])
   go_wp2_with fail
   refine (HT.out _ Y3.out).mono ?_
   rintro e w4 ⟨a4, g4, qs4, rfl, l4, o4, x4⟩
   have Z4 := Hd (hNew (w := w4) (o := Rp.zobj) rfl)
   have hO4 := Hd o4
   have L4 := Hd l4
   have s4 := x4.size
   have hv4 := Hd (HVS.out qs4 o4.e)
   have hk4 := HK.out qs4 o4.e
   have hQ4 := Hd x4
   clear o4 l4 x4 HK HVS
   (go_wp2_with (with_reducible refine wl_stopS 43 ?_); refine stop_store (w4.heap.size) (Rp.cs a4 (some ⟨g4, 0, none⟩) ps.length ps.length r) rfl rfl (Z4.out) (by kernel_rfl) rfl (by simp [Value.oneCell']) ?_)
   intro W4 e4 k4
   have x4 := chg_new (ext_alloc w4 Rp.zobj) k4 (Nat.le_refl _)
   have E4 := Hd e4
   have O4 := Hd (hO4.out.kept x4)
   have Q4 := Hd (Ext.trans hQ4.out x4)
   have hG2 := Hd (Q4.out.box G2.out)
   have s4' := bx_lt e4
   clear e4 k4 x4 Z4 hO4 hQ4
   (go_wp2_with (with_reducible refine wl_stop 37 ?_); refine stop_load (hG2.out) rfl Tryz.underlying53 (by kernel_rfl) ?_; simp only [Act.put, Sa, Sz, Ss])
   go_wp2_with fail
   refine (HTm.out _ (Ext.trans Y3.out Q4.out)).mono ?_
   rintro e v4 ⟨am4, rfl, om4, y4⟩
   have Zm := Hd (hNew (w := v4) (o := Mg.zobj) rfl)
   have hOm := Hd om4
   have sm := y4.size
   have hQm := Hd y4
   clear om4 y4 hG2
   (go_wp2_with (with_reducible refine wl_stopS 60 ?_); refine stop_store (v4.heap.size) (Mg.cs am4 m) rfl rfl (Zm.out) (by kernel_rfl) rfl (by simp [Value.oneCell']) ?_)
   intro V4 em km
   have xm := chg_new (ext_alloc v4 Mg.zobj) km (Nat.le_refl _)
   have EM := Hd em
   have OM := Hd (hOm.out.kept xm)
   have Qm := Hd (Ext.trans hQm.out xm)
   have hE4 := Hd (Qm.out.box E4.out)
   have hO4 := Hd (O4.out.kept Qm.out)
   have sm' := bx_lt em
   clear em km xm Zm hOm hQm
   (go_wp2_with (with_reducible refine wl_stop 40 ?_); refine stop_load (hE4.out) rfl Tryz.underlying43 (by kernel_rfl) ?_; simp only [Act.put, Sa, Sz, Ss])
   (go_wp2_with (with_reducible refine wl_stop 41 ?_); refine stop_load (EM.out) rfl Tryz.underlying60 (by kernel_rfl) ?_; simp only [Act.put, Sa, Sz, Ss])
   go_wp2_with fail
   refine (HI.out a4 g4 qs4 am4 _ L4.out hO4.out.rd OM.out.rd).mono ?_
   rintro e w5 ⟨v5, rfl, ⟨a5, A5, c5, qs5, Ao5, co5, os5, rfl, o5, oo5, hm5, hdd5⟩, x5⟩
   have Z5 := Hd (hNew (w := w5) (o := Rp.zobj) rfl)
   have hO5 := Hd o5
   have hOO5 := Hd oo5
   have HM5 := Hd hm5
   have DD5 := Hd hdd5
   have hf5 := HRS.out.vs qs5 o5.e
   have HL5 := Hd hf5.1
   have hn5 := hf5.2.1
   have hk5 := hf5.2.2
   have ho5 := HRS.out.outs hm5
   have HLo5 := Hd ho5.1
   have hno5 := ho5.2.1
   have hko5 := ho5.2.2 _ hk5
   have s5 := x5.size
   have hR5 := Hd x5
   clear o5 oo5 hm5 hdd5 hf5 ho5 x5 hE4 hO4 HI
   (go_wp2_with (with_reducible refine wl_stopS 43 ?_); refine stop_store (w5.heap.size) (Rp.cs a5 A5 qs5.length c5 R) rfl rfl (Z5.out) (by kernel_rfl) rfl (by simp [Value.oneCell']) ?_)
   intro W5 e5 k5
   have x5 := chg_new (ext_alloc w5 Rp.zobj) k5 (Nat.le_refl _)
   have E5 := Hd e5
   have O5 := Hd (hO5.out.kept x5)
   have OO5 := Hd (hOO5.out.kept x5)
   have R5 := Hd (Ext.trans hR5.out x5)
   have RB5 := Hd (Ext.trans Qm.out R5.out)
   have RA5 := Hd (Ext.trans Q4.out RB5.out)
   have s5' := bx_lt e5
   clear e5 k5 x5 Z5 hO5 hOO5 hR5
   have hE3 := Hd (RA5.out.box E3.out)
   (go_wp2_with (with_reducible refine wl_stop 45 ?_); refine stop_load (E5.out) rfl Tryz.underlying43 (by kernel_rfl) ?_; simp only [Act.put, Sa, Sz, Ss])
   (go_wp2_with (with_reducible refine wl_stop 46 ?_); refine stop_load (hE3.out) rfl Tryz.underlying43 (by kernel_rfl) ?_; simp only [Act.put, Sa, Sz, Ss])
   go_wp2_with fail
   refine (c_eqReplica_same a5 a3 A5 A3 c5 c3 qs5 qs3 R HRS.out.log _ O5.out.rd (F3.out.keep RA5.out) hn5 HL5.out).mono ?_
   rintro e w6 ⟨rfl, x6⟩
   go_wp2_with fail
   refine (c_eqOutS_same Ao5 Ao3 co5 co3 os5 os3 (HM5.out.trans HM3.out.symm) HLo5.out _ (OO5.out.rd.keep x6) (FO3.out.keep (Ext.trans RA5.out x6)) hno5).mono ?_
   rintro e w7 ⟨rfl, x7⟩
   have S7 := Hd (Ext.trans x6 x7)
   have hE4 := Hd ((Ext.trans RB5.out S7.out).box E4.out)
   have hG1 := Hd ((Ext.trans RA5.out S7.out).box G1.out)
   have hO4 := Hd (O4.out.kept (Ext.trans RB5.out S7.out))
   have hY7 := Hd (Ext.trans Y3.out (Ext.trans RA5.out S7.out))
   clear x6 x7 hE3 O4
   go_wp2
   (refine wp_region_mixb (fun _ _ _ _ _ hq => hq) 5 (by kernel_rfl) (by kernel_rfl) (fun hg => ?_); simp only [headOps, Tc, Tz, List.filter_cons, List.filter_nil, isAlloc, Bool.not_false, Bf, if_true, if_false, List.append_nil, Dc, Dz])
   (refine wpMix_load (hE4.out) rfl rfl rfl Tryz.underlying43 (by kernel_rfl) ?_; simp only [Act.put, Sa, Sz, Ss])
   (refine wpMix_load (hG1.out) rfl rfl rfl Tryz.underlying31 (by kernel_rfl) ?_; simp only [Act.put, Sa, Sz, Ss])
   refine wpMix_call (RpV ps.length r) rfl rfl rfl (enters Tryz.func14 (by kernel_rfl) rfl) (RpV.mono _ _) (fun W hW => HTv.out W (Ext.trans hY7.out hW)) rfl (fun v8 hv8 => ?_)
   simp only [Act.put, Sa, Sz, Ss]
   refine wpMix_det rfl rfl rfl (enters Tryz.func17 (by kernel_rfl) rfl) (fun W hW => c_eqAnew a4 (some ⟨g4, 0, none⟩) ps.length qs4 r ps.length HLog.out W (hO4.out.rd.keep hW.1) L4.out hlen hv4.out v8 hW.2) rfl ?_
   simp only [Act.put, Sa, Sz, Ss]
   (repeat (first | (refine wpMix_plain rfl rfl ?_; go_big_quiet_step (fail); refine wpQuiet_nil ?_) | (refine wpMix_skip rfl rfl ?_; simp only [Act.put, Sa, Sz, Ss])))
   refine wpMix_nil ?_
   rintro u8 ⟨x8', _⟩
   have x8 : Ext w7 u8 := x8'
   have SU := Hd (Ext.trans S7.out x8)
   have hEM := Hd ((Ext.trans R5.out SU.out).box EM.out)
   have hG2 := Hd ((Ext.trans RA5.out SU.out).box G2.out)
   have hOM := Hd (OM.out.kept (Ext.trans R5.out SU.out))
   have hYU := Hd (Ext.trans hY7.out x8)
   have hE4' := Hd (x8.box hE4.out)
   have hO4' := Hd (hO4.out.kept x8)
   clear x8 x8' hv8 hE4 hG1 hO4 hY7 S7
   go_wp2
   (refine wp_region_mixb (fun _ _ _ _ _ hq => hq) 5 (by kernel_rfl) (by kernel_rfl) (fun hg => ?_); simp only [headOps, Tc, Tz, List.filter_cons, List.filter_nil, isAlloc, Bool.not_false, Bf, if_true, if_false, List.append_nil, Dc, Dz])
   (refine wpMix_load (hEM.out) rfl rfl rfl Tryz.underlying60 (by kernel_rfl) ?_; simp only [Act.put, Sa, Sz, Ss])
   (refine wpMix_load (hG2.out) rfl rfl rfl Tryz.underlying53 (by kernel_rfl) ?_; simp only [Act.put, Sa, Sz, Ss])
   refine wpMix_call (MgV m) rfl rfl rfl (enters Tryz.func23 (by kernel_rfl) rfl) (MgV.mono _) (fun W hW => HTmv.out W (Ext.trans hYU.out hW)) rfl (fun v9 hv9 => ?_)
   simp only [Act.put, Sa, Sz, Ss]
   refine wpMix_det rfl rfl rfl (enters Tryz.func26 (by kernel_rfl) rfl) (fun W hW => c_eqMsgNew am4 v9 m HMs.out W (hOM.out.rd.keep hW.1) hW.2) rfl ?_
   simp only [Act.put, Sa, Sz, Ss]
   (repeat (first | (refine wpMix_plain rfl rfl ?_; go_big_quiet_step (fail); refine wpQuiet_nil ?_) | (refine wpMix_skip rfl rfl ?_; simp only [Act.put, Sa, Sz, Ss])))
   refine wpMix_nil ?_
   rintro w8 ⟨x8', _⟩
   have x8 : Ext u8 w8 := x8'
   have S8 := Hd (Ext.trans SU.out x8)
   have E8 := Hd (x8.box hE4'.out)
   have O8 := Hd (hO4'.out.kept x8)
   have EM8 := Hd (x8.box hEM.out)
   have OM8 := Hd (hOM.out.kept x8)
   have hm40 := hk4
   have hm41 := rpK_pos (ps := qs4) (r := r)
   have hcm := c_markReplica a4 (some ⟨g4, 0, none⟩) ps.length qs4 r _ _ 1 w8 O8.out (by omega) (by omega) HLog.out hv4.out (by have := L4.out; omega)
   rw [L4.out] at hcm
   have HCM := Hd hcm
   have HCMm := Hd (fun W (h : LgO W W4.heap.size v4.heap.size am4 m.log) => c_markMsg am4 m _ _ (rpK 1 qs4 r) W h hm41 (by omega) HMs.out)
   have hg21 : decide (rpK 1 qs4 r + m.log.mN < 0) = false := by simp; omega
   obtain ⟨K4, hK4⟩ : ∃ K, rpK 1 qs4 r = K := ⟨_, rfl⟩
   rw [hK4] at HCM hg21 hm40 hm41 hk4
   simp only [hK4] at HCMm
   clear hcm hK4 x8 x8' hv9 hE4' hO4' hEM hG2 hOM hYU SU
   (go_wp2_with (with_reducible refine wl_stop 65 ?_); refine stop_load (E8.out) rfl Tryz.underlying43 (by kernel_rfl) ?_; simp only [Act.put, Sa, Sz, Ss])
   go_wp2_with fail
   refine HCM.out.mono ?_
   rintro e u9 ⟨rfl, _, c9⟩
   have hfp4 := O8.out.fp_in
   have EM9 := Hd (box_out' EM8.out c9 (fun hm => by have := (hfp4 _ hm).2; omega))
   have OM9 := Hd (OM8.out.chg c9 (fun k hk hm => by have := (hfp4 _ hm).2; have := OM8.out.low k hk; omega))
   have D9 := Hd (ext_chg (Ext.trans RA5.out S8.out) c9 (fun g hg => (hfp4 g hg).1))
   have DE9 := Hd (box_out' (S8.out.box E5.out) c9 (fun hm => by have := (hfp4 _ hm).2; omega))
   have DO9 := Hd ((O5.out.kept S8.out).chgAny c9 (fun k h1 h2 hm => by have := (hfp4 _ hm).2; omega))
   have DOO9 := Hd ((OO5.out.kept S8.out).chg c9 (fun k hk hm => by have := (hfp4 _ hm).2; have := OO5.out.low k hk; omega))
   clear c9 hfp4 HCM E8 O8 EM8 OM8
   (go_wp2_with (with_reducible refine wl_stop 68 ?_); refine stop_load (EM9.out) rfl Tryz.underlying60 (by kernel_rfl) ?_; simp only [Act.put, Sa, Sz, Ss])
   go_wp2_with fail
   refine (HCMm.out _ OM9.out).mono ?_
   rintro e w9 ⟨rfl, c9⟩
   have hfpm : ∀ k ∈ am4.fp, W4.heap.size ≤ k ∧ k < v4.heap.size := fun k hk => ⟨OM9.out.low k hk, OM9.out.top k hk⟩
   have D3 := Hd (ext_chg D9.out c9 (fun g hg => by have := (hfpm g hg).1; have := Q4.out.size; omega))
   have DE3 := Hd (D3.out.box E3.out)
   have DE5 := Hd (box_out' DE9.out c9 (fun hm => by have := (hfpm _ hm).2; omega))
   have DO5 := Hd (DO9.out.chgAny c9 (fun k h1 h2 hm => by have := (hfpm _ hm).2; omega))
   have DOO5 := Hd (DOO9.out.chg c9 (fun k hk hm => by have := (hfpm _ hm).2; have := OO5.out.low k hk; omega))
   clear c9 hfpm HCMm EM9 OM9 D9 DE9 DO9 DOO9 E5 O5 OO5 S8
   have e3 := bx_cell DE3.out
   have e5 := bx_cell DE5.out
   have z3 := bx_lt DE3.out
   have z5 := bx_lt DE5.out
   go_wp2_with fail
   refine (c_eqReplica_same a5 a3 A5 A3 c5 c3 qs5 qs3 R HRS.out.log _ DO5.out.rd (F3.out.keep D3.out) hn5 HL5.out).mono ?_
   rintro e w10 ⟨rfl, x10⟩
   clear e3 e5 z3 z5
   go_wp2_with fail
   refine (c_eqOutS_same Ao5 Ao3 co5 co3 os5 os3 (HM5.out.trans HM3.out.symm) HLo5.out _ (DOO5.out.rd.keep x10) (FO3.out.keep (Ext.trans D3.out x10)) hno5).mono ?_
   rintro e w11 ⟨rfl, x11⟩
   have x1011 := Ext.trans x10 x11
   have S11 := Hd (Ext.trans D3.out x1011)
   have E11 := Hd (x1011.box DE5.out)
   have O11 := Hd (DO5.out.kept x1011)
   have OO11 := Hd (DOO5.out.kept x1011)
   clear x10 x11 x1011 D3 DE3 DE5 DO5 DOO5
   have hm50 := rpK_pos (ps := qs5) (r := R)
   have hm51 := OtE.Ks_ge (rpK 1 qs5 R) os5 os5.length
   have HCM5 := Hd (c_markReplicaO a5 A5 c5 qs5 R _ _ 1 w11 O11.out (by omega) (by omega) HRS.out.log HL5.out hn5)
   have HCO5 := Hd (fun W (h : OsO W V4.heap.size w5.heap.size Ao5 co5 os5) => c_markOutS Ao5 co5 os5 _ _ (rpK 1 qs5 R) W h hm50 hko5 HLo5.out hno5)
   have HCH5 := Hd (fun W (h : RpH W a5 A5 c5 qs5 R 1) => c_heldReplica a5 A5 c5 qs5 R 1 W h (by omega) (by omega) HRS.out.log HL5.out hn5)
   have HCQ5 := Hd (fun W (h : OsR W Ao5 co5 (OtE.mks (rpK 1 qs5 R) os5)) => c_heldOutS Ao5 co5 os5 (rpK 1 qs5 R) W h hm50 hko5 HLo5.out hno5)
   have hg28 : decide (rpK 1 qs5 R < 0) = false := by simp; omega
   have hg31 : decide (OtE.Ks (rpK 1 qs5 R) os5 os5.length < 0) = false := by simp; omega
   obtain ⟨K6, hK6⟩ : ∃ K, OtE.Ks (rpK 1 qs5 R) os5 os5.length = K := ⟨_, rfl⟩
   simp only [hK6] at HCO5 HCQ5 hg31 hm51 hko5
   obtain ⟨K5, hK5⟩ : ∃ K, rpK 1 qs5 R = K := ⟨_, rfl⟩
   simp only [hK5] at HCM5 HCO5 HCH5 HCQ5 hg28 hm50 hm51 hk5
   clear hK5 hK6
   (go_wp2_with (with_reducible refine wl_stop 85 ?_); refine stop_load (E11.out) rfl Tryz.underlying43 (by kernel_rfl) ?_; simp only [Act.put, Sa, Sz, Ss])
   go_wp2_with fail
   refine HCM5.out.mono ?_
   rintro e w12 ⟨rfl, h12, c12⟩
   have hfp5 := O11.out.fp_in
   have E12 := Hd (box_out' E11.out c12 (fun hm => by have := (hfp5 _ hm).2; omega))
   have OO12 := Hd (OO11.out.chg c12 (fun k hk hm => DD5.out k hm hk))
   have S12 := Hd (ext_chg S11.out c12 (fun g hg => by have := (hfp5 _ hg).1; have := Q4.out.size; have := Qm.out.size; omega))
   have H12 := Hd h12
   clear c12 h12 hfp5 E11 O11 OO11 S11 HCM5
   go_wp2_with fail
   refine (HCO5.out w12 OO12.out).mono ?_
   rintro e w13 ⟨rfl, oo13, c13⟩
   have hfpo := OtE.fps_in OO12.out
   have E13 := Hd (box_out' E12.out c13 (fun hm => by have := (hfpo _ hm).2; omega))
   have H13 := Hd (H12.out.chgN c13 (fun x hx hm => DD5.out x hx hm))
   have S13 := Hd (ext_chg S12.out c13 (fun g hg => by have := (hfpo _ hg).1; have := Q4.out.size; have := Qm.out.size; omega))
   have OH13 := Hd oo13.rd
   clear c13 oo13 hfpo E12 OO12 S12 H12 HCO5
   (go_wp2_with (with_reducible refine wl_stop 91 ?_); refine stop_load (E13.out) rfl Tryz.underlying43 (by kernel_rfl) ?_; simp only [Act.put, Sa, Sz, Ss])
   go_wp2_with fail
   refine (HCH5.out _ H13.out.rd).mono ?_
   rintro e w14 ⟨rfl, x14⟩
   go_wp2_with fail
   refine (HCQ5.out _ (OH13.out.keep x14)).mono ?_
   rintro e w15 ⟨rfl, x15⟩
   have x1415 := Ext.trans x14 x15
   have S15 := Hd (Ext.trans S13.out x1415)
   have E15 := Hd (x1415.box E13.out)
   have H15 := Hd (H13.out.rd.keep x1415)
   have OH15 := Hd (OH13.out.keep x1415)
   have hG1 := Hd (S15.out.box G1.out)
   have hG2 := Hd (S15.out.box G2.out)
   have hY15 := Hd (Ext.trans Y3.out S15.out)
   clear x14 x15 x1415 S13 E13 H13 OH13
   go_wp2
   (refine wp_region_mixb (fun _ _ _ _ _ hq => hq) 9 (by kernel_rfl) (by kernel_rfl) (fun hg => ?_); simp only [headOps, Tc, Tz, List.filter_cons, List.filter_nil, isAlloc, Bool.not_true, Bool.not_false, Bf, if_true, if_false, List.cons_append, List.nil_append, Dc, Dz])
   (refine wpMix_load (hG1.out) rfl rfl rfl Tryz.underlying31 (by kernel_rfl) ?_; simp only [Act.put, Sa, Sz, Ss])
   refine wpMix_call (RpV ps.length r) rfl rfl rfl (enters Tryz.func14 (by kernel_rfl) rfl) (RpV.mono _ _) (fun W hW => HTv.out W (Ext.trans hY15.out hW)) rfl (fun v106 hv106 => ?_)
   simp only [Act.put, Sa, Sz, Ss]
   (refine wpMix_load (hG2.out) rfl rfl rfl Tryz.underlying53 (by kernel_rfl) ?_; simp only [Act.put, Sa, Sz, Ss])
   refine wpMix_call (MgV m) rfl rfl rfl (enters Tryz.func23 (by kernel_rfl) rfl) (MgV.mono _) (fun W hW => HTmv.out W (Ext.trans hY15.out hW.1)) rfl (fun v108 hv108 => ?_)
   simp only [Act.put, Sa, Sz, Ss]
   refine wpMix_call (RoV R O) rfl rfl rfl (enters Tryz.func44 (by kernel_rfl) rfl) (RoV.mono _ _) (fun W hW => HIv.out v106 v108 W hW.1.2 hW.2) rfl (fun v109 hv109 => ?_)
   obtain ⟨_, _, a7, A7, c7, qs8, Ao7, co7, os8, rfl, _⟩ := hv109
   simp only [Act.put, Sa, Sz, Ss]
   (repeat (first | (refine wpMix_plain rfl rfl ?_; go_big_quiet_step (fail); refine wpQuiet_nil ?_) | (refine wpMix_skip rfl rfl ?_; simp only [Act.put, Sa, Sz, Ss])))
   (refine wpMix_alloc (Rp.zobj) rfl (fun W => by kernel_rfl) ?_; intro p7 hp7 hps7 hpi7; simp only [layVal, Act.put, Sa, Sz, Ss])
   refine wpMix_nil ?_
   rintro w17 ⟨⟨⟨⟨x7, _⟩, _⟩, ro7⟩, z7⟩
   have x7' : Ext w15 w17 := x7
   obtain ⟨qs7, os7, hql7, hol7, hm7, st7⟩ := ro7.inv
   have Z7 := Hd z7
   have ST7 := Hd st7
   have HM7 := Hd hm7
   have X7 := Hd x7'
   rw [← hql7, ← hol7]
   clear hm7 st7 x7 x7' ro7 z7 hv106 hv108 hG1 hG2 hps7 hpi7 hql7 hol7
   (go_wp2_with (with_reducible refine wl_stopS 43 ?_); refine stop_store (p7) (Rp.cs a7 A7 qs7.length c7 R) rfl rfl (Z7.out) (by kernel_rfl) rfl (by simp [Value.oneCell']) ?_)
   intro W7 e7 k7
   have hst := ST7.out W7 p7 _ Z7.out k7
   have E7 := Hd e7
   have O7 := Hd hst.1
   have OO7 := Hd hst.2
   have hf7 := HRS.out.vs qs7 hst.1.e
   have HL7 := Hd hf7.1
   have hn7 := hf7.2.1
   have ho7 := HRS.out.outs HM7.out
   have HLo7 := Hd ho7.1
   have hno7 := ho7.2.1
   have T7 := Hd (ext_chg X7.out k7 (fun g hg => by rw [Mi] at hg; omega))
   have hE3 := Hd ((Ext.trans S15.out T7.out).box E3.out)
   clear e7 k7 hst hf7 ho7 Z7 ST7 X7
   (go_wp2_with (with_reducible refine wl_stop 112 ?_); refine stop_load (E7.out) rfl Tryz.underlying43 (by kernel_rfl) ?_; simp only [Act.put, Sa, Sz, Ss])
   (go_wp2_with (with_reducible refine wl_stop 113 ?_); refine stop_load (hE3.out) rfl Tryz.underlying43 (by kernel_rfl) ?_; simp only [Act.put, Sa, Sz, Ss])
   go_wp2_with fail
   refine (c_eqReplica_same a7 a3 A7 A3 c7 c3 qs7 qs3 R HRS.out.log _ O7.out (F3.out.keep (Ext.trans S15.out T7.out)) hn7 HL7.out).mono ?_
   rintro e w18 ⟨rfl, x18⟩
   go_wp2_with fail
   refine (c_eqOutS_same Ao7 Ao3 co7 co3 os7 os3 (HM7.out.trans HM3.out.symm) HLo7.out _ (OO7.out.keep x18) (FO3.out.keep (Ext.trans (Ext.trans S15.out T7.out) x18)) hno7).mono ?_
   rintro e w19 ⟨rfl, x19⟩
   have T19 := Hd (Ext.trans T7.out (Ext.trans x18 x19))
   have E19 := Hd (T19.out.box E15.out)
   have H19 := Hd (H15.out.keep T19.out)
   have OH19 := Hd (OH15.out.keep T19.out)
   clear x18 x19 T7 E7 O7 OO7 hE3 E15 H15 OH15
   (go_wp2_with (with_reducible refine wl_stop 122 ?_); refine stop_load (E19.out) rfl Tryz.underlying43 (by kernel_rfl) ?_; simp only [Act.put, Sa, Sz, Ss])
   go_wp2_with fail
   refine (HCH5.out _ H19.out).mono ?_
   rintro e w20 ⟨rfl, x20⟩
   go_wp2_with fail
   refine (HCQ5.out _ (OH19.out.keep x20)).mono ?_
   rintro e w21 ⟨rfl, x21⟩
   have HX := Hd (Ext.trans hY15.out (Ext.trans T19.out (Ext.trans x20 x21)))
   clear x20 x21 E19 H19 OH19
   go_wp2
   go_ret
   exact ⟨rfl, HX.out⟩
  ·have hZ := HZm.out
   rw [szV_gt hnm] at hZ
   have HZ := Hd hZ
   clear hZ HZm
   go_enter Tryz.func11, Tryz.ntmps11
   (go_wp2_with (with_reducible refine wl_stop 17 ?_); refine stop_load (D0.out) rfl Tryz.underlying31 (by kernel_rfl) ?_; simp only [Act.put, Sa, Sz, Ss])
   go_wp2_with fail
   refine HC.out.mono ?_
   rintro e w1' ⟨rfl, y1'⟩
   have DM1' := Hd (y1'.box DM0.out)
   have X1' := Hd (Ext.trans HX0.out y1')
   clear y1' HC
   (go_wp2_with (with_reducible refine wl_stop 22 ?_); refine stop_load (DM1'.out) rfl Tryz.underlying53 (by kernel_rfl) ?_; simp only [Act.put, Sa, Sz, Ss])
   go_wp2_with fail
   refine (HZ.out _ X1'.out).mono ?_
   rintro e w1 ⟨rfl, y1⟩
   go_wp2
   go_ret
   exact ⟨rfl, Ext.trans X1'.out y1⟩
 ·rw [szV_gt (by omega)] at hcon
  have HC := Hd hcon
  clear hcon
  go_enter Tryz.func11, Tryz.ntmps11
  (go_wp2_with (with_reducible refine wl_stop 17 ?_); refine stop_load (D0.out) rfl Tryz.underlying31 (by kernel_rfl) ?_; simp only [Act.put, Sa, Sz, Ss])
  go_wp2_with fail
  refine HC.out.mono ?_
  rintro e w1 ⟨rfl, X1⟩
  clear HC
  go_wp2
  go_ret
  exact ⟨rfl, Ext.trans HX0.out X1⟩
set_option maxRecDepth 100000 in
theorem lifted (os : Os) (started : os.Started) (H : Type) (enc : TypeId × Value → H) :
  ReturnsInHanded {} Tryz.checked os 11 .any (Rows.fnExactOnOkSpec.pre6 enc Tryz.prog Tryz.f11 Rows.fnExactOnOkRow.domain false) (Rows.fnExactOnOkSpec.post enc Tryz.prog Tryz.f11 false true false false) := by
 refine returnsInHanded_of_change (C := Tryz.checked) own started (by kernel_rfl) Tryz.func11
  (ChangeSpec.witness6 (enc := enc) (C := Tryz.checked) false ⟨#[], #[.agg #[.int .i64 0, .int .i64 0, .int .i64 0, .int .i64 0, .int .i64 0, .int .i64 0, .int .i64 0, .slice none 0 0, .slice none 0 0, .slice none 0 0, .slice none 0 0, .int .i64 0, .int .i64 0], .agg #[.int .i64 0, .int .i64 0, .int .i64 0, .int .i64 0, .int .i64 0, .int .i64 0, .int .i64 0, .int .i64 0, .int .i64 0, .int .i64 0, .int .i64 0, .int .i64 0, .int .i64 0, .int .i64 0, .slice none 0 0, .slice none 0 0, .slice none 0 0]], []⟩ 8 (by kernel_rfl) (by kernel_rfl) (by kernel_rfl) (by kernel_rfl)) ?_
 intro W base args ds gs before hval0 hW hcnd _
 have hval : ∀ (j : Nat) t v, Tryz.f11.params[j]? = some t → args[j]? = some v → Value.okWide Tryz.prog W .any base t v := hval0
 have hW' := hW
 obtain ⟨p, q, hA0, hV, rfl, hfz, hnd⟩ := hW
 have hA : DataW.TrodAll enc Tryz.prog W 0 (fun _ => true) true Tryz.f11.params.toList args.toList ds p := hA0
 rw [Tryz.params11] at hA hval
 obtain ⟨rfl, rfl⟩ := trodVars_none hV
 obtain ⟨v0, vs0, d0, ds0, p0, q0, hargs, rfl, rfl, h0, r0⟩ := trodAll_cons hA
 obtain ⟨v1, vs1, d1, ds1, p1, q1, rfl, rfl, rfl, h1, r1⟩ := trodAll_cons r0
 obtain ⟨rfl, rfl, rfl⟩ := trodAll_nil r1
 obtain rfl : args = #[v0, v1] := by cases args; simp_all
 clear hA0 hval0
 refine Calls.mono (R := fun e W' => e = .returned (.bool true) ∧ Ext W W') ?_ (fun e W' ⟨he, hx⟩ => by
  subst he
  exact ⟨_, rfl, law_post laidOut Tryz.underlying4 hW' hx rfl rfl rfl rfl (by kernel_rfl) rfl⟩)
 clear hW'
 exact (by obtain ⟨a, A, c, ps, r, rfl, hr⟩ := open_Replica (hval 0 _ _ rfl rfl) h0; obtain ⟨am, m, rfl, hm⟩ := open_Msg (hval 1 _ _ rfl rfl) h1; exact walk a A c ps r am m W hr hm)
theorem over : Rows.fnExactOnOkRow.holds Tryz.pinned (OpenSpec.ofChange Rows.fnExactOnOkSpec) :=
 OpenClaim.holds_of_wide 11 Tryz.f11 rfl rfl rfl rfl rfl rfl rfl ⟨rfl, rfl, rfl, rfl, rfl⟩ rfl rfl rfl rfl rfl (by kernel_rfl) Tryz.func11 (by kernel_rfl)
  (of_decide_eq_true (by kernel_rfl)) (by unfold Func.isWrapper; first | (rw [if_pos (by decide +kernel)]; kernel_rfl) | (rw [if_neg (by decide +kernel)]; exact ⟨rfl, rfl⟩))
  (fun os started H enc _ => lifted os started H enc)
theorem proved : Rows.FnExactOnOkSaid := over
end Go.Proofs.YtkenlhdiehaemaaGreat.l48
