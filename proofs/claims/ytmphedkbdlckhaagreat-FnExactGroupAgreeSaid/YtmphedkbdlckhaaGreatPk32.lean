/- LogImage and Committed of the reference. -/
import Derived.Test.YtmphedkbdlckhaaGreatPk31
namespace Go.Proofs.YtmphedkbdlckhaaGreat
open Go.ChangeShapes Go.WideShapes Go.ChangeAt Go.RowKit Go.Sort
set_option linter.unusedVariables false
set_option linter.unusedSimpArgs false
set_option maxRecDepth 100000 in
set_option maxHeartbeats 8000000 in
theorem c_l3Among (a : LAd) (l : Lg) (n : Int) (hs : l.small) (w : World) (hr : LgR w a l) :
  Calls Tryz.prog 77 #[Lg.val a l, .int .i64 n] w fun e w' => e = .returned (.bool (hasNum l n)) ∧ Ext w w' := by
 have X0 := ext_alloc w (Lg.obj a l)
 have hK := fun W (h : Ext (w.alloc (Lg.obj a l)) W) => c_sLogOk a l hs.1 hs.2.1 hs.2.2 W (hr.keep (Ext.trans X0 h))
 cases q : logOk l
 ·rw [q] at hK
  have HK := Hd hK
  have HV := Hd (show false = hasNum l n by simp only [hasNum, q]; rfl)
  clear hK q hr hs
  go_enter Tryz.func77, Tryz.ntmps77
  go_wp2
  (refine wp_region_mix' (fun _ _ _ _ _ hq => hq) 11 (by kernel_rfl) (by kernel_rfl) (fun hg => ?_); simp only [headOps, Tc, Tz, List.filter_cons, List.filter_nil, isAlloc, Bool.not_false, Bf, if_true, if_false, List.append_nil, Dc, Dz])
  (repeat (first | (refine wpMix_plain rfl rfl ?_; go_big_quiet_step (fail); refine wpQuiet_nil ?_) | (refine wpMix_skip rfl rfl ?_; simp only [Act.put, Sa, Sz, Ss]) | (refine wpMix_det rfl rfl rfl (enters Tryz.func85 (by kernel_rfl) rfl) (fun W hW => HK.out W hW) rfl ?_; simp only [Act.put, Sa, Sz, Ss])))
  (refine wpMix_nil ?_; intro w2 hw2)
  go_wp2
  go_ret
  exact ⟨ret_bool HV.out, Ext.trans X0 hw2⟩
 ·have hE := fun W (h : Ext (w.alloc (Lg.obj a l)) W) => c_sLogEnd a l hs.1 hs.2.1 hs.2.2 W (hr.keep (Ext.trans X0 h)) q
  rw [q] at hK
  have HK := Hd hK
  have HE := Hd hE
  have HV := Hd (show inB n l.base l.fin = hasNum l n by simp only [hasNum, q]; rfl)
  clear hK hE q hr hs
  go_enter Tryz.func77, Tryz.ntmps77
  go_wp2
  (refine wp_region_mix' (fun _ _ _ _ _ hq => hq) 11 (by kernel_rfl) (by kernel_rfl) (fun hg => ?_); simp only [headOps, Tc, Tz, List.filter_cons, List.filter_nil, isAlloc, Bool.not_false, Bf, if_true, if_false, List.append_nil, Dc, Dz])
  (repeat (first | (refine wpMix_plain rfl rfl ?_; go_big_quiet_step (fail); refine wpQuiet_nil ?_) | (refine wpMix_skip rfl rfl ?_; simp only [Act.put, Sa, Sz, Ss]) | (refine wpMix_det rfl rfl rfl (enters Tryz.func85 (by kernel_rfl) rfl) (fun W hW => HK.out W hW) rfl ?_; simp only [Act.put, Sa, Sz, Ss]) | (refine wpMix_det rfl rfl rfl (enters Tryz.func86 (by kernel_rfl) rfl) (fun W hW => HE.out W hW) rfl ?_; simp only [Act.put, Sa, Sz, Ss]) | (refine wpMix_det rfl rfl rfl (enters Tryz.func28 (by kernel_rfl) rfl) (fun W hW => c_l1In n l.base l.fin W) rfl ?_; simp only [Act.put, Sa, Sz, Ss])))
  (refine wpMix_nil ?_; intro w2 hw2)
  go_wp2
  go_ret
  exact ⟨ret_bool HV.out, Ext.trans X0 hw2⟩
theorem logOk_sm {l : Lg} (h : logOk l = true) : l.small := by
 have h1 := of_decide_eq_true h
 have h2 := of_decide_eq_true h1.2.1
 exact ⟨by have := h2.1; omega, by have := h2.2.1; omega, by have := h1.2.2.1; omega⟩
def AllV (B : Nat) (m : Img) (v : Value) (W : World) : Prop := ∃ A c A' c' Z n z, v = .tuple #[Im.val A m.1.length c A' m.2.length c', .slice Z n z] ∧ RdF Cel.enc 112 2 W B A c m.1 ∧ RdF Sea.enc 113 3 W B A' c' m.2
theorem AllV.mono (b B : Nat) (m : Img) : Rm.Mono (relE b) (AllV B m) := fun v w w' ⟨A, c, A', c', Z, n, z, h, h1, h2⟩ hx => ⟨A, c, A', c', Z, n, z, h, h1.keep hx, h2.keep hx⟩
theorem AllV.inv {B : Nat} {m : Img} {A A' : Option Addr} {n c n' c' : Nat} {x : Value} {W : World} (h : AllV B m (.tuple #[Im.val A n c A' n' c', x]) W) : RdF Cel.enc 112 2 W B A c m.1 ∧ RdF Sea.enc 113 3 W B A' c' m.2 := by
 obtain ⟨A2, c2, A3, c3, _, _, _, he, h1, h2⟩ := h
 simp only [Value.tuple.injEq, Value.agg.injEq, Array.mk.injEq, List.cons.injEq, Value.slice.injEq, true_and, and_true] at he
 obtain ⟨⟨⟨rfl, rfl, rfl⟩, rfl, rfl, rfl⟩, _⟩ := he
 exact ⟨h1, h2⟩
theorem log_b {l : Lg} (h : logOk l = true) : 0 ≤ l.base ∧ l.base + l.ents.length ≤ 1000000000 ∧ l.ents.length ≤ 60 ∧ ImgP (l.cells, l.seats) ∧ ∀ e ∈ l.ents, e.ok = true := by
 have h1 := of_decide_eq_true h
 have h2 := (inB_yes _ _ _).1 h1.1
 have h3 := (inB_yes _ _ _).1 h1.2.2.2.1
 exact ⟨h2.1, h3.2, h1.2.2.1, imgP_of h1.2.1, h1.2.2.2.2⟩
set_option maxRecDepth 100000 in
set_option maxHeartbeats 8000000 in
theorem c_sLogImage (a : LAd) (l : Lg) (j : Nat) (w : World) (hr : LgR w a l) (hok : logOk l = true) (hj : j ≤ l.ents.length) :
  Calls Tryz.prog 51 #[Lg.val a l, .int .i64 (l.base + j)] w fun e9 w' => (∃ A c A' c', e9 = .returned (.tuple #[Im.val A (allI (l.cells, l.seats) (l.ents.take j)).1.length c A' (allI (l.cells, l.seats) (l.ents.take j)).2.length c', .bool true]) ∧
   RdF Cel.enc 112 2 w' w.heap.size A c (allI (l.cells, l.seats) (l.ents.take j)).1 ∧ RdF Sea.enc 113 3 w' w.heap.size A' c' (allI (l.cells, l.seats) (l.ents.take j)).2) ∧ Ext w w' := by
 obtain ⟨hb0, hb1, h60, hIm, hAll⟩ := log_b hok
 have hsm := logOk_sm hok
 obtain ⟨w1, hw1⟩ : ∃ w1, ((w.alloc (Lg.obj a l)).alloc Im.zobj) = w1 := ⟨_, rfl⟩
 have X0 : Ext w w1 := by rw [← hw1]; exact ext_to (ext_alloc _ _) _
 have E1 := Hd (show w1.heap[w.heap.size]? = some (Lg.obj a l) by rw [← hw1]; exact hOld (o := Im.zobj) (hNew (w := w) (o := Lg.obj a l) rfl))
 have E2 := Hd (show w1.heap[w.heap.size + 1]? = some Im.zobj by rw [← hw1]; exact hNew (w := w.alloc (Lg.obj a l)) (o := Im.zobj) (k := w.heap.size + 1) (by simp))
 have hcon := c_l3Among a l (l.base + j) hsm w1 (hr.keep X0)
 rw [show hasNum l (l.base + j) = true by unfold hasNum; rw [hok]; show inB _ _ _ = true; rw [inB_yes]; unfold Lg.fin; omega] at hcon
 have HAm := Hd hcon
 have HR := Hd hr
 have X := Hd X0
 have HIm := Hd hIm
 have HAll := Hd hAll
 have hz1_ := bx_lt E2.out
 have HW0 := Hd hw1
 clear hcon hr hok hw1 X0 hIm hAll hsm
 go_enter Tryz.func51, Tryz.ntmps51
 go_wp2_with (with_reducible refine wl_stop 8 ?_)
 refine stop_go (F := fun W => W = w1) HW0.out ?_
 intro W1 hW1
 subst hW1
 clear HW0
 (go_wp2_with (with_reducible refine wl_stop 8 ?_); refine stop_load (E1.out) rfl Tryz.underlying53 (by kernel_rfl) ?_; simp only [Act.put, Sa, Sz, Ss])
 go_wp2_with fail
 refine HAm.out.mono ?_
 rintro e9 w2 ⟨rfl, x⟩
 obtain ⟨E1, E2, X⟩ : Hid _ ∧ Hid _ ∧ Hid _ := ⟨Hd (x.box E1.out), Hd (x.box E2.out), Hd (Ext.trans X.out x)⟩
 have hz_w2 := x.size
 clear x
 clear HAm
 have hsub : l.base + (j : Int) - l.base = (j : Int) := by omega
 go_wp2
 have HWI := Hd (fun W' (h : (relE w2.heap.size).rel w2 W') => cells_mid (cs := Im.cs a.cA l.cells.length a.cc a.sA l.seats.length a.sc) (Ext.box h E1.out) [.int .i64 l.base] [.slice a.eA l.ents.length a.ec] rfl rfl)
 have HEc := Hd (show l.ents.length ≤ a.ec from HR.out.2.2.1)
 have hec := HEc.out
 have HCall := Hd (show ∀ W', Ext w2 W' → Calls Tryz.prog 78 #[Im.val a.cA l.cells.length a.cc a.sA l.seats.length a.sc, .slice a.eA j a.ec] W' fun e9 w' => ∃ v, e9 = .returned v ∧ AllV (w.heap.size + 1 + 1) (allI (l.cells, l.seats) (l.ents.take j)) v w' ∧ Ext W' w' from fun W' hW' => by
  have h := c_sRunAll a.cA a.cc l.cells a.sA a.sc l.seats a.eA a.ec (l.ents.take j) W' (HR.out.1.keep (Ext.trans X.out hW')) (HR.out.2.1.keep (Ext.trans X.out hW')) ((HR.out.2.2.keep (Ext.trans X.out hW')).take j) (by simp; omega) HIm.out (fun e he => HAll.out e (List.mem_of_mem_take he))
  rw [show (l.ents.take j).length = j by simp; omega] at h
  exact h.mono fun e9 w' ⟨⟨A2, c2, B2, d2, Z, n, z, h1, h2, h3⟩, hx⟩ => ⟨_, h1, ⟨A2, c2, B2, d2, Z, n, z, rfl, h2.less (by have := hW'.size; omega), h3.less (by have := hW'.size; omega)⟩, hx⟩)
 (refine Rm.wp_region_mix' (R := relE w2.heap.size) (fun _ _ _ => True) (fun _ _ _ _ _ hq => hq) 14 (by first | exact Nat.le_refl _ | omega | (simp; omega)) (by kernel_rfl) (by kernel_rfl) ?_; simp only [Tc, Tz, Dc, Dz])
 (iterate 1 (refine Rm.wpMix_plain rfl rfl ?_; go_big_quiet_step (fail); refine wpQuiet_nil ?_))
 (refine Rm.wpMix_loadAgg (HWI.out) rfl rfl rfl Tryz.underlying50 (by kernel_rfl) ?_; simp only [Act.put, Sa, Sz, Ss])
 (iterate 1 (refine Rm.wpMix_plain rfl rfl ?_; go_big_quiet_step (fail); refine wpQuiet_nil ?_))
 (refine Rm.wpMix_load1 (fun W9' h9 => show W9'.cell? _ = some (.slice a.eA l.ents.length a.ec) from bx_cell (Ext.box h9 E1.out) 3) rfl rfl rfl Tryz.underlying51 rfl ?_; simp only [Act.put, Sa, Sz, Ss])
 (iterate 2 (refine Rm.wpMix_plain rfl rfl ?_; go_big_quiet_step (fail); refine wpQuiet_nil ?_))
 (refine Rm.wpMix_load1 (fun W9' h9 => show W9'.cell? _ = some (.int .i64 l.base) from bx_cell (Ext.box h9 E1.out) 0) rfl rfl rfl Tryz.underlying3 rfl ?_; simp only [Act.put, Sa, Sz, Ss])
 (iterate 1 (refine Rm.wpMix_plain rfl rfl ?_; go_big_quiet_step (fail); refine wpQuiet_nil ?_))
 (try simp only [hsub])
 (iterate 1 (refine Rm.wpMix_plain rfl rfl ?_; go_big_quiet_step (fail); refine wpQuiet_nil ?_))
 refine Rm.wpMix_call (AllV (w.heap.size + 1 + 1) (allI (l.cells, l.seats) (l.ents.take j))) rfl rfl rfl (enters Tryz.func78 (by kernel_rfl) rfl) (AllV.mono _ _ _) (fun W' hW' => HCall.out W' hW') rfl (fun v6 hv6 => ?_)
 obtain ⟨_, _, A2, c2, B2, d2, Z, n, z, rfl, _⟩ := hv6
 simp only [Act.put, Sa, Sz, Ss]
 (iterate 3 (refine Rm.wpMix_plain rfl rfl ?_; go_big_quiet_step (fail); refine wpQuiet_nil ?_))
 (refine Rm.wpMix_alloc (Im.zobj) rfl (fun W => by kernel_rfl) ?_; intro p9 hp9 hps9 hpi9; simp only [layVal, Act.put, Sa, Sz, Ss])
 refine Rm.wpMix_nil ?_
 rintro w3 ⟨⟨hW, hv2⟩, z2⟩
 have x : Ext w2 w3 := hW
 have hv3 := hv2.inv
 obtain ⟨m2, hm2⟩ : ∃ m2, allI (l.cells, l.seats) (l.ents.take j) = m2 := ⟨_, rfl⟩
 rw [hm2] at hv3
 have HM2 := Hd hm2
 rw [hm2]
 have R2 := Hd hv3.1
 have S2 := Hd hv3.2
 have Z2 := Hd z2
 obtain ⟨E2, X⟩ : Hid _ ∧ Hid _ := ⟨Hd (x.box E2.out), Hd (Ext.trans X.out x)⟩
 have hsz2 := x.size
 have hlt9 := bx_lt z2
 have hp9' : w2.heap.size ≤ p9 := hp9
 clear hW hv2 hv3 z2 x hm2 HWI hps9 hpi9 E1 hp9
 (go_wp2_with (with_reducible refine wl_stopS 50 ?_); refine stop_store (p9) (Im.cs A2 m2.1.length c2 B2 m2.2.length d2) rfl rfl (Z2.out) (by kernel_rfl) rfl (by simp [Value.oneCell']) ?_)
 intro w4 e3 k3
 obtain ⟨E2, X⟩ : Hid _ ∧ Hid _ := ⟨Hd (box_chg E2.out k3 (by omega)), Hd (ext_chg X.out k3 (fun k hk => by rw [Mi] at hk; omega))⟩
 obtain ⟨R2, S2⟩ : Hid _ ∧ Hid _ := ⟨Hd (R2.out.boxed Cel.enc_len Z2.out (by decide) k3), Hd (S2.out.boxed Sea.enc_len Z2.out (by decide) k3)⟩
 have E9 := Hd e3
 clear e3 k3 Z2
 (go_wp2_with (with_reducible refine wl_stop 26 ?_); refine stop_load (E9.out) rfl Tryz.underlying50 (by kernel_rfl) ?_; simp only [Act.put, Sa, Sz, Ss])
 (go_wp2_with (with_reducible refine wl_stopS 50 ?_); refine stop_store ((w.heap.size + 1)) (Im.cs A2 m2.1.length c2 B2 m2.2.length d2) rfl rfl (E2.out) (by kernel_rfl) rfl (by simp [Value.oneCell']) ?_)
 intro W9 e8 k9
 have HE9 := Hd e8
 have HX9 := Hd (chg_new X.out k9 (by omega))
 have HR9 := Hd (R2.out.boxed Cel.enc_len E2.out (by decide) k9)
 have HS9 := Hd (S2.out.boxed Sea.enc_len E2.out (by decide) k9)
 clear e8 k9
 go_wp2
 exact bodyPost_ret (results_two Tryz.results51 rfl rfl Tryz.underlying50 (by kernel_rfl) HE9.out) rfl ⟨⟨A2, c2, B2, d2, by rw [HM2.out] <;> rfl, by rw [HM2.out]; exact HR9.out.less (by omega), by rw [HM2.out]; exact HS9.out.less (by omega)⟩, HX9.out⟩
end Go.Proofs.YtmphedkbdlckhaaGreat
