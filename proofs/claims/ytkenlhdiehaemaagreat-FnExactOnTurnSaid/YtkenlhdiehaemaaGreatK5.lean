/- What is done at what another says of itself: OnDo$1. -/
import Derived.Test.YtkenlhdiehaemaaGreatK4
namespace Go.Proofs.YtkenlhdiehaemaaGreat
open Go.ChangeShapes Go.WideShapes Go.ChangeAt Go.RowKit Go.Sort
set_option linter.unusedVariables false
set_option linter.unusedSimpArgs false

section
variable {W0 W : World} {p P Q : Nat} {r : Rp} {am : LAd} {m : Mg} {aq : LAd} {Aq : Option Addr} {nq cq : Nat}
set_option maxRecDepth 100000 in
set_option maxHeartbeats 16000000 in
theorem c_do1 (hk : KO W0 W p r []) (hP : W0.heap[P]? = some (Mg.obj am m)) (hQ : W0.heap[Q]? = some (Rp.obj aq Aq nq cq r)) (hM : LgR W0 am m.log) (hs : r.log.small) (hms : m.log.small) (hb : (rpOk r && hearB r m 6) = true) :
    Calls Tryz.prog 104 #[.pointer (some ⟨p, 0, none⟩), .pointer (some ⟨P, 0, none⟩), .pointer (some ⟨Q, 0, none⟩)] W fun e w' => e = .returned (.tuple #[]) ∧ KO W0 w' p (onDoR r m) (onDoO r m) := by
  obtain ⟨a, A, c, qs, Ao, co, os, hk, hos⟩ := hk
  obtain rfl : os = [] := by simpa using hos
  obtain ⟨hq1, hq2, hq3⟩ := hear_facts hb
  have G := Lib.hid (rpOk_good hq1)
  have HL := Lib.hid (show liveB r = true → RpT r from fun h => rpOk_T hq1 h)
  have HV := Lib.hid (fits_view hq2 (by rw [hq3]; decide +kernel))
  have HLg := Lib.hid (fits_log hq2 (by rw [hq3]; decide +kernel))
  have hv0 := HV.out.1
  have hv1 := HV.out.2
  have ho' : r.of ≠ 0 := by have := G.out.of; omega
  have ho2 : (r.of == 0) = false := by simpa using ho'
  have HK := Lib.hid hk
  have HP := Lib.hid hP
  have HQ := Lib.hid hQ
  have HM := Lib.hid (hk.x.box hP)
  have HML := Lib.hid hM
  clear hk hP hM hos hq1 hq2 hq3 hQ
  go_enter Tryz.func104, Tryz.ntmps104
  go_wp2
  cases gl : liveB r
  · have HF := Lib.hid (show r = onDoR r m ∧ ([] : List Ot) = onDoO r m by
    have hB : doB r m = false := by unfold doB; rw [gl]; rfl
    constructor
    · unfold onDoR; rw [hB]; rfl
    · unfold onDoO; rw [hB]; rfl)
    (refine Rm.wp_region_mix' (R := relE W.heap.size) (fun _ _ _ => True) (fun _ _ _ _ _ hq => hq) 19 (by first | exact Nat.le_refl _ | omega | (simp; omega)) (by kernel_rfl) (by kernel_rfl) ?_; simp only [List.take_succ_cons, List.take_zero, List.drop_succ_cons, List.drop_zero])
    ((iterate 1 (refine Rm.wpMix_plain rfl rfl ?_; go_big_quiet_step (fail); refine wpQuiet_nil ?_)))
    (refine Rm.wpMix_det rfl rfl rfl (enters Tryz.func87 (by kernel_rfl) rfl) (fun W9' h9 => c_awake p a A qs.length c r _ W9' (Ext.box h9 HK.out.box)) rfl ?_; simp only [Act.put, List.setIfInBounds_toArray, List.set_cons_zero, List.set_cons_succ])
    ((try simp only [gl, Bool.not_true, Bool.not_false]); (iterate 2 (refine Rm.wpMix_plain rfl rfl ?_; go_big_quiet_step (fail); refine wpQuiet_nil ?_)); (iterate 14 (refine Rm.wpMix_skip rfl rfl ?_; simp only [Act.put, List.setIfInBounds_toArray, List.set_cons_zero, List.set_cons_succ])); (iterate 1 (refine Rm.wpMix_plain rfl rfl ?_; go_big_quiet_step (fail); refine wpQuiet_nil ?_)))
    refine Rm.wpMix_nil ?_
    rintro w1 hW
    have K1 := Lib.hid (HK.out.keep (show Ext W w1 from hW))
    have M1 := Lib.hid (K1.out.x.box HP.out)
    have Q1 := Lib.hid (K1.out.x.box HQ.out)
    clear HK HM hW
    go_wp2
    exact bodyPost_ret (v := .tuple #[]) (by simp [results, Tryz.results104, go_sem]) rfl ⟨rfl, K1.out.ko HF.out.1 HF.out.2⟩
  · cases g1 : (r.me != m.view % r.of)
    · have hB : doB r m = true := by unfold doB; rw [gl, show (r.me == m.view % r.of) = true by simpa using g1]; rfl
      have HB := Lib.hid hB
      have HT0 := Lib.hid (HL.out gl)
      clear hB
      (refine Rm.wp_region_mix' (R := relE W.heap.size) (fun _ _ _ => True) (fun _ _ _ _ _ hq => hq) 19 (by first | exact Nat.le_refl _ | omega | (simp; omega)) (by kernel_rfl) (by kernel_rfl) ?_; simp only [List.take_succ_cons, List.take_zero, List.drop_succ_cons, List.drop_zero])
      ((iterate 1 (refine Rm.wpMix_plain rfl rfl ?_; go_big_quiet_step (fail); refine wpQuiet_nil ?_)))
      (refine Rm.wpMix_det rfl rfl rfl (enters Tryz.func87 (by kernel_rfl) rfl) (fun W9' h9 => c_awake p a A qs.length c r _ W9' (Ext.box h9 HK.out.box)) rfl ?_; simp only [Act.put, List.setIfInBounds_toArray, List.set_cons_zero, List.set_cons_succ])
      ((try simp only [gl, Bool.not_true, Bool.not_false]); (iterate 3 (refine Rm.wpMix_plain rfl rfl ?_; go_big_quiet_step (fail); refine wpQuiet_nil ?_)); (refine Rm.wpMix_nilp rfl rfl rfl ?_; simp only [Act.put, List.setIfInBounds_toArray, List.set_cons_zero, List.set_cons_succ]); (iterate 2 (refine Rm.wpMix_plain rfl rfl ?_; go_big_quiet_step (fail); refine wpQuiet_nil ?_)); (refine Rm.wpMix_load1 (fun W9' h9 => show W9'.cell? _ = some (.int .i64 r.me) from bx_cell (Ext.box h9 HK.out.box) 0) rfl rfl rfl Tryz.underlying3 rfl ?_; simp only [Act.put, List.setIfInBounds_toArray, List.set_cons_zero, List.set_cons_succ]); (iterate 1 (refine Rm.wpMix_plain rfl rfl ?_; go_big_quiet_step (fail); refine wpQuiet_nil ?_)); (refine Rm.wpMix_load1 (fun W9' h9 => show W9'.cell? _ = some (.int .i64 m.view) from bx_cell (Ext.box h9 HM.out) 2) rfl rfl rfl Tryz.underlying3 rfl ?_; simp only [Act.put, List.setIfInBounds_toArray, List.set_cons_zero, List.set_cons_succ]); (iterate 1 (refine Rm.wpMix_plain rfl rfl ?_; go_big_quiet_step (fail); refine wpQuiet_nil ?_)); (refine Rm.wpMix_nilp rfl rfl rfl ?_; simp only [Act.put, List.setIfInBounds_toArray, List.set_cons_zero, List.set_cons_succ]); (iterate 2 (refine Rm.wpMix_plain rfl rfl ?_; go_big_quiet_step (fail); refine wpQuiet_nil ?_)); (refine Rm.wpMix_load1 (fun W9' h9 => show W9'.cell? _ = some (.int .i64 r.of) from bx_cell (Ext.box h9 HK.out.box) 1) rfl rfl rfl Tryz.underlying3 rfl ?_; simp only [Act.put, List.setIfInBounds_toArray, List.set_cons_zero, List.set_cons_succ]); (iterate 1 (refine Rm.wpMix_plain rfl rfl ?_; go_big_quiet_step (fail); refine wpQuiet_nil ?_)); (iterate 1 (refine Rm.wpMix_plain rfl rfl ?_; go_big_quiet_step (fail); refine wpQuiet_nil ?_)); (try simp only [g1, Bool.not_true, Bool.not_false]); (iterate 1 (refine Rm.wpMix_plain rfl rfl ?_; go_big_quiet_step (fail); refine wpQuiet_nil ?_)))
      refine Rm.wpMix_nil ?_
      rintro w1 hW
      have K1 := Lib.hid (HK.out.keep (show Ext W w1 from hW))
      have M1 := Lib.hid (K1.out.x.box HP.out)
      have Q1 := Lib.hid (K1.out.x.box HQ.out)
      clear HK HM hW
      have d1 := bx_cell M1.out
      have z1 := bx_lt M1.out
      have e1 := bx_cell Q1.out
      have y1 := bx_lt Q1.out
      cases g2 : (r.mode == 1)
      · have hS : doS r m = false := by unfold doS; rw [g2]; simp
        have HS := Lib.hid hS
        clear hS
        go_wp2_with fail
        refine (c_turnsTo K1.out HL.out m.view hv0 hv1 (by simp)).mono ?_
        rintro e w2 ⟨rfl, a1, A1, c1, qs1, A2, c2, os1, k1, ho1⟩
        have hl1 : os1.length ≤ 11 := by
          have h2 := congrArg List.length ho1
          rw [List.length_map] at h2
          have := ttO_len HL.out hv0 hv1
          omega
        have K2 := Lib.hid (show KZ W0 w2 p a1 A1 c1 qs1 (ttR r m.view) A2 c2 os1 from k1)
        have HO1 := Lib.hid ho1
        have M2 := Lib.hid (k1.x.box HP.out)
        clear k1 ho1 K1 M1 Q1 d1 z1 e1 y1
        cases gt : ttB r m.view
        · have HF := Lib.hid (show ttR r m.view = onDoR r m ∧ ttO r m.view = onDoO r m by
          constructor
          · unfold onDoR; rw [HB.out, HS.out, gt]; rfl
          · unfold onDoO; rw [HB.out, HS.out, gt]; simp)
          clear gt
          go_wp2
          exact bodyPost_ret (v := .tuple #[]) (by simp [results, Tryz.results104, go_sem]) rfl ⟨rfl, K2.out.ko HF.out.1 (HO1.out.trans HF.out.2)⟩
        · have HT := Lib.hid (ttB_T HL.out hv0 hv1 gt)
          have hq20 : qs1.length ≤ 20 := by have := K2.out.qlen; have := HT.out.votes; omega
          have d2 := bx_cell M2.out
          have z2 := bx_lt M2.out
          have HG := Lib.hid (show lookR (heard 6 (ttR r m.view) m (doV2 m)) = onDoR r m ∧ ttO r m.view ++ lookO (heard 6 (ttR r m.view) m (doV2 m)) = onDoO r m by
            constructor
            · unfold onDoR; rw [HB.out, HS.out, gt]; rfl
            · unfold onDoO; rw [HB.out, HS.out, gt]; rfl)
          clear gt
          go_wp2_with fail
          refine (c_find 6 m.frm p a1 A1 c1 qs1 (ttR r m.view) _ w2 K2.out.box (votes_rd K2.out) K2.out.rp.e (by omega)).mono ?_
          rintro e w3 ⟨rfl, x3⟩
          have K3 := Lib.hid (K2.out.keep x3)
          have M3 := Lib.hid (x3.box M2.out)
          clear K2 M2 x3 d2 z2
          have d3 := bx_cell M3.out
          have z3 := bx_lt M3.out
          cases gf : decide (findV 6 m.frm (ttR r m.view).votes < 0)
          · have HH := Lib.hid (show ttR r m.view = heard 6 (ttR r m.view) m (doV2 m) by unfold heard; rw [gf]; rfl)
            clear d3 z3
            go_wp2_with fail
            refine (c_look K3.out HT.out (by omega)).mono ?_
            rintro e w4 ⟨rfl, a3, A3, c3, qs3, A4, c4, os3, k3, ho3⟩
            have K4 := Lib.hid k3
            have HO3 := Lib.hid ho3
            clear k3 ho3 K3
            go_wp2
            exact bodyPost_end (v := .tuple #[]) (by simp [results, Tryz.results104, go_sem]) rfl ⟨rfl, K4.out.ko (by rw [← HG.out.1, ← HH.out]) (by rw [← HG.out.2, ← HH.out, List.map_append, HO1.out, HO3.out])⟩
          · have HH := Lib.hid (show (ttR r m.view).voted (doV2 m) = heard 6 (ttR r m.view) m (doV2 m) by unfold heard; rw [gf]; rfl)
            (go_wp2_with (with_reducible refine wl_stop 59 ?_); refine stop_loadAgg (mg_log M3.out (ext_refl _)) rfl Tryz.underlying40 (by kernel_rfl) ?_; simp only [Act.put, List.setIfInBounds_toArray, List.set_cons_zero, List.set_cons_succ])
            go_wp2_with fail
            refine (c_vote K3.out am (doV2 m) (HML.out.keep K3.out.x) hms).mono ?_
            rintro e w4 ⟨rfl, A5, c5, qs5, k5⟩
            have K5 := Lib.hid (k5.cast HH.out)
            have HT5 := Lib.hid (show RpT (heard 6 (ttR r m.view) m (doV2 m)) by rw [← HH.out]; exact HT.out.voted HLg.out)
            clear k5 K3 d3 z3
            go_wp2_with fail
            refine (c_look K5.out HT5.out (by omega)).mono ?_
            rintro e w6 ⟨rfl, a3, A3, c3, qs3, A4, c4, os3, k3, ho3⟩
            have K6 := Lib.hid k3
            have HO3 := Lib.hid ho3
            clear k3 ho3 K5
            go_wp2
            exact bodyPost_end (v := .tuple #[]) (by simp [results, Tryz.results104, go_sem]) rfl ⟨rfl, K6.out.ko HG.out.1 (by rw [← HG.out.2, List.map_append, HO1.out, HO3.out])⟩
      · cases g3 : (r.view == m.view)
        · have hS : doS r m = false := by unfold doS; rw [g3]; simp
          have HS := Lib.hid hS
          clear hS
          go_wp2_with fail
          refine (c_turnsTo K1.out HL.out m.view hv0 hv1 (by simp)).mono ?_
          rintro e w2 ⟨rfl, a1, A1, c1, qs1, A2, c2, os1, k1, ho1⟩
          have hl1 : os1.length ≤ 11 := by
            have h2 := congrArg List.length ho1
            rw [List.length_map] at h2
            have := ttO_len HL.out hv0 hv1
            omega
          have K2 := Lib.hid (show KZ W0 w2 p a1 A1 c1 qs1 (ttR r m.view) A2 c2 os1 from k1)
          have HO1 := Lib.hid ho1
          have M2 := Lib.hid (k1.x.box HP.out)
          clear k1 ho1 K1 M1 Q1 d1 z1 e1 y1
          cases gt : ttB r m.view
          · have HF := Lib.hid (show ttR r m.view = onDoR r m ∧ ttO r m.view = onDoO r m by
            constructor
            · unfold onDoR; rw [HB.out, HS.out, gt]; rfl
            · unfold onDoO; rw [HB.out, HS.out, gt]; simp)
            clear gt
            go_wp2
            exact bodyPost_ret (v := .tuple #[]) (by simp [results, Tryz.results104, go_sem]) rfl ⟨rfl, K2.out.ko HF.out.1 (HO1.out.trans HF.out.2)⟩
          · have HT := Lib.hid (ttB_T HL.out hv0 hv1 gt)
            have hq20 : qs1.length ≤ 20 := by have := K2.out.qlen; have := HT.out.votes; omega
            have d2 := bx_cell M2.out
            have z2 := bx_lt M2.out
            have HG := Lib.hid (show lookR (heard 6 (ttR r m.view) m (doV2 m)) = onDoR r m ∧ ttO r m.view ++ lookO (heard 6 (ttR r m.view) m (doV2 m)) = onDoO r m by
              constructor
              · unfold onDoR; rw [HB.out, HS.out, gt]; rfl
              · unfold onDoO; rw [HB.out, HS.out, gt]; rfl)
            clear gt
            go_wp2_with fail
            refine (c_find 6 m.frm p a1 A1 c1 qs1 (ttR r m.view) _ w2 K2.out.box (votes_rd K2.out) K2.out.rp.e (by omega)).mono ?_
            rintro e w3 ⟨rfl, x3⟩
            have K3 := Lib.hid (K2.out.keep x3)
            have M3 := Lib.hid (x3.box M2.out)
            clear K2 M2 x3 d2 z2
            have d3 := bx_cell M3.out
            have z3 := bx_lt M3.out
            cases gf : decide (findV 6 m.frm (ttR r m.view).votes < 0)
            · have HH := Lib.hid (show ttR r m.view = heard 6 (ttR r m.view) m (doV2 m) by unfold heard; rw [gf]; rfl)
              clear d3 z3
              go_wp2_with fail
              refine (c_look K3.out HT.out (by omega)).mono ?_
              rintro e w4 ⟨rfl, a3, A3, c3, qs3, A4, c4, os3, k3, ho3⟩
              have K4 := Lib.hid k3
              have HO3 := Lib.hid ho3
              clear k3 ho3 K3
              go_wp2
              exact bodyPost_end (v := .tuple #[]) (by simp [results, Tryz.results104, go_sem]) rfl ⟨rfl, K4.out.ko (by rw [← HG.out.1, ← HH.out]) (by rw [← HG.out.2, ← HH.out, List.map_append, HO1.out, HO3.out])⟩
            · have HH := Lib.hid (show (ttR r m.view).voted (doV2 m) = heard 6 (ttR r m.view) m (doV2 m) by unfold heard; rw [gf]; rfl)
              (go_wp2_with (with_reducible refine wl_stop 59 ?_); refine stop_loadAgg (mg_log M3.out (ext_refl _)) rfl Tryz.underlying40 (by kernel_rfl) ?_; simp only [Act.put, List.setIfInBounds_toArray, List.set_cons_zero, List.set_cons_succ])
              go_wp2_with fail
              refine (c_vote K3.out am (doV2 m) (HML.out.keep K3.out.x) hms).mono ?_
              rintro e w4 ⟨rfl, A5, c5, qs5, k5⟩
              have K5 := Lib.hid (k5.cast HH.out)
              have HT5 := Lib.hid (show RpT (heard 6 (ttR r m.view) m (doV2 m)) by rw [← HH.out]; exact HT.out.voted HLg.out)
              clear k5 K3 d3 z3
              go_wp2_with fail
              refine (c_look K5.out HT5.out (by omega)).mono ?_
              rintro e w6 ⟨rfl, a3, A3, c3, qs3, A4, c4, os3, k3, ho3⟩
              have K6 := Lib.hid k3
              have HO3 := Lib.hid ho3
              clear k3 ho3 K5
              go_wp2
              exact bodyPost_end (v := .tuple #[]) (by simp [results, Tryz.results104, go_sem]) rfl ⟨rfl, K6.out.ko HG.out.1 (by rw [← HG.out.2, List.map_append, HO1.out, HO3.out])⟩
        · have HF := Lib.hid (show r = onDoR r m ∧ ([⟨m.frm, startM r⟩] : List Ot) = onDoO r m by
          have hS : doS r m = true := by unfold doS; rw [g2, g3]; rfl
          constructor
          · unfold onDoR; rw [HB.out, hS]; rfl
          · unfold onDoO; rw [HB.out, hS]; rfl)
          go_wp2
          clear d1 z1 e1 y1
          (refine Rm.wp_region_mix' (R := relE w1.heap.size) (fun _ _ _ => True) (fun _ _ _ _ _ hq => hq) 5 (by first | exact Nat.le_refl _ | omega | (simp; omega)) (by kernel_rfl) (by kernel_rfl) ?_; simp only [List.take_succ_cons, List.take_zero, List.drop_succ_cons, List.drop_zero])
          ((iterate 2 (refine Rm.wpMix_plain rfl rfl ?_; go_big_quiet_step (fail); refine wpQuiet_nil ?_)); (refine Rm.wpMix_load1 (fun W9' h9 => show W9'.cell? _ = some (.int .i64 m.frm) from bx_cell (Ext.box h9 M1.out) 1) rfl rfl rfl Tryz.underlying3 rfl ?_; simp only [Act.put, List.setIfInBounds_toArray, List.set_cons_zero, List.set_cons_succ]); (iterate 1 (refine Rm.wpMix_plain rfl rfl ?_; go_big_quiet_step (fail); refine wpQuiet_nil ?_)))
          (refine Rm.wpMix_det rfl rfl rfl (enters Tryz.func106 (by kernel_rfl) rfl) (fun W9' h9 => c_startMsg (Ext.box h9 K1.out.box)) rfl ?_; simp only [Act.put, List.setIfInBounds_toArray, List.set_cons_zero, List.set_cons_succ])
          refine Rm.wpMix_nil ?_
          rintro w2 hW
          have K2 := Lib.hid (K1.out.keep (show Ext w1 w2 from hW))
          clear K1 M1 Q1 hW
          go_wp2_with fail
          refine (c_sendZ W0 p a A c qs r [] Ao co m.frm a (startM r) w2 K2.out K2.out.rp.l.rd hs (by simp)).mono ?_
          rintro e w3 ⟨rfl, A3, c3, a3, k3, cg⟩
          have K3 := Lib.hid k3
          clear k3 cg K2
          go_wp2
          exact bodyPost_ret (v := .tuple #[]) (by simp [results, Tryz.results104, go_sem]) rfl ⟨rfl, K3.out.ko HF.out.1 HF.out.2⟩
    · have HF := Lib.hid (show r = onDoR r m ∧ ([] : List Ot) = onDoO r m by
      have hB : doB r m = false := by unfold doB; rw [show (r.me == m.view % r.of) = false by simpa using g1, Bool.and_false]
      constructor
      · unfold onDoR; rw [hB]; rfl
      · unfold onDoO; rw [hB]; rfl)
      (refine Rm.wp_region_mix' (R := relE W.heap.size) (fun _ _ _ => True) (fun _ _ _ _ _ hq => hq) 19 (by first | exact Nat.le_refl _ | omega | (simp; omega)) (by kernel_rfl) (by kernel_rfl) ?_; simp only [List.take_succ_cons, List.take_zero, List.drop_succ_cons, List.drop_zero])
      ((iterate 1 (refine Rm.wpMix_plain rfl rfl ?_; go_big_quiet_step (fail); refine wpQuiet_nil ?_)))
      (refine Rm.wpMix_det rfl rfl rfl (enters Tryz.func87 (by kernel_rfl) rfl) (fun W9' h9 => c_awake p a A qs.length c r _ W9' (Ext.box h9 HK.out.box)) rfl ?_; simp only [Act.put, List.setIfInBounds_toArray, List.set_cons_zero, List.set_cons_succ])
      ((try simp only [gl, Bool.not_true, Bool.not_false]); (iterate 3 (refine Rm.wpMix_plain rfl rfl ?_; go_big_quiet_step (fail); refine wpQuiet_nil ?_)); (refine Rm.wpMix_nilp rfl rfl rfl ?_; simp only [Act.put, List.setIfInBounds_toArray, List.set_cons_zero, List.set_cons_succ]); (iterate 2 (refine Rm.wpMix_plain rfl rfl ?_; go_big_quiet_step (fail); refine wpQuiet_nil ?_)); (refine Rm.wpMix_load1 (fun W9' h9 => show W9'.cell? _ = some (.int .i64 r.me) from bx_cell (Ext.box h9 HK.out.box) 0) rfl rfl rfl Tryz.underlying3 rfl ?_; simp only [Act.put, List.setIfInBounds_toArray, List.set_cons_zero, List.set_cons_succ]); (iterate 1 (refine Rm.wpMix_plain rfl rfl ?_; go_big_quiet_step (fail); refine wpQuiet_nil ?_)); (refine Rm.wpMix_load1 (fun W9' h9 => show W9'.cell? _ = some (.int .i64 m.view) from bx_cell (Ext.box h9 HM.out) 2) rfl rfl rfl Tryz.underlying3 rfl ?_; simp only [Act.put, List.setIfInBounds_toArray, List.set_cons_zero, List.set_cons_succ]); (iterate 1 (refine Rm.wpMix_plain rfl rfl ?_; go_big_quiet_step (fail); refine wpQuiet_nil ?_)); (refine Rm.wpMix_nilp rfl rfl rfl ?_; simp only [Act.put, List.setIfInBounds_toArray, List.set_cons_zero, List.set_cons_succ]); (iterate 2 (refine Rm.wpMix_plain rfl rfl ?_; go_big_quiet_step (fail); refine wpQuiet_nil ?_)); (refine Rm.wpMix_load1 (fun W9' h9 => show W9'.cell? _ = some (.int .i64 r.of) from bx_cell (Ext.box h9 HK.out.box) 1) rfl rfl rfl Tryz.underlying3 rfl ?_; simp only [Act.put, List.setIfInBounds_toArray, List.set_cons_zero, List.set_cons_succ]); (iterate 1 (refine Rm.wpMix_plain rfl rfl ?_; go_big_quiet_step (fail); refine wpQuiet_nil ?_)); (iterate 1 (refine Rm.wpMix_plain rfl rfl ?_; go_big_quiet_step (fail); refine wpQuiet_nil ?_)); (try simp only [g1, Bool.not_true, Bool.not_false]); (iterate 1 (refine Rm.wpMix_plain rfl rfl ?_; go_big_quiet_step (fail); refine wpQuiet_nil ?_)))
      refine Rm.wpMix_nil ?_
      rintro w1 hW
      have K1 := Lib.hid (HK.out.keep (show Ext W w1 from hW))
      have M1 := Lib.hid (K1.out.x.box HP.out)
      have Q1 := Lib.hid (K1.out.x.box HQ.out)
      clear HK HM hW
      go_wp2
      exact bodyPost_ret (v := .tuple #[]) (by simp [results, Tryz.results104, go_sem]) rfl ⟨rfl, K1.out.ko HF.out.1 HF.out.2⟩
end
end Go.Proofs.YtkenlhdiehaemaaGreat
