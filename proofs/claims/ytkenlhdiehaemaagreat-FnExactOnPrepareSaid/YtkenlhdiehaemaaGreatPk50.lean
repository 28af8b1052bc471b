/- What is done at a message to prepare. -/
import Derived.Test.YtkenlhdiehaemaaGreatPk48
import Derived.Test.YtkenlhdiehaemaaGreatPk49
import Derived.RegionTactic
import Derived.BigRegion
import Derived.Deep.RegionWith
namespace Go.Proofs.YtkenlhdiehaemaaGreat
open Go.ChangeShapes Go.WideShapes Go.ChangeAt Go.RowKit Go.Sort
set_option linter.unusedVariables false
set_option linter.unusedSimpArgs false
def entM (m : Mg) : Ent := ⟨m.client, m.req, m.ck, m.cx, m.cv⟩
def prepR (r : Rp) (m : Mg) : Rp :=
 if (liveB r && followB r m) = true then
  if decide (r.log.fin + 1 < m.op) = true then r
  else if (m.op == r.log.fin + 1) = true then (if putOk (pLog r) (entM m) = true then (r.putE (entM m)).upTo m.commit else r) else r.upTo m.commit
 else r
def prepO (r : Rp) (m : Mg) : List Ot := followO r m ++
 if (liveB r && followB r m) = true then
  if decide (r.log.fin + 1 < m.op) = true then [⟨m.frm, askM2 r r.view r.log.fin⟩]
  else if ((m.op == r.log.fin + 1) && !putOk (pLog r) (entM m)) = true then [] else [⟨m.frm, okM (prepR r m)⟩]
 else []
theorem putL_ok {L : Lg} {e : Ent} (h : logOk L = true) : logOk (putL L e) = true := by
 cases q : putOk L e
 ·rw [put_no q]; exact h
 ·rw [put_yes q]
  obtain ⟨hb0, hb1, h60, hI, hA⟩ := log_b h
  unfold putOk at q
  simp only [Bool.and_eq_true, Bool.not_eq_true', beq_eq_false_iff_ne, ne_eq] at q
  obtain ⟨q1, q2, q3⟩ := q
  unfold Lg.fin at q3
  refine decide_eq_true ⟨?_, hI.ok, ?_, ?_, ?_⟩
  ·rw [inB_yes]
   show 0 ≤ L.base ∧ L.base ≤ 1000000000
   omega
  ·show (L.ents ++ [e]).length ≤ 60
   rw [List.length_append, List.length_singleton]; omega
  ·rw [inB_yes]
   show 0 ≤ L.base + ((L.ents ++ [e]).length : Int) ∧ L.base + ((L.ents ++ [e]).length : Int) ≤ 1000000000
   rw [List.length_append, List.length_singleton]; omega
  ·intro x hx
   rcases List.mem_append.1 hx with hx | hx
   ·exact hA x hx
   ·rw [List.mem_singleton] at hx
    rw [hx]; exact q1
theorem putE_ok {r : Rp} {e : Ent} (h : rpOk r = true) : logOk (r.putE e).log = true := by
 cases q : putOk (pLog r) e
 ·rw [putE_no q]
  obtain ⟨_, _, _, _, hl⟩ := rp_num h
  exact hl
 ·rw [putE_yes q]; exact putL_ok (pLog_ok h)
section
variable {W0 W : World} {p P : Nat} {r : Rp} {am : LAd} {m : Mg}
set_option maxRecDepth 100000 in
set_option maxHeartbeats 8000000 in
theorem c_prep1 (hk : KO W0 W p r []) (hP : W0.heap[P]? = some (Mg.obj am m)) (hM : LgR W0 am m.log) (hs : r.log.small) (hms : m.log.small) (hb : (rpOk r && hearB r m 2) = true) :
  Calls Tryz.prog 108 #[.pointer (some ⟨p, 0, none⟩), .pointer (some ⟨P, 0, none⟩)] W fun e w' => e = .returned (.tuple #[]) ∧ KO W0 w' p (prepR r m) (prepO r m) := by
 obtain ⟨a, A, c, qs, Ao, co, os, hk, hos⟩ := hk
 obtain rfl : os = [] := by simpa using hos
 have HRok := Lib.hid (hear_facts hb).1
 have G := Lib.hid (rpOk_good (hear_facts hb).1)
 have hg0 := G.out.base0
 have hg1 := G.out.base1
 have hg2 := G.out.ents
 have hf1 := G.out.fin
 have hf0 : 0 ≤ r.log.fin := by unfold Lg.fin; omega
 have HK := Lib.hid hk
 have HP := Lib.hid hP
 have HM := Lib.hid (hk.x.box hP)
 clear hk hP hM hos
 go_enter Tryz.func108, Tryz.ntmps108
 (go_wp2_with (with_reducible refine wl_stop 4 ?_); refine stop_load (HM.out) rfl Tryz.underlying60 (by kernel_rfl) ?_; simp only [Act.put, List.setIfInBounds_toArray, List.set_cons_zero, List.set_cons_succ])
 go_wp2_with fail
 refine (c_follows HK.out am m (by simp) G.out.of G.out.view0).mono ?_
 rintro e w1 ⟨rfl, A1, c1, os1, k1, ho1⟩
 have hl1 := followO_1 ho1
 have K1 := Lib.hid k1
 have H1 := Lib.hid ho1
 have M1 := Lib.hid (k1.x.box HP.out)
 clear k1 ho1 HK HM
 cases gf : (liveB r && followB r m)
 ·have HF := Lib.hid (show r = prepR r m ∧ followO r m = prepO r m by
   constructor
   ·simp [prepR, gf]
   ·unfold prepO
    rw [gf]; simp)
  clear gf
  go_wp2
  exact bodyPost_ret (v := .tuple #[]) (by simp [results, Tryz.results108, go_sem]) rfl ⟨rfl, K1.out.ko HF.out.1 (by rw [← HF.out.2, List.nil_append]; exact H1.out)⟩
 ·go_wp2
  (refine Rm.wp_region_mix' (R := relE w1.heap.size) (fun _ _ _ => True) (fun _ _ _ _ _ hq => hq) 10 (by first | exact Nat.le_refl _ | omega | (simp; omega)) (by kernel_rfl) (by kernel_rfl) ?_; simp only [List.take_succ_cons, List.take_zero, List.drop_succ_cons, List.drop_zero])
  ((iterate 1 (refine Rm.wpMix_plain rfl rfl ?_; go_big_quiet_step (fail); refine wpQuiet_nil ?_)); (refine Rm.wpMix_load1 (fun W9' h9 => show W9'.cell? _ = some (.int .i64 m.op) from bx_cell (Ext.box h9 M1.out) 3) rfl rfl rfl Tryz.underlying3 rfl ?_; simp only [Act.put, List.setIfInBounds_toArray, List.set_cons_zero, List.set_cons_succ]); (iterate 1 (refine Rm.wpMix_plain rfl rfl ?_; go_big_quiet_step (fail); refine wpQuiet_nil ?_)); (refine Rm.wpMix_nilp rfl rfl rfl ?_; simp only [Act.put, List.setIfInBounds_toArray, List.set_cons_zero, List.set_cons_succ]); (iterate 2 (refine Rm.wpMix_plain rfl rfl ?_; go_big_quiet_step (fail); refine wpQuiet_nil ?_)))
  (refine Rm.wpMix_loadAgg (fun W9' h9 => kp_log K1.out.box h9) rfl rfl rfl Tryz.underlying40 (by kernel_rfl) ?_; simp only [Act.put, List.setIfInBounds_toArray, List.set_cons_zero, List.set_cons_succ])
  (refine Rm.wpMix_det rfl rfl rfl (enters Tryz.func76 (by kernel_rfl) rfl) (fun W9' h9 => c_end a r.log W9' (by omega) (by omega) (by omega)) rfl ?_; simp only [Act.put, List.setIfInBounds_toArray, List.set_cons_zero, List.set_cons_succ])
  ((iterate 2 (refine Rm.wpMix_plain rfl rfl ?_; go_big_quiet_step (fail); refine wpQuiet_nil ?_)))
  refine Rm.wpMix_nil ?_
  rintro w2 hW
  have xx : Ext w1 w2 := hW
  have K2 := Lib.hid (K1.out.keep xx)
  have M2 := Lib.hid (xx.box M1.out)
  clear K1 M1 hW xx
  cases g1 : decide (r.log.fin + 1 < m.op)
  ·cases g2 : (m.op == r.log.fin + 1)
   ·have hne : ¬ m.op = r.log.fin + 1 := by simpa using g2
    have HF := Lib.hid (show r.upTo m.commit = prepR r m ∧ followO r m ++ [⟨m.frm, okM (r.upTo m.commit)⟩] = prepO r m by
     have h1 : prepR r m = r.upTo m.commit := by simp [prepR, gf, g1, g2]
     refine ⟨h1.symm, ?_⟩
     unfold prepO
     rw [gf, g1, g2, h1]; simp)
    clear gf hne
    go_wp2
    (refine Rm.wp_region_mix' (R := relE w2.heap.size) (fun _ _ _ => True) (fun _ _ _ _ _ hq => hq) 22 (by first | exact Nat.le_refl _ | omega | (simp; omega)) (by kernel_rfl) (by kernel_rfl) ?_; simp only [List.take_succ_cons, List.take_zero, List.drop_succ_cons, List.drop_zero])
    ((iterate 1 (refine Rm.wpMix_plain rfl rfl ?_; go_big_quiet_step (fail); refine wpQuiet_nil ?_)); (refine Rm.wpMix_load1 (fun W9' h9 => show W9'.cell? _ = some (.int .i64 m.op) from bx_cell (Ext.box h9 M2.out) 3) rfl rfl rfl Tryz.underlying3 rfl ?_; simp only [Act.put, List.setIfInBounds_toArray, List.set_cons_zero, List.set_cons_succ]); (iterate 1 (refine Rm.wpMix_plain rfl rfl ?_; go_big_quiet_step (fail); refine wpQuiet_nil ?_)); (refine Rm.wpMix_nilp rfl rfl rfl ?_; simp only [Act.put, List.setIfInBounds_toArray, List.set_cons_zero, List.set_cons_succ]); (iterate 2 (refine Rm.wpMix_plain rfl rfl ?_; go_big_quiet_step (fail); refine wpQuiet_nil ?_)))
    (refine Rm.wpMix_loadAgg (fun W9' h9 => kp_log K2.out.box h9) rfl rfl rfl Tryz.underlying40 (by kernel_rfl) ?_; simp only [Act.put, List.setIfInBounds_toArray, List.set_cons_zero, List.set_cons_succ])
    (refine Rm.wpMix_det rfl rfl rfl (enters Tryz.func76 (by kernel_rfl) rfl) (fun W9' h9 => c_end a r.log W9' (by omega) (by omega) (by omega)) rfl ?_; simp only [Act.put, List.setIfInBounds_toArray, List.set_cons_zero, List.set_cons_succ])
    ((iterate 2 (refine Rm.wpMix_plain rfl rfl ?_; go_big_quiet_step (fail); refine wpQuiet_nil ?_)); (try simp only [g2, Bool.not_true, Bool.not_false]); (iterate 1 (refine Rm.wpMix_plain rfl rfl ?_; go_big_quiet_step (fail); refine wpQuiet_nil ?_)); (iterate 10 (refine Rm.wpMix_skip rfl rfl ?_; simp only [Act.put, List.setIfInBounds_toArray, List.set_cons_zero, List.set_cons_succ])); (iterate 1 (refine Rm.wpMix_plain rfl rfl ?_; go_big_quiet_step (fail); refine wpQuiet_nil ?_)))
    refine Rm.wpMix_nil ?_
    rintro w3 hW
    have xx : Ext w2 w3 := hW
    have K3 := Lib.hid (K2.out.keep xx)
    have M3 := Lib.hid (xx.box M2.out)
    clear K2 M2 hW xx
    have d2 := bx_cell M3.out
    have z2 := bx_lt M3.out
    go_wp2_with fail
    refine (c_upTo K3.out m.commit (by omega) (by omega) (by omega)).mono ?_
    rintro e w5 ⟨rfl, k5⟩
    have K5 := Lib.hid k5
    have M5 := Lib.hid (k5.x.box HP.out)
    clear k5 d2 z2 K3 M3
    have d5 := bx_cell M5.out
    have z5 := bx_lt M5.out
    go_wp2_with fail
    refine (c_ok K5.out m.frm (by rw [List.nil_append]; omega) (by show 0 ≤ (r).log.base; omega) (by show (r).log.base ≤ _; omega) (by show (r).log.ents.length ≤ _; omega)).mono ?_
    rintro e w6 ⟨rfl, A6, c6, a6, k6⟩
    have K6 := Lib.hid k6
    clear k6 K5 M5 d5 z5
    go_wp2
    exact bodyPost_end (v := .tuple #[]) (by simp [results, Tryz.results108, go_sem]) rfl ⟨rfl, K6.out.ko HF.out.1 (by rw [← HF.out.2, List.nil_append, List.map_append, H1.out]; rfl)⟩
   ·cases q : putOk (pLog r) (entM m)
    ·have HF := Lib.hid (show r.putE (entM m) = prepR r m ∧ followO r m = prepO r m by
      have h1 : prepR r m = r := by simp [prepR, gf, g1, g2, q]
      refine ⟨by rw [h1]; exact putE_no q, ?_⟩
      unfold prepO
      rw [gf, g1, g2, q]; simp)
     clear gf
     have HPut := Lib.hid (show ∀ W', Ext w2 W' → Calls Tryz.prog 109 #[.pointer (some ⟨p, 0, none⟩), .agg #[.int .i64 m.client, .int .i64 m.req, .int .i64 m.ck, .int .i64 m.cx, .int .i64 m.cv]] W' fun e9 w' => e9 = .returned (.bool false) ∧ ∃ a', KZ W0 w' p a' A c qs (r.putE (entM m)) A1 c1 os1 from fun W' h => by
      have h5 := c_kput (K2.out.keep h) (entM m) HRok.out
      rw [q] at h5
      exact h5)
     go_wp2
     (refine Rm.wp_region_mix' (R := relE w2.heap.size) (fun _ _ _ => True) (fun _ _ _ _ _ hq => hq) 19 (by first | exact Nat.le_refl _ | omega | (simp; omega)) (by kernel_rfl) (by kernel_rfl) ?_; simp only [List.take_succ_cons, List.take_zero, List.drop_succ_cons, List.drop_zero])
     ((iterate 1 (refine Rm.wpMix_plain rfl rfl ?_; go_big_quiet_step (fail); refine wpQuiet_nil ?_)); (refine Rm.wpMix_load1 (fun W9' h9 => show W9'.cell? _ = some (.int .i64 m.op) from bx_cell (Ext.box h9 M2.out) 3) rfl rfl rfl Tryz.underlying3 rfl ?_; simp only [Act.put, List.setIfInBounds_toArray, List.set_cons_zero, List.set_cons_succ]); (iterate 1 (refine Rm.wpMix_plain rfl rfl ?_; go_big_quiet_step (fail); refine wpQuiet_nil ?_)); (refine Rm.wpMix_nilp rfl rfl rfl ?_; simp only [Act.put, List.setIfInBounds_toArray, List.set_cons_zero, List.set_cons_succ]); (iterate 2 (refine Rm.wpMix_plain rfl rfl ?_; go_big_quiet_step (fail); refine wpQuiet_nil ?_)))
     (refine Rm.wpMix_loadAgg (fun W9' h9 => kp_log K2.out.box h9) rfl rfl rfl Tryz.underlying40 (by kernel_rfl) ?_; simp only [Act.put, List.setIfInBounds_toArray, List.set_cons_zero, List.set_cons_succ])
     (refine Rm.wpMix_det rfl rfl rfl (enters Tryz.func76 (by kernel_rfl) rfl) (fun W9' h9 => c_end a r.log W9' (by omega) (by omega) (by omega)) rfl ?_; simp only [Act.put, List.setIfInBounds_toArray, List.set_cons_zero, List.set_cons_succ])
     ((iterate 2 (refine Rm.wpMix_plain rfl rfl ?_; go_big_quiet_step (fail); refine wpQuiet_nil ?_)); (try simp only [g2, Bool.not_true, Bool.not_false]); (iterate 3 (refine Rm.wpMix_plain rfl rfl ?_; go_big_quiet_step (fail); refine wpQuiet_nil ?_)))
     (refine Rm.wpMix_load1 (fun W9' h9 => show W9'.cell? _ = some (.int .i64 m.client) from bx_cell (Ext.box h9 M2.out) 7) rfl rfl rfl Tryz.underlying3 rfl ?_; simp only [Act.put, List.setIfInBounds_toArray, List.set_cons_zero, List.set_cons_succ])
     (iterate 1 (refine Rm.wpMix_plain rfl rfl ?_; go_big_quiet_step (fail); refine wpQuiet_nil ?_))
     (refine Rm.wpMix_load1 (fun W9' h9 => show W9'.cell? _ = some (.int .i64 m.req) from bx_cell (Ext.box h9 M2.out) 8) rfl rfl rfl Tryz.underlying3 rfl ?_; simp only [Act.put, List.setIfInBounds_toArray, List.set_cons_zero, List.set_cons_succ])
     (iterate 1 (refine Rm.wpMix_plain rfl rfl ?_; go_big_quiet_step (fail); refine wpQuiet_nil ?_))
     (refine Rm.wpMix_loadAgg (fun W9' h9 => cells_mid (cs := #[.int .i64 m.ck, .int .i64 m.cx, .int .i64 m.cv]) (Ext.box h9 M2.out) [.int .i64 m.kind, .int .i64 m.frm, .int .i64 m.view, .int .i64 m.op, .int .i64 m.commit, .int .i64 m.normal, .int .i64 m.nonce, .int .i64 m.client, .int .i64 m.req, .int .i64 m.answer] _ rfl rfl) rfl rfl rfl Tryz.underlying58 (by kernel_rfl) ?_; simp only [Act.put, List.setIfInBounds_toArray, List.set_cons_zero, List.set_cons_succ])
     (iterate 1 (refine Rm.wpMix_plain rfl rfl ?_; go_big_quiet_step (fail); refine wpQuiet_nil ?_))
     refine Rm.wpMix_nil ?_
     rintro w3 hW
     have xx : Ext w2 w3 := hW
     have hput := HPut.out w3 xx
     have HP3 := Lib.hid hput
     clear hput HPut K2 M2 hW xx
     go_wp2_with fail
     refine HP3.out.mono ?_
     rintro e9 w4 ⟨rfl, a4, k4⟩
     have K4 := Lib.hid k4
     clear k4 HP3
     go_wp2
     exact bodyPost_ret (v := .tuple #[]) (by simp [results, Tryz.results108, go_sem]) rfl ⟨rfl, K4.out.ko HF.out.1 (by rw [← HF.out.2]; exact H1.out)⟩
    ·have HF := Lib.hid (show (r.putE (entM m)).upTo m.commit = prepR r m ∧ followO r m ++ [⟨m.frm, okM ((r.putE (entM m)).upTo m.commit)⟩] = prepO r m by
      have h1 : prepR r m = (r.putE (entM m)).upTo m.commit := by simp [prepR, gf, g1, g2, q]
      refine ⟨h1.symm, ?_⟩
      unfold prepO
      rw [gf, g1, g2, q, h1]; simp)
     clear gf
     obtain ⟨hp0, hp1, hp2, _⟩ := logOk_facts (putE_ok (e := entM m) HRok.out)
     have HPut := Lib.hid (show ∀ W', Ext w2 W' → Calls Tryz.prog 109 #[.pointer (some ⟨p, 0, none⟩), .agg #[.int .i64 m.client, .int .i64 m.req, .int .i64 m.ck, .int .i64 m.cx, .int .i64 m.cv]] W' fun e9 w' => e9 = .returned (.bool true) ∧ ∃ a', KZ W0 w' p a' A c qs (r.putE (entM m)) A1 c1 os1 from fun W' h => by
      have h5 := c_kput (K2.out.keep h) (entM m) HRok.out
      rw [q] at h5
      exact h5)
     go_wp2
     (refine Rm.wp_region_mix' (R := relE w2.heap.size) (fun _ _ _ => True) (fun _ _ _ _ _ hq => hq) 19 (by first | exact Nat.le_refl _ | omega | (simp; omega)) (by kernel_rfl) (by kernel_rfl) ?_; simp only [List.take_succ_cons, List.take_zero, List.drop_succ_cons, List.drop_zero])
     ((iterate 1 (refine Rm.wpMix_plain rfl rfl ?_; go_big_quiet_step (fail); refine wpQuiet_nil ?_)); (refine Rm.wpMix_load1 (fun W9' h9 => show W9'.cell? _ = some (.int .i64 m.op) from bx_cell (Ext.box h9 M2.out) 3) rfl rfl rfl Tryz.underlying3 rfl ?_; simp only [Act.put, List.setIfInBounds_toArray, List.set_cons_zero, List.set_cons_succ]); (iterate 1 (refine Rm.wpMix_plain rfl rfl ?_; go_big_quiet_step (fail); refine wpQuiet_nil ?_)); (refine Rm.wpMix_nilp rfl rfl rfl ?_; simp only [Act.put, List.setIfInBounds_toArray, List.set_cons_zero, List.set_cons_succ]); (iterate 2 (refine Rm.wpMix_plain rfl rfl ?_; go_big_quiet_step (fail); refine wpQuiet_nil ?_)))
     (refine Rm.wpMix_loadAgg (fun W9' h9 => kp_log K2.out.box h9) rfl rfl rfl Tryz.underlying40 (by kernel_rfl) ?_; simp only [Act.put, List.setIfInBounds_toArray, List.set_cons_zero, List.set_cons_succ])
     (refine Rm.wpMix_det rfl rfl rfl (enters Tryz.func76 (by kernel_rfl) rfl) (fun W9' h9 => c_end a r.log W9' (by omega) (by omega) (by omega)) rfl ?_; simp only [Act.put, List.setIfInBounds_toArray, List.set_cons_zero, List.set_cons_succ])
     ((iterate 2 (refine Rm.wpMix_plain rfl rfl ?_; go_big_quiet_step (fail); refine wpQuiet_nil ?_)); (try simp only [g2, Bool.not_true, Bool.not_false]); (iterate 3 (refine Rm.wpMix_plain rfl rfl ?_; go_big_quiet_step (fail); refine wpQuiet_nil ?_)))
     (refine Rm.wpMix_load1 (fun W9' h9 => show W9'.cell? _ = some (.int .i64 m.client) from bx_cell (Ext.box h9 M2.out) 7) rfl rfl rfl Tryz.underlying3 rfl ?_; simp only [Act.put, List.setIfInBounds_toArray, List.set_cons_zero, List.set_cons_succ])
     (iterate 1 (refine Rm.wpMix_plain rfl rfl ?_; go_big_quiet_step (fail); refine wpQuiet_nil ?_))
     (refine Rm.wpMix_load1 (fun W9' h9 => show W9'.cell? _ = some (.int .i64 m.req) from bx_cell (Ext.box h9 M2.out) 8) rfl rfl rfl Tryz.underlying3 rfl ?_; simp only [Act.put, List.setIfInBounds_toArray, List.set_cons_zero, List.set_cons_succ])
     (iterate 1 (refine Rm.wpMix_plain rfl rfl ?_; go_big_quiet_step (fail); refine wpQuiet_nil ?_))
     (refine Rm.wpMix_loadAgg (fun W9' h9 => cells_mid (cs := #[.int .i64 m.ck, .int .i64 m.cx, .int .i64 m.cv]) (Ext.box h9 M2.out) [.int .i64 m.kind, .int .i64 m.frm, .int .i64 m.view, .int .i64 m.op, .int .i64 m.commit, .int .i64 m.normal, .int .i64 m.nonce, .int .i64 m.client, .int .i64 m.req, .int .i64 m.answer] _ rfl rfl) rfl rfl rfl Tryz.underlying58 (by kernel_rfl) ?_; simp only [Act.put, List.setIfInBounds_toArray, List.set_cons_zero, List.set_cons_succ])
     (iterate 1 (refine Rm.wpMix_plain rfl rfl ?_; go_big_quiet_step (fail); refine wpQuiet_nil ?_))
     refine Rm.wpMix_nil ?_
     rintro w3 hW
     have xx : Ext w2 w3 := hW
     have hput := HPut.out w3 xx
     have HP3 := Lib.hid hput
     clear hput HPut K2 M2 hW xx
     go_wp2_with fail
     refine HP3.out.mono ?_
     rintro e9 w4 ⟨rfl, a4, k4⟩
     have K4 := Lib.hid k4
     have M4 := Lib.hid (k4.x.box HP.out)
     clear k4 HP3
     have d2 := bx_cell M4.out
     have z2 := bx_lt M4.out
     go_wp2_with fail
     refine (c_upTo K4.out m.commit (by omega) (by omega) (by omega)).mono ?_
     rintro e w5 ⟨rfl, k5⟩
     have K5 := Lib.hid k5
     have M5 := Lib.hid (k5.x.box HP.out)
     clear k5 d2 z2 K4 M4
     have d5 := bx_cell M5.out
     have z5 := bx_lt M5.out
     go_wp2_with fail
     refine (c_ok K5.out m.frm (by omega) (by show 0 ≤ (r.putE (entM m)).log.base; omega) (by show (r.putE (entM m)).log.base ≤ _; omega) (by show (r.putE (entM m)).log.ents.length ≤ _; omega)).mono ?_
     rintro e w6 ⟨rfl, A6, c6, a6, k6⟩
     have K6 := Lib.hid k6
     clear k6 K5 M5 d5 z5
     go_wp2
     exact bodyPost_end (v := .tuple #[]) (by simp [results, Tryz.results108, go_sem]) rfl ⟨rfl, K6.out.ko HF.out.1 (by rw [← HF.out.2, List.map_append, H1.out]; rfl)⟩
  ·have HF := Lib.hid (show r = prepR r m ∧ followO r m ++ [⟨m.frm, askM2 r r.view r.log.fin⟩] = prepO r m by
    constructor
    ·simp [prepR, gf, g1]
    ·unfold prepO
     rw [gf, g1]; simp)
   clear gf
   go_wp2
   (refine Rm.wp_region_mix' (R := relE w2.heap.size) (fun _ _ _ => True) (fun _ _ _ _ _ hq => hq) 14 (by first | exact Nat.le_refl _ | omega | (simp; omega)) (by kernel_rfl) (by kernel_rfl) ?_; simp only [List.take_succ_cons, List.take_zero, List.drop_succ_cons, List.drop_zero])
   ((iterate 2 (refine Rm.wpMix_plain rfl rfl ?_; go_big_quiet_step (fail); refine wpQuiet_nil ?_)); (refine Rm.wpMix_load1 (fun W9' h9 => show W9'.cell? _ = some (.int .i64 m.frm) from bx_cell (Ext.box h9 M2.out) 1) rfl rfl rfl Tryz.underlying3 rfl ?_; simp only [Act.put, List.setIfInBounds_toArray, List.set_cons_zero, List.set_cons_succ]); (iterate 1 (refine Rm.wpMix_plain rfl rfl ?_; go_big_quiet_step (fail); refine wpQuiet_nil ?_)); (refine Rm.wpMix_nilp rfl rfl rfl ?_; simp only [Act.put, List.setIfInBounds_toArray, List.set_cons_zero, List.set_cons_succ]); (iterate 2 (refine Rm.wpMix_plain rfl rfl ?_; go_big_quiet_step (fail); refine wpQuiet_nil ?_)); (refine Rm.wpMix_load1 (fun W9' h9 => show W9'.cell? _ = some (.int .i64 r.view) from bx_cell (Ext.box h9 K2.out.box) 3) rfl rfl rfl Tryz.underlying3 rfl ?_; simp only [Act.put, List.setIfInBounds_toArray, List.set_cons_zero, List.set_cons_succ]); (iterate 1 (refine Rm.wpMix_plain rfl rfl ?_; go_big_quiet_step (fail); refine wpQuiet_nil ?_)); (refine Rm.wpMix_nilp rfl rfl rfl ?_; simp only [Act.put, List.setIfInBounds_toArray, List.set_cons_zero, List.set_cons_succ]); (iterate 2 (refine Rm.wpMix_plain rfl rfl ?_; go_big_quiet_step (fail); refine wpQuiet_nil ?_)))
   (refine Rm.wpMix_loadAgg (fun W9' h9 => kp_log K2.out.box h9) rfl rfl rfl Tryz.underlying40 (by kernel_rfl) ?_; simp only [Act.put, List.setIfInBounds_toArray, List.set_cons_zero, List.set_cons_succ])
   (refine Rm.wpMix_det rfl rfl rfl (enters Tryz.func76 (by kernel_rfl) rfl) (fun W9' h9 => c_end a r.log W9' (by omega) (by omega) (by omega)) rfl ?_; simp only [Act.put, List.setIfInBounds_toArray, List.set_cons_zero, List.set_cons_succ])
   refine Rm.wpMix_nil ?_
   rintro w3 hW3
   have K3 := Lib.hid (K2.out.keep (show Ext w2 w3 from hW3))
   clear K2 M2 hW3
   go_wp2_with fail
   refine (c_askState K3.out m.frm r.view r.log.fin (by rw [List.nil_append]; omega)).mono ?_
   rintro e w4 ⟨rfl, A4, c4, a4, k4⟩
   have K4 := Lib.hid k4
   clear k4 K3
   go_wp2
   exact bodyPost_ret (v := .tuple #[]) (by simp [results, Tryz.results108, go_sem]) rfl ⟨rfl, K4.out.ko HF.out.1 (by rw [← HF.out.2, List.nil_append, List.map_append, H1.out]; rfl)⟩
end
end Go.Proofs.YtkenlhdiehaemaaGreat
