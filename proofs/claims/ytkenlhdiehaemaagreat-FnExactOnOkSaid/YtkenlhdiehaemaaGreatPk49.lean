/- OnOk of the program. -/
import Derived.Test.YtkenlhdiehaemaaGreatPk41
import Derived.Test.YtkenlhdiehaemaaGreatPk48
import Derived.Test.YtkenlhdiehaemaaGreatPk44
import Derived.RegionTactic
import Derived.BigRegion
import Derived.Deep.RegionWith
namespace Go.Proofs.YtkenlhdiehaemaaGreat
open Go.ChangeShapes Go.WideShapes Go.ChangeAt Go.RowKit Go.Sort
set_option linter.unusedVariables false
set_option linter.unusedSimpArgs false
section
variable {W0 W : World} {p P : Nat} {r : Rp} {am : LAd} {m : Mg}
set_option maxRecDepth 100000 in
set_option maxHeartbeats 8000000 in
theorem c_ok1 (hk : KO W0 W p r []) (hP : W0.heap[P]? = some (Mg.obj am m)) (hM : LgR W0 am m.log) (hs : r.log.small) (hms : m.log.small) (hb : (rpOk r && hearB r m 3) = true) :
  Calls Tryz.prog 113 #[.pointer (some ⟨p, 0, none⟩), .pointer (some ⟨P, 0, none⟩)] W fun e w' => e = .returned (.tuple #[]) ∧ KO W0 w' p (okR r m) (okO r m) := by
 obtain ⟨a, A, c, qs, Ao, co, os, hk, hos⟩ := hk
 obtain rfl : os = [] := by simpa using hos
 have HRok := Hd (hear_facts hb).1
 have G := Hd (rpOk_good (hear_facts hb).1)
 have hg0 := G.out.base0
 have hg1 := G.out.base1
 have hg2 := G.out.ents
 have hg3 := G.out.c0
 have hg4 := G.out.c1
 have hf1 := G.out.fin
 have hf0 : 0 ≤ r.log.fin := by unfold Lg.fin; omega
 have hql := hk.qlen
 have hq20 : qs.length ≤ 20 := by have := G.out.votes; omega
 have HQ := Hd hql
 have K0 := Hd hk
 have M0 := Hd (hk.x.box hP)
 have HP := Hd hP
 clear hk hP hM hos hql
 go_enter Tryz.func113, Tryz.ntmps113
 cases g1 : (r.mode != 1)
 ·cases g2 : leadsB r
  ·have HF := Hd (show r = okR r m ∧ ([] : List Ot) = okO r m by
    have hB : okB r m = false := by unfold okB; simp only [g2, Bool.false_and, Bool.and_false, Bool.true_and]
    unfold okR okO
    rw [hB]
    exact ⟨rfl, rfl⟩)
   go_wp2
   (refine Rm.wp_region_mix' (R := relE W.heap.size) (fun _ _ _ => True) (fun _ _ _ _ _ hq => hq) 32 (by first | exact Nat.le_refl _ | omega | (simp; omega)) (by kernel_rfl) (by kernel_rfl) ?_; simp only [Tc, Tz, Dc, Dz])
   ((iterate 1 (refine Rm.wpMix_plain rfl rfl ?_; go_big_quiet_step (fail); refine wpQuiet_nil ?_)); (refine Rm.wpMix_nilp rfl rfl rfl ?_; simp only [Act.put, Sa, Sz, Ss]); (iterate 2 (refine Rm.wpMix_plain rfl rfl ?_; go_big_quiet_step (fail); refine wpQuiet_nil ?_)); (refine Rm.wpMix_load1 (fun W9' h9 => show W9'.cell? _ = some (.int .i64 r.mode) from bx_cell (Ext.box h9 K0.out.box) 2) rfl rfl rfl Tryz.underlying3 rfl ?_; simp only [Act.put, Sa, Sz, Ss]); (iterate 1 (refine Rm.wpMix_plain rfl rfl ?_; go_big_quiet_step (fail); refine wpQuiet_nil ?_)); (try simp only [g1, Bool.not_true, Bool.not_false]); (iterate 2 (refine Rm.wpMix_plain rfl rfl ?_; go_big_quiet_step (fail); refine wpQuiet_nil ?_)))
   (refine Rm.wpMix_det rfl rfl rfl (enters Tryz.func91 (by kernel_rfl) rfl) (fun W9' h9 => c_isPrimary p a A qs.length c r _ W9' (Ext.box h9 K0.out.box) G.out.of G.out.view0) rfl ?_; simp only [Act.put, Sa, Sz, Ss])
   ((iterate 1 (refine Rm.wpMix_plain rfl rfl ?_; go_big_quiet_step (fail); refine wpQuiet_nil ?_)); (try simp only [g2, Bool.not_true, Bool.not_false]); (iterate 2 (refine Rm.wpMix_plain rfl rfl ?_; go_big_quiet_step (fail); refine wpQuiet_nil ?_)); (iterate 8 (refine Rm.wpMix_skip rfl rfl ?_; simp only [Act.put, Sa, Sz, Ss])); (iterate 2 (refine Rm.wpMix_plain rfl rfl ?_; go_big_quiet_step (fail); refine wpQuiet_nil ?_)); (iterate 9 (refine Rm.wpMix_skip rfl rfl ?_; simp only [Act.put, Sa, Sz, Ss])); (iterate 1 (refine Rm.wpMix_plain rfl rfl ?_; go_big_quiet_step (fail); refine wpQuiet_nil ?_)))
   refine Rm.wpMix_nil ?_
   rintro w1 hW
   have xx : Ext W w1 := hW
   have K1 := Hd (K0.out.keep xx)
   have M1 := Hd (xx.box M0.out)
   clear K0 M0 hW xx
   go_wp2
   exact bodyPost_ret (v := .tuple #[]) (by simp [results, Tryz.results113, go_sem]) rfl ⟨rfl, K1.out.ko HF.out.1 HF.out.2⟩
  ·cases g3 : (m.view != r.view)
   ·cases g4 : decide (r.log.fin < m.op)
    ·have HB := Hd (show okB r m = true by
      have h1 : (r.mode == 1) = true := by simpa using g1
      have h3 : (m.view == r.view) = true := by simpa using g3
      have h4 : decide (m.op ≤ r.log.fin) = true := by simp at g4 ⊢; omega
      unfold okB
      simp only [h1, g2, h3, h4, Bool.and_true])
     go_wp2
     (refine Rm.wp_region_mix' (R := relE W.heap.size) (fun _ _ _ => True) (fun _ _ _ _ _ hq => hq) 32 (by first | exact Nat.le_refl _ | omega | (simp; omega)) (by kernel_rfl) (by kernel_rfl) ?_; simp only [Tc, Tz, Dc, Dz])
     ((iterate 1 (refine Rm.wpMix_plain rfl rfl ?_; go_big_quiet_step (fail); refine wpQuiet_nil ?_)); (refine Rm.wpMix_nilp rfl rfl rfl ?_; simp only [Act.put, Sa, Sz, Ss]); (iterate 2 (refine Rm.wpMix_plain rfl rfl ?_; go_big_quiet_step (fail); refine wpQuiet_nil ?_)); (refine Rm.wpMix_load1 (fun W9' h9 => show W9'.cell? _ = some (.int .i64 r.mode) from bx_cell (Ext.box h9 K0.out.box) 2) rfl rfl rfl Tryz.underlying3 rfl ?_; simp only [Act.put, Sa, Sz, Ss]); (iterate 1 (refine Rm.wpMix_plain rfl rfl ?_; go_big_quiet_step (fail); refine wpQuiet_nil ?_)); (try simp only [g1, Bool.not_true, Bool.not_false]); (iterate 2 (refine Rm.wpMix_plain rfl rfl ?_; go_big_quiet_step (fail); refine wpQuiet_nil ?_)))
     (refine Rm.wpMix_det rfl rfl rfl (enters Tryz.func91 (by kernel_rfl) rfl) (fun W9' h9 => c_isPrimary p a A qs.length c r _ W9' (Ext.box h9 K0.out.box) G.out.of G.out.view0) rfl ?_; simp only [Act.put, Sa, Sz, Ss])
     ((iterate 1 (refine Rm.wpMix_plain rfl rfl ?_; go_big_quiet_step (fail); refine wpQuiet_nil ?_)); (try simp only [g2, Bool.not_true, Bool.not_false]); (iterate 2 (refine Rm.wpMix_plain rfl rfl ?_; go_big_quiet_step (fail); refine wpQuiet_nil ?_)))
     ((iterate 1 (refine Rm.wpMix_plain rfl rfl ?_; go_big_quiet_step (fail); refine wpQuiet_nil ?_)); (refine Rm.wpMix_load1 (fun W9' h9 => show W9'.cell? _ = some (.int .i64 m.view) from bx_cell (Ext.box h9 M0.out) 2) rfl rfl rfl Tryz.underlying3 rfl ?_; simp only [Act.put, Sa, Sz, Ss]); (iterate 1 (refine Rm.wpMix_plain rfl rfl ?_; go_big_quiet_step (fail); refine wpQuiet_nil ?_)); (refine Rm.wpMix_nilp rfl rfl rfl ?_; simp only [Act.put, Sa, Sz, Ss]); (iterate 2 (refine Rm.wpMix_plain rfl rfl ?_; go_big_quiet_step (fail); refine wpQuiet_nil ?_)); (refine Rm.wpMix_load1 (fun W9' h9 => show W9'.cell? _ = some (.int .i64 r.view) from bx_cell (Ext.box h9 K0.out.box) 3) rfl rfl rfl Tryz.underlying3 rfl ?_; simp only [Act.put, Sa, Sz, Ss]); (iterate 1 (refine Rm.wpMix_plain rfl rfl ?_; go_big_quiet_step (fail); refine wpQuiet_nil ?_)); (try simp only [g3, Bool.not_true, Bool.not_false]); (iterate 2 (refine Rm.wpMix_plain rfl rfl ?_; go_big_quiet_step (fail); refine wpQuiet_nil ?_)); (iterate 1 (refine Rm.wpMix_plain rfl rfl ?_; go_big_quiet_step (fail); refine wpQuiet_nil ?_)); (refine Rm.wpMix_load1 (fun W9' h9 => show W9'.cell? _ = some (.int .i64 m.op) from bx_cell (Ext.box h9 M0.out) 3) rfl rfl rfl Tryz.underlying3 rfl ?_; simp only [Act.put, Sa, Sz, Ss]); (iterate 1 (refine Rm.wpMix_plain rfl rfl ?_; go_big_quiet_step (fail); refine wpQuiet_nil ?_)); (refine Rm.wpMix_nilp rfl rfl rfl ?_; simp only [Act.put, Sa, Sz, Ss]); (iterate 2 (refine Rm.wpMix_plain rfl rfl ?_; go_big_quiet_step (fail); refine wpQuiet_nil ?_)))
     (refine Rm.wpMix_loadAgg (fun W9' h9 => kp_log K0.out.box h9) rfl rfl rfl Tryz.underlying40 (by kernel_rfl) ?_; simp only [Act.put, Sa, Sz, Ss])
     (refine Rm.wpMix_det rfl rfl rfl (enters Tryz.func76 (by kernel_rfl) rfl) (fun W9' h9 => c_end a r.log W9' (by omega) (by omega) (by omega)) rfl ?_; simp only [Act.put, Sa, Sz, Ss])
     ((iterate 1 (refine Rm.wpMix_plain rfl rfl ?_; go_big_quiet_step (fail); refine wpQuiet_nil ?_)); (try simp only [g4, Bool.not_true, Bool.not_false]); (iterate 1 (refine Rm.wpMix_plain rfl rfl ?_; go_big_quiet_step (fail); refine wpQuiet_nil ?_)))
     refine Rm.wpMix_nil ?_
     rintro w1 hW
     have xx : Ext W w1 := hW
     have K1 := Hd (K0.out.keep xx)
     have M1 := Hd (xx.box M0.out)
     clear K0 M0 hW xx
     clear g1 g2 g3 g4
     obtain ⟨fv, hfv⟩ : ∃ x, findV 3 m.frm r.votes = x := ⟨_, rfl⟩
     have HFv := Hd hfv
     have hcon := c_find 3 m.frm p a A c qs r _ w1 K1.out.box (K1.out.rp.v.r.rd VtE.len).2 K1.out.rp.e (by omega)
     rw [hfv] at hcon
     clear hfv
     have dm := bx_cell M1.out
     have zm := bx_lt M1.out
     go_wp2_with fail
     refine hcon.mono ?_
     rintro e w2 ⟨rfl, x2⟩
     have K2 := Hd (K1.out.keep x2)
     have M2 := Hd (x2.box M1.out)
     clear hcon x2 K1 M1 dm zm
     cases gF : decide (0 ≤ fv)
     case' false =>
      have hcon := c_vote K2.out LAd.none (okV m) (none_rd _) none_small
      rw [voted_okV r m (by rw [HFv.out]; exact gF)] at hcon
      have HC := Hd hcon
      have dm := bx_cell M2.out
      have zm := bx_lt M2.out
      clear hcon
      go_wp2_with fail
      refine HC.out.mono ?_
      rintro e wv ⟨rfl, Av, cv, qv, k3⟩
      have Kv := Hd k3
      have hqv : qv.length ≤ 21 := by
       have h1 := k3.qlen
       have h2 : (okL r m).length ≤ 21 := by
        unfold okL
        rw [HFv.out, gF]
        have := G.out.votes
        simp only [Bf, if_false]
        split
        ·rw [List.length_append]; simp; omega
        ·omega
       have h3 : (r.votesTo (okL r m)).votes.length = (okL r m).length := rfl
       omega
      clear k3 HC K2 M2 dm zm
     case' true =>
      obtain ⟨k, hkv, hkl⟩ : ∃ k : Nat, fv = k ∧ k < r.votes.length := by
       have h0 : 0 ≤ findV 3 m.frm r.votes := by rw [HFv.out]; simpa using gF
       obtain ⟨k, h1, h2⟩ := idxOf_lt h0
       exact ⟨k, by rw [← HFv.out]; exact h1, h2⟩
      subst hkv
      have hkq : k < qs.length := by have := HQ.out; omega
      obtain ⟨g, gc, hAe, hgB, hgl⟩ := K2.out.rp.v.r.base (by omega)
      simp only [Value.slice.injEq] at hAe
      obtain ⟨rfl, _, rfl⟩ := hAe
      have HLk := Hd (show okL r m = setOp r.votes k (max qs[k].2.op m.op) from okL_at HFv.out (by rw [← K2.out.rp.e, List.getElem?_map, List.getElem?_eq_getElem hkq]; rfl))
      have hkk : (k : Int) < (qs.length : Int) := by omega
      have HCell := Hd (show ∀ W9, Ext w2 W9 → W9.cell? ⟨g, k * 10 + 4, none⟩ = some (.int .i64 qs[k].2.op) from fun W9 hW => (World.ownsRow.cellAt (K2.out.rp.v.r.kept hW) (k * 10 + 4) (by omega)).trans (flat_get VtE.len qs k hkq 4 (by omega)))
      go_wp2
      (refine Rm.wp_region_mix' (R := relE w2.heap.size) (fun _ _ _ => True) (fun _ _ _ _ _ hq => hq) 20 (by first | exact Nat.le_refl _ | omega | (simp; omega)) (by kernel_rfl) (by kernel_rfl) ?_; simp only [Tc, Tz, Dc, Dz])
      ((iterate 1 (refine Rm.wpMix_plain rfl rfl ?_; go_big_quiet_step (fail); refine wpQuiet_nil ?_)); (refine Rm.wpMix_nilp rfl rfl rfl ?_; simp only [Act.put, Sa, Sz, Ss]); (iterate 2 (refine Rm.wpMix_plain rfl rfl ?_; go_big_quiet_step (fail); refine wpQuiet_nil ?_)))
      (refine Rm.wpMix_load1 (fun W9' h9 => show W9'.cell? _ = some (.slice (some ⟨g, 0, none⟩) qs.length c) from bx_cell (Ext.box h9 K2.out.box) 10) rfl rfl rfl Tryz.underlying41 rfl ?_; simp only [Act.put, Sa, Sz, Ss])
      ((iterate 2 (refine Rm.wpMix_plain rfl rfl ?_; go_big_quiet_step (fail); refine wpQuiet_nil ?_)); (refine Rm.wpMix_nilp rfl rfl rfl ?_; simp only [Act.put, Sa, Sz, Ss]); (iterate 2 (refine Rm.wpMix_plain rfl rfl ?_; go_big_quiet_step (fail); refine wpQuiet_nil ?_)))
      (refine Rm.wpMix_load1 (fun W9' h9 => show W9'.cell? _ = some (.slice (some ⟨g, 0, none⟩) qs.length c) from bx_cell (Ext.box h9 K2.out.box) 10) rfl rfl rfl Tryz.underlying41 rfl ?_; simp only [Act.put, Sa, Sz, Ss])
      (iterate 3 (refine Rm.wpMix_plain rfl rfl ?_; go_big_quiet_step (fail); refine wpQuiet_nil ?_))
      (refine Rm.wpMix_load1 (fun W9' h9 => HCell.out W9' h9) rfl rfl rfl Tryz.underlying3 rfl ?_; simp only [Act.put, Sa, Sz, Ss])
      ((iterate 1 (refine Rm.wpMix_plain rfl rfl ?_; go_big_quiet_step (fail); refine wpQuiet_nil ?_)); (refine Rm.wpMix_load1 (fun W9' h9 => show W9'.cell? _ = some (.int .i64 m.op) from bx_cell (Ext.box h9 M2.out) 3) rfl rfl rfl Tryz.underlying3 rfl ?_; simp only [Act.put, Sa, Sz, Ss]); (iterate 3 (refine Rm.wpMix_plain rfl rfl ?_; go_big_quiet_step (fail); refine wpQuiet_nil ?_)))
      refine Rm.wpMix_nil ?_
      rintro w3 hW3
      have x3 : Ext w2 w3 := hW3
      have K3a := Hd (K2.out.keep x3)
      have hfr := World.ownsRow.frozenAt K3a.out.rp.v.r
      have e4 := HCell.out w3 x3
      have hgl3 : g < w3.heap.size := Nat.lt_of_lt_of_le hgl x3.size
      have HK4 := Hd (K3a.out.opset hkq (max qs[k].2.op m.op))
      rw [← HLk.out] at HK4
      clear hW3 x3 HCell
      go_wp2_with (with_reducible refine wl_stop 74 ?_)
      refine stop_go (F := fun W9 => KZ W0 W9 p a (some ⟨g, 0, none⟩) c (qs.set k (opE qs[k] (max qs[k].2.op m.op))) (r.votesTo (okL r m)) Ao co []) HK4.out ?_
      intro wv hk4
      have K4 := Hd hk4
      have hq4 : (qs.set k (opE qs[k] (max qs[k].2.op m.op))).length ≤ 20 := by rw [List.length_set]; exact hq20
      obtain ⟨qs4, hqs4⟩ : ∃ q, qs.set k (opE qs[k] (max qs[k].2.op m.op)) = q := ⟨_, rfl⟩
      rw [hqs4] at K4 hq4
      obtain ⟨Av, hAv⟩ : ∃ A : Option Addr, (some ⟨g, 0, none⟩ : Option Addr) = A := ⟨_, rfl⟩
      obtain ⟨cv, hcv⟩ : ∃ x : Nat, c = x := ⟨_, rfl⟩
      obtain ⟨qv, hqv_⟩ : ∃ q : List VtE, qs4 = q := ⟨_, rfl⟩
      have Kv := Hd K4.out
      rw [hAv, hcv, hqv_] at Kv
      rw [hqv_] at hq4
      have hqv : qv.length ≤ 21 := by omega
      clear hk4 HK4 K3a K2 K4 hfr e4 hgl3 M2 hqs4 HLk hAv hcv hqv_ hq4
     all_goals
      obtain ⟨L, hL⟩ : ∃ L, okL r m = L := ⟨_, rfl⟩
      have HL := Hd hL
      rw [hL] at Kv
      clear hL
      have Kv := Hd (show KZ W0 wv p a Av cv qv (r.comTo L r.commit) Ao co [] from Kv.out)
      have hqn : qv.length ≤ 1048576 := by omega
      have dk := bx_cell Kv.out.box
      dsimp only [Rp.comTo] at dk
      have zk := bx_lt Kv.out.box
      obtain ⟨N, hN⟩ : ∃ N, agreedV (r.votesTo L) = N := ⟨_, rfl⟩
      have HN := Hd (show okN r m = N by unfold okN; rw [HL.out]; exact hN)
      have hNb := okN_b (m := m) G.out
      rw [HN.out] at hNb
      have HAg := Hd (show ∀ W9, Ext wv W9 → Calls Tryz.prog 114 #[.pointer (some ⟨p, 0, none⟩)] W9 fun e w' => e = .returned (.int .i64 N) ∧ Ext W9 w' from fun W9 hW => by
       have h5 := c_agreed p a Av cv qv (r.votesTo L) _ W9 (hW.box Kv.out.box) ((Kv.out.rp.v.r.rd VtE.len).2.keep hW) Kv.out.rp.e hqn G.out.of hg0 hg1 hg2 (by show 0 ≤ r.commit; omega) (by show r.commit ≤ r.log.fin; omega)
       rw [hN] at h5
       exact h5)
      clear hN
      go_wp2_with fail
      refine (HAg.out _ (by first | exact ext_refl _ | exact ext_drew (ext_refl _))).mono ?_
      rintro e w5 ⟨rfl, x5⟩
      have K5 := Hd (Kv.out.keep (by first | exact x5 | exact Ext.trans (ext_drew (ext_refl _)) x5))
      clear dk zk x5 HAg Kv
      have dk := bx_cell K5.out.box
      dsimp only [Rp.comTo] at dk
      have fk := bx_frozen K5.out.box
      have zk := bx_lt K5.out.box
      have P5 := box_put K5.out.box 5 (.int .i64 N)
      simp only [Sa, Sz, Ss] at P5
      have c5 := chg_set (Chg.refl w5 [p]) (p := ⟨p, 5, none⟩) (by simp) (.int .i64 N)
      have HK6 := Hd (K5.out.put (R' := r.comTo L N) c5 P5 rfl rfl)
      clear P5 c5
      go_wp2_with (with_reducible refine wl_stop 85 ?_)
      refine stop_go (F := fun W9 => KZ W0 W9 p a Av cv qv (r.comTo L N) Ao co []) HK6.out ?_
      intro w6 hk6
      have K6 := Hd hk6
      clear hk6 HK6 K5 dk fk zk
      have dk := bx_cell K6.out.box
      dsimp only [Rp.comTo] at dk
      have zk := bx_lt K6.out.box
      have HOR := Hd (show r.comTo L N = okR r m by unfold okR; rw [HB.out, HL.out, HN.out]; rfl)
      cases gN : decide (r.commit < N)
      ·have HOO := Hd (show ([] : List Ot) = okO r m by unfold okO; rw [HB.out, HN.out, gN]; rfl)
       go_wp2
       exact bodyPost_end (v := .tuple #[]) (by simp [results, Tryz.results113, go_sem]) rfl ⟨rfl, K6.out.ko HOR.out HOO.out⟩
      ·obtain ⟨j0, hj0⟩ : ∃ j : Nat, (r.commit - r.log.base).toNat = j := ⟨_, rfl⟩
       obtain ⟨n0, hn0⟩ : ∃ n : Nat, (N - r.commit).toNat = n := ⟨_, rfl⟩
       obtain ⟨s0, hs0⟩ : ∃ n : Nat, r.of.toNat = n := ⟨_, rfl⟩
       have HOO := Hd (show ansO r.view r.log j0 n0 ++ allTo r.me (comM r N) s0 = okO r m by unfold okO; rw [HB.out, HN.out, gN, hj0, hn0, hs0]; rfl)
       have hj1 : r.log.base + (j0 : Int) = r.commit := by omega
       have hjn : j0 + n0 ≤ r.log.ents.length := by have : r.log.fin = r.log.base + r.log.ents.length := rfl; omega
       have hof : r.of = (s0 : Int) := by have := G.out.of; omega
       have hs10 : s0 ≤ 10 := by have := G.out.of; omega
       have HOf := Hd hof
       have hcon := c_answer W0 p a Av cv qv (r.comTo L N) [] Ao co w6 K6.out j0 n0 N (by show r.log.base + (j0 : Int) + (n0 : Int) = N; omega) G.out.lok hjn (by simp)
       have hcon2 : Calls Tryz.prog 115 #[.pointer (some ⟨p, 0, none⟩), .int .i64 r.commit, .int .i64 N] w6 fun e w' => e = .returned (.tuple #[]) ∧ ∃ A' c' os', KZ W0 w' p a Av cv qv (r.comTo L N) A' c' ([] ++ os') ∧ List.map Prod.snd os' = ansO r.view r.log j0 n0 := by
        rw [← hj1]
        exact hcon
       have HC2 := Hd hcon2
       clear hcon hcon2 hj1 hj0 hn0 hs0 hof
       go_wp2_with fail
       refine HC2.out.mono ?_
       rintro e w7 ⟨rfl, A7, c7, os7, hk7, ho7⟩
       have K7 := Hd (show KZ W0 w7 p a Av cv qv (r.comTo L N) A7 c7 os7 from hk7)
       have HO7 := Hd ho7
       have hl7 : os7.length ≤ 60 := by
        have h1 := congrArg List.length ho7
        rw [List.length_map] at h1
        have := ansO_len r.view r.log j0 n0
        omega
       clear hk7 ho7 K6 dk zk HC2
       go_wp2
       (refine Rm.wp_region_mix' (R := relE w7.heap.size) (fun _ _ _ => True) (fun _ _ _ _ _ hq => hq) 17 (by first | exact Nat.le_refl _ | omega | (simp; omega)) (by kernel_rfl) (by kernel_rfl) ?_; simp only [Tc, Tz, Dc, Dz])
       ((iterate 2 (refine Rm.wpMix_plain rfl rfl ?_; go_big_quiet_step (fail); refine wpQuiet_nil ?_)); (refine Rm.wpMix_nilp rfl rfl rfl ?_; simp only [Act.put, Sa, Sz, Ss]); (iterate 2 (refine Rm.wpMix_plain rfl rfl ?_; go_big_quiet_step (fail); refine wpQuiet_nil ?_)); (refine Rm.wpMix_load1 (fun W9' h9 => show W9'.cell? _ = some (.int .i64 r.me) from bx_cell (Ext.box h9 K7.out.box) 0) rfl rfl rfl Tryz.underlying3 rfl ?_; simp only [Act.put, Sa, Sz, Ss]); (iterate 1 (refine Rm.wpMix_plain rfl rfl ?_; go_big_quiet_step (fail); refine wpQuiet_nil ?_)); (refine Rm.wpMix_nilp rfl rfl rfl ?_; simp only [Act.put, Sa, Sz, Ss]); (iterate 2 (refine Rm.wpMix_plain rfl rfl ?_; go_big_quiet_step (fail); refine wpQuiet_nil ?_)); (refine Rm.wpMix_load1 (fun W9' h9 => show W9'.cell? _ = some (.int .i64 r.view) from bx_cell (Ext.box h9 K7.out.box) 3) rfl rfl rfl Tryz.underlying3 rfl ?_; simp only [Act.put, Sa, Sz, Ss]); (iterate 1 (refine Rm.wpMix_plain rfl rfl ?_; go_big_quiet_step (fail); refine wpQuiet_nil ?_)); (refine Rm.wpMix_nilp rfl rfl rfl ?_; simp only [Act.put, Sa, Sz, Ss]); (iterate 2 (refine Rm.wpMix_plain rfl rfl ?_; go_big_quiet_step (fail); refine wpQuiet_nil ?_)))
       (refine Rm.wpMix_load1 (fun W9' h9 => show W9'.cell? _ = some (.int .i64 N) from bx_cell (Ext.box h9 K7.out.box) 5) rfl rfl rfl Tryz.underlying3 rfl ?_; simp only [Act.put, Sa, Sz, Ss])
       (iterate 1 (refine Rm.wpMix_plain rfl rfl ?_; go_big_quiet_step (fail); refine wpQuiet_nil ?_))
       refine Rm.wpMix_nil ?_
       rintro w8 hW8
       have K8 := Hd (K7.out.keep (show Ext w7 w8 from hW8))
       clear K7 hW8
       go_wp2_with fail
       refine (c_sendAllZ W0 p a Av cv qv (r.comTo L N) os7 A7 c7 LAd.none (comM r N) w8 0 s0 K8.out HOf.out hs10 (LgF.zero _ _) none_small (by omega)).mono ?_
       rintro e w9 ⟨rfl, A9, c9, os9, hk9, ho9⟩
       have K9 := Hd hk9
       have HO9 := Hd (show List.map Prod.snd (os7 ++ os9) = okO r m by rw [List.map_append, HO7.out, ho9]; exact HOO.out)
       clear hk9 ho9 K8
       go_wp2
       exact bodyPost_end (v := .tuple #[]) (by simp [results, Tryz.results113, go_sem]) rfl ⟨rfl, K9.out.ko HOR.out HO9.out⟩
    ·have hh : decide (m.op ≤ r.log.fin) = false := by simp at g4 ⊢; omega
     have HF := Hd (show r = okR r m ∧ ([] : List Ot) = okO r m by
      have hB : okB r m = false := by unfold okB; simp only [hh, Bool.false_and, Bool.and_false, Bool.true_and]
      unfold okR okO
      rw [hB]
      exact ⟨rfl, rfl⟩)
     go_wp2
     (refine Rm.wp_region_mix' (R := relE W.heap.size) (fun _ _ _ => True) (fun _ _ _ _ _ hq => hq) 32 (by first | exact Nat.le_refl _ | omega | (simp; omega)) (by kernel_rfl) (by kernel_rfl) ?_; simp only [Tc, Tz, Dc, Dz])
     ((iterate 1 (refine Rm.wpMix_plain rfl rfl ?_; go_big_quiet_step (fail); refine wpQuiet_nil ?_)); (refine Rm.wpMix_nilp rfl rfl rfl ?_; simp only [Act.put, Sa, Sz, Ss]); (iterate 2 (refine Rm.wpMix_plain rfl rfl ?_; go_big_quiet_step (fail); refine wpQuiet_nil ?_)); (refine Rm.wpMix_load1 (fun W9' h9 => show W9'.cell? _ = some (.int .i64 r.mode) from bx_cell (Ext.box h9 K0.out.box) 2) rfl rfl rfl Tryz.underlying3 rfl ?_; simp only [Act.put, Sa, Sz, Ss]); (iterate 1 (refine Rm.wpMix_plain rfl rfl ?_; go_big_quiet_step (fail); refine wpQuiet_nil ?_)); (try simp only [g1, Bool.not_true, Bool.not_false]); (iterate 2 (refine Rm.wpMix_plain rfl rfl ?_; go_big_quiet_step (fail); refine wpQuiet_nil ?_)))
     (refine Rm.wpMix_det rfl rfl rfl (enters Tryz.func91 (by kernel_rfl) rfl) (fun W9' h9 => c_isPrimary p a A qs.length c r _ W9' (Ext.box h9 K0.out.box) G.out.of G.out.view0) rfl ?_; simp only [Act.put, Sa, Sz, Ss])
     ((iterate 1 (refine Rm.wpMix_plain rfl rfl ?_; go_big_quiet_step (fail); refine wpQuiet_nil ?_)); (try simp only [g2, Bool.not_true, Bool.not_false]); (iterate 2 (refine Rm.wpMix_plain rfl rfl ?_; go_big_quiet_step (fail); refine wpQuiet_nil ?_)))
     ((iterate 1 (refine Rm.wpMix_plain rfl rfl ?_; go_big_quiet_step (fail); refine wpQuiet_nil ?_)); (refine Rm.wpMix_load1 (fun W9' h9 => show W9'.cell? _ = some (.int .i64 m.view) from bx_cell (Ext.box h9 M0.out) 2) rfl rfl rfl Tryz.underlying3 rfl ?_; simp only [Act.put, Sa, Sz, Ss]); (iterate 1 (refine Rm.wpMix_plain rfl rfl ?_; go_big_quiet_step (fail); refine wpQuiet_nil ?_)); (refine Rm.wpMix_nilp rfl rfl rfl ?_; simp only [Act.put, Sa, Sz, Ss]); (iterate 2 (refine Rm.wpMix_plain rfl rfl ?_; go_big_quiet_step (fail); refine wpQuiet_nil ?_)); (refine Rm.wpMix_load1 (fun W9' h9 => show W9'.cell? _ = some (.int .i64 r.view) from bx_cell (Ext.box h9 K0.out.box) 3) rfl rfl rfl Tryz.underlying3 rfl ?_; simp only [Act.put, Sa, Sz, Ss]); (iterate 1 (refine Rm.wpMix_plain rfl rfl ?_; go_big_quiet_step (fail); refine wpQuiet_nil ?_)); (try simp only [g3, Bool.not_true, Bool.not_false]); (iterate 2 (refine Rm.wpMix_plain rfl rfl ?_; go_big_quiet_step (fail); refine wpQuiet_nil ?_)); (iterate 1 (refine Rm.wpMix_plain rfl rfl ?_; go_big_quiet_step (fail); refine wpQuiet_nil ?_)); (refine Rm.wpMix_load1 (fun W9' h9 => show W9'.cell? _ = some (.int .i64 m.op) from bx_cell (Ext.box h9 M0.out) 3) rfl rfl rfl Tryz.underlying3 rfl ?_; simp only [Act.put, Sa, Sz, Ss]); (iterate 1 (refine Rm.wpMix_plain rfl rfl ?_; go_big_quiet_step (fail); refine wpQuiet_nil ?_)); (refine Rm.wpMix_nilp rfl rfl rfl ?_; simp only [Act.put, Sa, Sz, Ss]); (iterate 2 (refine Rm.wpMix_plain rfl rfl ?_; go_big_quiet_step (fail); refine wpQuiet_nil ?_)))
     (refine Rm.wpMix_loadAgg (fun W9' h9 => kp_log K0.out.box h9) rfl rfl rfl Tryz.underlying40 (by kernel_rfl) ?_; simp only [Act.put, Sa, Sz, Ss])
     (refine Rm.wpMix_det rfl rfl rfl (enters Tryz.func76 (by kernel_rfl) rfl) (fun W9' h9 => c_end a r.log W9' (by omega) (by omega) (by omega)) rfl ?_; simp only [Act.put, Sa, Sz, Ss])
     ((iterate 1 (refine Rm.wpMix_plain rfl rfl ?_; go_big_quiet_step (fail); refine wpQuiet_nil ?_)); (try simp only [g4, Bool.not_true, Bool.not_false]); (iterate 1 (refine Rm.wpMix_plain rfl rfl ?_; go_big_quiet_step (fail); refine wpQuiet_nil ?_)))
     refine Rm.wpMix_nil ?_
     rintro w1 hW
     have xx : Ext W w1 := hW
     have K1 := Hd (K0.out.keep xx)
     have M1 := Hd (xx.box M0.out)
     clear K0 M0 hW xx
     go_wp2
     exact bodyPost_ret (v := .tuple #[]) (by simp [results, Tryz.results113, go_sem]) rfl ⟨rfl, K1.out.ko HF.out.1 HF.out.2⟩
   ·have hh : (m.view == r.view) = false := by simpa using g3
    have HF := Hd (show r = okR r m ∧ ([] : List Ot) = okO r m by
     have hB : okB r m = false := by unfold okB; simp only [hh, Bool.false_and, Bool.and_false, Bool.true_and]
     unfold okR okO
     rw [hB]
     exact ⟨rfl, rfl⟩)
    go_wp2
    (refine Rm.wp_region_mix' (R := relE W.heap.size) (fun _ _ _ => True) (fun _ _ _ _ _ hq => hq) 32 (by first | exact Nat.le_refl _ | omega | (simp; omega)) (by kernel_rfl) (by kernel_rfl) ?_; simp only [Tc, Tz, Dc, Dz])
    ((iterate 1 (refine Rm.wpMix_plain rfl rfl ?_; go_big_quiet_step (fail); refine wpQuiet_nil ?_)); (refine Rm.wpMix_nilp rfl rfl rfl ?_; simp only [Act.put, Sa, Sz, Ss]); (iterate 2 (refine Rm.wpMix_plain rfl rfl ?_; go_big_quiet_step (fail); refine wpQuiet_nil ?_)); (refine Rm.wpMix_load1 (fun W9' h9 => show W9'.cell? _ = some (.int .i64 r.mode) from bx_cell (Ext.box h9 K0.out.box) 2) rfl rfl rfl Tryz.underlying3 rfl ?_; simp only [Act.put, Sa, Sz, Ss]); (iterate 1 (refine Rm.wpMix_plain rfl rfl ?_; go_big_quiet_step (fail); refine wpQuiet_nil ?_)); (try simp only [g1, Bool.not_true, Bool.not_false]); (iterate 2 (refine Rm.wpMix_plain rfl rfl ?_; go_big_quiet_step (fail); refine wpQuiet_nil ?_)))
    (refine Rm.wpMix_det rfl rfl rfl (enters Tryz.func91 (by kernel_rfl) rfl) (fun W9' h9 => c_isPrimary p a A qs.length c r _ W9' (Ext.box h9 K0.out.box) G.out.of G.out.view0) rfl ?_; simp only [Act.put, Sa, Sz, Ss])
    ((iterate 1 (refine Rm.wpMix_plain rfl rfl ?_; go_big_quiet_step (fail); refine wpQuiet_nil ?_)); (try simp only [g2, Bool.not_true, Bool.not_false]); (iterate 2 (refine Rm.wpMix_plain rfl rfl ?_; go_big_quiet_step (fail); refine wpQuiet_nil ?_)))
    ((iterate 1 (refine Rm.wpMix_plain rfl rfl ?_; go_big_quiet_step (fail); refine wpQuiet_nil ?_)); (refine Rm.wpMix_load1 (fun W9' h9 => show W9'.cell? _ = some (.int .i64 m.view) from bx_cell (Ext.box h9 M0.out) 2) rfl rfl rfl Tryz.underlying3 rfl ?_; simp only [Act.put, Sa, Sz, Ss]); (iterate 1 (refine Rm.wpMix_plain rfl rfl ?_; go_big_quiet_step (fail); refine wpQuiet_nil ?_)); (refine Rm.wpMix_nilp rfl rfl rfl ?_; simp only [Act.put, Sa, Sz, Ss]); (iterate 2 (refine Rm.wpMix_plain rfl rfl ?_; go_big_quiet_step (fail); refine wpQuiet_nil ?_)); (refine Rm.wpMix_load1 (fun W9' h9 => show W9'.cell? _ = some (.int .i64 r.view) from bx_cell (Ext.box h9 K0.out.box) 3) rfl rfl rfl Tryz.underlying3 rfl ?_; simp only [Act.put, Sa, Sz, Ss]); (iterate 1 (refine Rm.wpMix_plain rfl rfl ?_; go_big_quiet_step (fail); refine wpQuiet_nil ?_)); (try simp only [g3, Bool.not_true, Bool.not_false]); (iterate 2 (refine Rm.wpMix_plain rfl rfl ?_; go_big_quiet_step (fail); refine wpQuiet_nil ?_)); (iterate 9 (refine Rm.wpMix_skip rfl rfl ?_; simp only [Act.put, Sa, Sz, Ss])); (iterate 1 (refine Rm.wpMix_plain rfl rfl ?_; go_big_quiet_step (fail); refine wpQuiet_nil ?_)))
    refine Rm.wpMix_nil ?_
    rintro w1 hW
    have xx : Ext W w1 := hW
    have K1 := Hd (K0.out.keep xx)
    have M1 := Hd (xx.box M0.out)
    clear K0 M0 hW xx
    go_wp2
    exact bodyPost_ret (v := .tuple #[]) (by simp [results, Tryz.results113, go_sem]) rfl ⟨rfl, K1.out.ko HF.out.1 HF.out.2⟩
 ·have hh : (r.mode == 1) = false := by simpa using g1
  have HF := Hd (show r = okR r m ∧ ([] : List Ot) = okO r m by
   have hB : okB r m = false := by unfold okB; simp only [hh, Bool.false_and, Bool.and_false, Bool.true_and]
   unfold okR okO
   rw [hB]
   exact ⟨rfl, rfl⟩)
  go_wp2
  (refine Rm.wp_region_mix' (R := relE W.heap.size) (fun _ _ _ => True) (fun _ _ _ _ _ hq => hq) 32 (by first | exact Nat.le_refl _ | omega | (simp; omega)) (by kernel_rfl) (by kernel_rfl) ?_; simp only [Tc, Tz, Dc, Dz])
  ((iterate 1 (refine Rm.wpMix_plain rfl rfl ?_; go_big_quiet_step (fail); refine wpQuiet_nil ?_)); (refine Rm.wpMix_nilp rfl rfl rfl ?_; simp only [Act.put, Sa, Sz, Ss]); (iterate 2 (refine Rm.wpMix_plain rfl rfl ?_; go_big_quiet_step (fail); refine wpQuiet_nil ?_)); (refine Rm.wpMix_load1 (fun W9' h9 => show W9'.cell? _ = some (.int .i64 r.mode) from bx_cell (Ext.box h9 K0.out.box) 2) rfl rfl rfl Tryz.underlying3 rfl ?_; simp only [Act.put, Sa, Sz, Ss]); (iterate 1 (refine Rm.wpMix_plain rfl rfl ?_; go_big_quiet_step (fail); refine wpQuiet_nil ?_)); (try simp only [g1, Bool.not_true, Bool.not_false]); (iterate 1 (refine Rm.wpMix_plain rfl rfl ?_; go_big_quiet_step (fail); refine wpQuiet_nil ?_)); (iterate 3 (refine Rm.wpMix_skip rfl rfl ?_; simp only [Act.put, Sa, Sz, Ss])); (iterate 2 (refine Rm.wpMix_plain rfl rfl ?_; go_big_quiet_step (fail); refine wpQuiet_nil ?_)); (iterate 8 (refine Rm.wpMix_skip rfl rfl ?_; simp only [Act.put, Sa, Sz, Ss])); (iterate 2 (refine Rm.wpMix_plain rfl rfl ?_; go_big_quiet_step (fail); refine wpQuiet_nil ?_)); (iterate 9 (refine Rm.wpMix_skip rfl rfl ?_; simp only [Act.put, Sa, Sz, Ss])); (iterate 1 (refine Rm.wpMix_plain rfl rfl ?_; go_big_quiet_step (fail); refine wpQuiet_nil ?_)))
  refine Rm.wpMix_nil ?_
  rintro w1 hW
  have xx : Ext W w1 := hW
  have K1 := Hd (K0.out.keep xx)
  have M1 := Hd (xx.box M0.out)
  clear K0 M0 hW xx
  go_wp2
  exact bodyPost_ret (v := .tuple #[]) (by simp [results, Tryz.results113, go_sem]) rfl ⟨rfl, K1.out.ko HF.out.1 HF.out.2⟩
end
set_option maxRecDepth 100000 in
set_option maxHeartbeats 4000000 in
theorem c_iOnOk (a : LAd) (A : Option Addr) (c : Nat) (ps : List VtE) (r : Rp) (am : LAd) (m : Mg) (w : World) (hr : RpR w a A c ps r) (hs : r.log.small) (hn : ps.length ≤ 1048576) (hv : LgS ps) (hm : LgR w am m.log) (hms : m.log.small) :
  Calls Tryz.prog 44 #[Rp.val a A ps.length c r, Mg.val am m] w fun e w' => ∃ v, e = .returned v ∧ RoY w' w.heap.size (hearR2 r m 3 (okR r m)) (hearO r m 3 (okO r m)) v ∧ Ext w w' := by
 have X0 : Ext w (((w.alloc (Rp.obj a A ps.length c r)).alloc (Mg.obj am m)).alloc Rp.zobj) := ext_to (ext_to (ext_alloc _ _) _) _
 have D1 := Hd (hOld (o := Rp.zobj) (hOld (o := Mg.obj am m) (hNew (w := w) (o := Rp.obj a A ps.length c r) rfl)))
 have D2 := Hd (hOld (o := Rp.zobj) (hNew (w := w.alloc (Rp.obj a A ps.length c r)) (o := Mg.obj am m) (k := w.heap.size + 1) (by simp)))
 have D3 := Hd (hNew (w := (w.alloc (Rp.obj a A ps.length c r)).alloc (Mg.obj am m)) (o := Rp.zobj) (k := w.heap.size + 1 + 1) (by simp))
 have HM := Hd (hm.keep X0)
 have HH := Hd (c_hears3 a A c ps r am m 3 113 #[.pointer (some ⟨w.heap.size + 1, 0, none⟩)] (okR r m) (okO r m) (((w.alloc (Rp.obj a A ps.length c r)).alloc (Mg.obj am m)).alloc Rp.zobj) (hr.keep X0) hs hn hv (hm.keep X0) hms (enters Tryz.func113 (by kernel_rfl) rfl)
  (fun h1 W0 W p hx hk => c_ok1 hk (Ext.box hx D2.out) (HM.out.keep hx) hs hms h1))
 have HX0 := Hd X0
 clear X0 hr hm hv HM
 go_enter Tryz.func44, Tryz.ntmps44
 (go_wp2_with (with_reducible refine wl_stop 6 ?_); refine stop_load (D1.out) rfl Tryz.underlying43 (by kernel_rfl) ?_; simp only [Act.put, Sa, Sz, Ss])
 (go_wp2_with (with_reducible refine wl_stop 7 ?_); refine stop_load (D2.out) rfl Tryz.underlying60 (by kernel_rfl) ?_; simp only [Act.put, Sa, Sz, Ss])
 go_wp2_with fail
 refine HH.out.mono ?_
 rintro e w1 ⟨v, rfl, ⟨a1, A1, c1, qs, Ao, co, os, rfl, h1, h2, h3, h4⟩, x1⟩
 have E3 := Hd (x1.box D3.out)
 have X1 := Hd (Ext.trans HX0.out x1)
 have H1 := Hd h1
 have H2 := Hd h2
 have H3 := Hd h3
 have H4 := Hd h4
 clear h1 h2 h3 h4 x1 HH D1 D2 D3
 (go_wp2_with (with_reducible refine wl_stopS 43 ?_); refine stop_store ((w.heap.size + 1 + 1)) (Rp.cs a1 A1 qs.length c1 (hearR2 r m 3 (okR r m))) rfl rfl (E3.out) (by kernel_rfl) rfl (by simp [Value.oneCell']) ?_)
 intro W9 e9 k9
 have HE9 := Hd e9
 have HF := Hd (RoY.kept0 H1.out H2.out H3.out H4.out k9 (B' := w.heap.size) (by simp) (by simp; omega))
 have HX9 := Hd (chg_new X1.out k9 (by omega))
 clear e9 k9
 go_wp2
 exact bodyPost_ret (results_box2 Tryz.results44 rfl rfl Tryz.underlying43 (by kernel_rfl) HE9.out) rfl ⟨_, rfl, HF.out, HX9.out⟩
end Go.Proofs.YtkenlhdiehaemaaGreat
