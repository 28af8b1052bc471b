/- A message of the primary of the own view. -/
import Derived.Test.YtkenlhdiehaemaaGreatPk28
namespace Go.Proofs.YtkenlhdiehaemaaGreat
open Go.ChangeShapes Go.WideShapes Go.ChangeAt Go.RowKit Go.Sort
set_option linter.unusedVariables false
set_option linter.unusedSimpArgs false
section
variable {W0 w : World} {p : Nat} {a : LAd} {A : Option Addr} {c : Nat} {qs : List VtE} {R : Rp} {Ao : Option Addr} {co : Nat} {os : List OtE}
set_option maxRecDepth 100000 in
set_option maxHeartbeats 8000000 in
theorem c_follows (hk : KZ W0 w p a A c qs R Ao co os) (am : LAd) (m : Mg) (hos : os.length ≤ 100000) (ho : R.of = 1 ∨ R.of = 3 ∨ R.of = 5) (h0 : 0 ≤ R.view) :
  Calls Tryz.prog 75 #[.pointer (some ⟨p, 0, none⟩), Mg.val am m] w fun e w' => e = .returned (.bool (liveB R && followB R m)) ∧ ∃ A' c' os', KZ W0 w' p a A c qs R A' c' (os ++ os') ∧ List.map Prod.snd os' = followO R m := by
 have X0 := ext_alloc w (Mg.obj am m)
 have HK := Lib.hid (hk.keep X0)
 have HM := Lib.hid (hNew (w := w) (o := Mg.obj am m) rfl)
 have ho' : R.of ≠ 0 := by omega
 have ho2 : (R.of == 0) = false := by simpa using ho'
 have HO := Lib.hid ho
 clear hk X0 ho
 go_enter Tryz.func75, Tryz.ntmps75
 go_wp2_with fail
 refine (c_awake p a A qs.length c R _ _ HK.out.box).mono ?_
 rintro e w1 ⟨rfl, x1⟩
 have K1 := Lib.hid (HK.out.keep x1)
 have M1 := Lib.hid (x1.box HM.out)
 clear HK HM x1
 cases gl : liveB R
 ·have HF := Lib.hid (show (liveB R && followB R m) = false ∧ ([] : List Ot) = followO R m from ⟨by rw [gl]; rfl, by simp [followO, gl]⟩)
  clear gl
  go_wp2
  go_ret
  exact ⟨ret_bool HF.out.1.symm, Ao, co, [], by simpa using K1.out, HF.out.2⟩
 ·cases g0 : decide (R.view < m.view)
  ·have HF0 := Lib.hid (show ([] : List Ot) = followO R m by simp [followO, g0])
   go_wp2
   (refine Rm.wp_region_mix' (R := relE w1.heap.size) (fun _ _ _ => True) (fun _ _ _ _ _ hq => hq) 8 (by first | exact Nat.le_refl _ | omega | (simp; omega)) (by kernel_rfl) (by kernel_rfl) ?_; simp only [List.take_succ_cons, List.take_zero, List.drop_succ_cons, List.drop_zero])
   ((iterate 1 (refine Rm.wpMix_plain rfl rfl ?_; go_big_quiet_step (fail); refine wpQuiet_nil ?_)); (refine Rm.wpMix_load1 (fun W9' h9 => show W9'.cell? _ = some (.int .i64 m.view) from bx_cell (Ext.box h9 M1.out) 2) rfl rfl rfl Tryz.underlying3 rfl ?_; simp only [Act.put, List.setIfInBounds_toArray, List.set_cons_zero, List.set_cons_succ]); (iterate 1 (refine Rm.wpMix_plain rfl rfl ?_; go_big_quiet_step (fail); refine wpQuiet_nil ?_)); (refine Rm.wpMix_nilp rfl rfl rfl ?_; simp only [Act.put, List.setIfInBounds_toArray, List.set_cons_zero, List.set_cons_succ]); (iterate 2 (refine Rm.wpMix_plain rfl rfl ?_; go_big_quiet_step (fail); refine wpQuiet_nil ?_)); (refine Rm.wpMix_load1 (fun W9' h9 => show W9'.cell? _ = some (.int .i64 R.view) from bx_cell (Ext.box h9 K1.out.box) 3) rfl rfl rfl Tryz.underlying3 rfl ?_; simp only [Act.put, List.setIfInBounds_toArray, List.set_cons_zero, List.set_cons_succ]); (iterate 1 (refine Rm.wpMix_plain rfl rfl ?_; go_big_quiet_step (fail); refine wpQuiet_nil ?_)); (try simp only [g0, Bool.not_true, Bool.not_false]))
   refine Rm.wpMix_nil ?_
   rintro w2 hW2
   have x2 : Ext w1 w2 := hW2
   have K2 := Lib.hid (K1.out.keep x2)
   have M2 := Lib.hid (x2.box M1.out)
   clear K1 M1 x2 hW2
   go_wp2
   cases g1 : (m.view == R.view)
   ·have HF := Lib.hid (show false = (liveB R && followB R m) by simp [gl, followB, g1])
    (refine Rm.wp_region_mix' (R := relE w2.heap.size) (fun _ _ _ => True) (fun _ _ _ _ _ hq => hq) 38 (by first | exact Nat.le_refl _ | omega | (simp; omega)) (by kernel_rfl) (by kernel_rfl) ?_; simp only [List.take_succ_cons, List.take_zero, List.drop_succ_cons, List.drop_zero])
    ((iterate 1 (refine Rm.wpMix_plain rfl rfl ?_; go_big_quiet_step (fail); refine wpQuiet_nil ?_)); (refine Rm.wpMix_load1 (fun W9' h9 => show W9'.cell? _ = some (.int .i64 m.view) from bx_cell (Ext.box h9 M2.out) 2) rfl rfl rfl Tryz.underlying3 rfl ?_; simp only [Act.put, List.setIfInBounds_toArray, List.set_cons_zero, List.set_cons_succ]); (iterate 1 (refine Rm.wpMix_plain rfl rfl ?_; go_big_quiet_step (fail); refine wpQuiet_nil ?_)); (refine Rm.wpMix_nilp rfl rfl rfl ?_; simp only [Act.put, List.setIfInBounds_toArray, List.set_cons_zero, List.set_cons_succ]); (iterate 2 (refine Rm.wpMix_plain rfl rfl ?_; go_big_quiet_step (fail); refine wpQuiet_nil ?_)); (refine Rm.wpMix_load1 (fun W9' h9 => show W9'.cell? _ = some (.int .i64 R.view) from bx_cell (Ext.box h9 K2.out.box) 3) rfl rfl rfl Tryz.underlying3 rfl ?_; simp only [Act.put, List.setIfInBounds_toArray, List.set_cons_zero, List.set_cons_succ]); (iterate 1 (refine Rm.wpMix_plain rfl rfl ?_; go_big_quiet_step (fail); refine wpQuiet_nil ?_)); (try simp only [g1, Bool.not_true, Bool.not_false]); (iterate 1 (refine Rm.wpMix_plain rfl rfl ?_; go_big_quiet_step (fail); refine wpQuiet_nil ?_)); (iterate 6 (refine Rm.wpMix_skip rfl rfl ?_; simp only [Act.put, List.setIfInBounds_toArray, List.set_cons_zero, List.set_cons_succ])); (iterate 2 (refine Rm.wpMix_plain rfl rfl ?_; go_big_quiet_step (fail); refine wpQuiet_nil ?_)); (iterate 3 (refine Rm.wpMix_skip rfl rfl ?_; simp only [Act.put, List.setIfInBounds_toArray, List.set_cons_zero, List.set_cons_succ])); (iterate 2 (refine Rm.wpMix_plain rfl rfl ?_; go_big_quiet_step (fail); refine wpQuiet_nil ?_)); (iterate 14 (refine Rm.wpMix_skip rfl rfl ?_; simp only [Act.put, List.setIfInBounds_toArray, List.set_cons_zero, List.set_cons_succ])); (iterate 2 (refine Rm.wpMix_plain rfl rfl ?_; go_big_quiet_step (fail); refine wpQuiet_nil ?_)))
    refine Rm.wpMix_nil ?_
    rintro w3 hW3
    have K3 := Lib.hid (K2.out.keep (show Ext w2 w3 from hW3))
    clear hW3
    go_wp2
    go_ret
    exact ⟨ret_bool HF.out, Ao, co, [], by simpa using K3.out, HF0.out⟩
   ·cases g2 : (R.mode == 1)
    ·have HF := Lib.hid (show false = (liveB R && followB R m) by simp [gl, followB, g2])
     (refine Rm.wp_region_mix' (R := relE w2.heap.size) (fun _ _ _ => True) (fun _ _ _ _ _ hq => hq) 38 (by first | exact Nat.le_refl _ | omega | (simp; omega)) (by kernel_rfl) (by kernel_rfl) ?_; simp only [List.take_succ_cons, List.take_zero, List.drop_succ_cons, List.drop_zero])
     ((iterate 1 (refine Rm.wpMix_plain rfl rfl ?_; go_big_quiet_step (fail); refine wpQuiet_nil ?_)); (refine Rm.wpMix_load1 (fun W9' h9 => show W9'.cell? _ = some (.int .i64 m.view) from bx_cell (Ext.box h9 M2.out) 2) rfl rfl rfl Tryz.underlying3 rfl ?_; simp only [Act.put, List.setIfInBounds_toArray, List.set_cons_zero, List.set_cons_succ]); (iterate 1 (refine Rm.wpMix_plain rfl rfl ?_; go_big_quiet_step (fail); refine wpQuiet_nil ?_)); (refine Rm.wpMix_nilp rfl rfl rfl ?_; simp only [Act.put, List.setIfInBounds_toArray, List.set_cons_zero, List.set_cons_succ]); (iterate 2 (refine Rm.wpMix_plain rfl rfl ?_; go_big_quiet_step (fail); refine wpQuiet_nil ?_)); (refine Rm.wpMix_load1 (fun W9' h9 => show W9'.cell? _ = some (.int .i64 R.view) from bx_cell (Ext.box h9 K2.out.box) 3) rfl rfl rfl Tryz.underlying3 rfl ?_; simp only [Act.put, List.setIfInBounds_toArray, List.set_cons_zero, List.set_cons_succ]); (iterate 1 (refine Rm.wpMix_plain rfl rfl ?_; go_big_quiet_step (fail); refine wpQuiet_nil ?_)); (try simp only [g1, Bool.not_true, Bool.not_false]); (iterate 2 (refine Rm.wpMix_plain rfl rfl ?_; go_big_quiet_step (fail); refine wpQuiet_nil ?_)); (refine Rm.wpMix_nilp rfl rfl rfl ?_; simp only [Act.put, List.setIfInBounds_toArray, List.set_cons_zero, List.set_cons_succ]); (iterate 2 (refine Rm.wpMix_plain rfl rfl ?_; go_big_quiet_step (fail); refine wpQuiet_nil ?_)); (refine Rm.wpMix_load1 (fun W9' h9 => show W9'.cell? _ = some (.int .i64 R.mode) from bx_cell (Ext.box h9 K2.out.box) 2) rfl rfl rfl Tryz.underlying3 rfl ?_; simp only [Act.put, List.setIfInBounds_toArray, List.set_cons_zero, List.set_cons_succ]); (iterate 1 (refine Rm.wpMix_plain rfl rfl ?_; go_big_quiet_step (fail); refine wpQuiet_nil ?_)); (try simp only [g2, Bool.not_true, Bool.not_false]); (iterate 2 (refine Rm.wpMix_plain rfl rfl ?_; go_big_quiet_step (fail); refine wpQuiet_nil ?_)); (iterate 3 (refine Rm.wpMix_skip rfl rfl ?_; simp only [Act.put, List.setIfInBounds_toArray, List.set_cons_zero, List.set_cons_succ])); (iterate 2 (refine Rm.wpMix_plain rfl rfl ?_; go_big_quiet_step (fail); refine wpQuiet_nil ?_)); (iterate 14 (refine Rm.wpMix_skip rfl rfl ?_; simp only [Act.put, List.setIfInBounds_toArray, List.set_cons_zero, List.set_cons_succ])); (iterate 2 (refine Rm.wpMix_plain rfl rfl ?_; go_big_quiet_step (fail); refine wpQuiet_nil ?_)))
     refine Rm.wpMix_nil ?_
     rintro w3 hW3
     have K3 := Lib.hid (K2.out.keep (show Ext w2 w3 from hW3))
     clear hW3
     go_wp2
     go_ret
     exact ⟨ret_bool HF.out, Ao, co, [], by simpa using K3.out, HF0.out⟩
    ·cases g3 : leadsB R
     ·have HF := Lib.hid (show (m.frm == R.view % R.of) = (liveB R && followB R m) by simp [gl, followB, g1, g2, g3])
      (refine Rm.wp_region_mix' (R := relE w2.heap.size) (fun _ _ _ => True) (fun _ _ _ _ _ hq => hq) 38 (by first | exact Nat.le_refl _ | omega | (simp; omega)) (by kernel_rfl) (by kernel_rfl) ?_; simp only [List.take_succ_cons, List.take_zero, List.drop_succ_cons, List.drop_zero])
      ((iterate 1 (refine Rm.wpMix_plain rfl rfl ?_; go_big_quiet_step (fail); refine wpQuiet_nil ?_)); (refine Rm.wpMix_load1 (fun W9' h9 => show W9'.cell? _ = some (.int .i64 m.view) from bx_cell (Ext.box h9 M2.out) 2) rfl rfl rfl Tryz.underlying3 rfl ?_; simp only [Act.put, List.setIfInBounds_toArray, List.set_cons_zero, List.set_cons_succ]); (iterate 1 (refine Rm.wpMix_plain rfl rfl ?_; go_big_quiet_step (fail); refine wpQuiet_nil ?_)); (refine Rm.wpMix_nilp rfl rfl rfl ?_; simp only [Act.put, List.setIfInBounds_toArray, List.set_cons_zero, List.set_cons_succ]); (iterate 2 (refine Rm.wpMix_plain rfl rfl ?_; go_big_quiet_step (fail); refine wpQuiet_nil ?_)); (refine Rm.wpMix_load1 (fun W9' h9 => show W9'.cell? _ = some (.int .i64 R.view) from bx_cell (Ext.box h9 K2.out.box) 3) rfl rfl rfl Tryz.underlying3 rfl ?_; simp only [Act.put, List.setIfInBounds_toArray, List.set_cons_zero, List.set_cons_succ]); (iterate 1 (refine Rm.wpMix_plain rfl rfl ?_; go_big_quiet_step (fail); refine wpQuiet_nil ?_)); (try simp only [g1, Bool.not_true, Bool.not_false]); (iterate 2 (refine Rm.wpMix_plain rfl rfl ?_; go_big_quiet_step (fail); refine wpQuiet_nil ?_)); (refine Rm.wpMix_nilp rfl rfl rfl ?_; simp only [Act.put, List.setIfInBounds_toArray, List.set_cons_zero, List.set_cons_succ]); (iterate 2 (refine Rm.wpMix_plain rfl rfl ?_; go_big_quiet_step (fail); refine wpQuiet_nil ?_)); (refine Rm.wpMix_load1 (fun W9' h9 => show W9'.cell? _ = some (.int .i64 R.mode) from bx_cell (Ext.box h9 K2.out.box) 2) rfl rfl rfl Tryz.underlying3 rfl ?_; simp only [Act.put, List.setIfInBounds_toArray, List.set_cons_zero, List.set_cons_succ]); (iterate 1 (refine Rm.wpMix_plain rfl rfl ?_; go_big_quiet_step (fail); refine wpQuiet_nil ?_)); (try simp only [g2, Bool.not_true, Bool.not_false]); (iterate 3 (refine Rm.wpMix_plain rfl rfl ?_; go_big_quiet_step (fail); refine wpQuiet_nil ?_)))
      (refine Rm.wpMix_det rfl rfl rfl (enters Tryz.func91 (by kernel_rfl) rfl) (fun W9' h9 => c_isPrimary p a A qs.length c R _ W9' (Ext.box h9 K2.out.box) HO.out h0) rfl ?_; simp only [Act.put, List.setIfInBounds_toArray, List.set_cons_zero, List.set_cons_succ])
      ((try simp only [g3, Bool.not_true, Bool.not_false]); (iterate 4 (refine Rm.wpMix_plain rfl rfl ?_; go_big_quiet_step (fail); refine wpQuiet_nil ?_)); (refine Rm.wpMix_load1 (fun W9' h9 => show W9'.cell? _ = some (.int .i64 m.frm) from bx_cell (Ext.box h9 M2.out) 1) rfl rfl rfl Tryz.underlying3 rfl ?_; simp only [Act.put, List.setIfInBounds_toArray, List.set_cons_zero, List.set_cons_succ]); (iterate 1 (refine Rm.wpMix_plain rfl rfl ?_; go_big_quiet_step (fail); refine wpQuiet_nil ?_)); (refine Rm.wpMix_nilp rfl rfl rfl ?_; simp only [Act.put, List.setIfInBounds_toArray, List.set_cons_zero, List.set_cons_succ]); (iterate 2 (refine Rm.wpMix_plain rfl rfl ?_; go_big_quiet_step (fail); refine wpQuiet_nil ?_)); (refine Rm.wpMix_load1 (fun W9' h9 => show W9'.cell? _ = some (.int .i64 R.view) from bx_cell (Ext.box h9 K2.out.box) 3) rfl rfl rfl Tryz.underlying3 rfl ?_; simp only [Act.put, List.setIfInBounds_toArray, List.set_cons_zero, List.set_cons_succ]); (iterate 1 (refine Rm.wpMix_plain rfl rfl ?_; go_big_quiet_step (fail); refine wpQuiet_nil ?_)); (refine Rm.wpMix_nilp rfl rfl rfl ?_; simp only [Act.put, List.setIfInBounds_toArray, List.set_cons_zero, List.set_cons_succ]); (iterate 2 (refine Rm.wpMix_plain rfl rfl ?_; go_big_quiet_step (fail); refine wpQuiet_nil ?_)); (refine Rm.wpMix_load1 (fun W9' h9 => show W9'.cell? _ = some (.int .i64 R.of) from bx_cell (Ext.box h9 K2.out.box) 1) rfl rfl rfl Tryz.underlying3 rfl ?_; simp only [Act.put, List.setIfInBounds_toArray, List.set_cons_zero, List.set_cons_succ]); (iterate 4 (refine Rm.wpMix_plain rfl rfl ?_; go_big_quiet_step (fail); refine wpQuiet_nil ?_)))
      refine Rm.wpMix_nil ?_
      rintro w3 hW3
      have K3 := Lib.hid (K2.out.keep (show Ext w2 w3 from hW3))
      clear hW3
      go_wp2
      go_ret
      exact ⟨ret_bool HF.out, Ao, co, [], by simpa using K3.out, HF0.out⟩
     ·have HF := Lib.hid (show false = (liveB R && followB R m) by simp [gl, followB, g3])
      (refine Rm.wp_region_mix' (R := relE w2.heap.size) (fun _ _ _ => True) (fun _ _ _ _ _ hq => hq) 38 (by first | exact Nat.le_refl _ | omega | (simp; omega)) (by kernel_rfl) (by kernel_rfl) ?_; simp only [List.take_succ_cons, List.take_zero, List.drop_succ_cons, List.drop_zero])
      ((iterate 1 (refine Rm.wpMix_plain rfl rfl ?_; go_big_quiet_step (fail); refine wpQuiet_nil ?_)); (refine Rm.wpMix_load1 (fun W9' h9 => show W9'.cell? _ = some (.int .i64 m.view) from bx_cell (Ext.box h9 M2.out) 2) rfl rfl rfl Tryz.underlying3 rfl ?_; simp only [Act.put, List.setIfInBounds_toArray, List.set_cons_zero, List.set_cons_succ]); (iterate 1 (refine Rm.wpMix_plain rfl rfl ?_; go_big_quiet_step (fail); refine wpQuiet_nil ?_)); (refine Rm.wpMix_nilp rfl rfl rfl ?_; simp only [Act.put, List.setIfInBounds_toArray, List.set_cons_zero, List.set_cons_succ]); (iterate 2 (refine Rm.wpMix_plain rfl rfl ?_; go_big_quiet_step (fail); refine wpQuiet_nil ?_)); (refine Rm.wpMix_load1 (fun W9' h9 => show W9'.cell? _ = some (.int .i64 R.view) from bx_cell (Ext.box h9 K2.out.box) 3) rfl rfl rfl Tryz.underlying3 rfl ?_; simp only [Act.put, List.setIfInBounds_toArray, List.set_cons_zero, List.set_cons_succ]); (iterate 1 (refine Rm.wpMix_plain rfl rfl ?_; go_big_quiet_step (fail); refine wpQuiet_nil ?_)); (try simp only [g1, Bool.not_true, Bool.not_false]); (iterate 2 (refine Rm.wpMix_plain rfl rfl ?_; go_big_quiet_step (fail); refine wpQuiet_nil ?_)); (refine Rm.wpMix_nilp rfl rfl rfl ?_; simp only [Act.put, List.setIfInBounds_toArray, List.set_cons_zero, List.set_cons_succ]); (iterate 2 (refine Rm.wpMix_plain rfl rfl ?_; go_big_quiet_step (fail); refine wpQuiet_nil ?_)); (refine Rm.wpMix_load1 (fun W9' h9 => show W9'.cell? _ = some (.int .i64 R.mode) from bx_cell (Ext.box h9 K2.out.box) 2) rfl rfl rfl Tryz.underlying3 rfl ?_; simp only [Act.put, List.setIfInBounds_toArray, List.set_cons_zero, List.set_cons_succ]); (iterate 1 (refine Rm.wpMix_plain rfl rfl ?_; go_big_quiet_step (fail); refine wpQuiet_nil ?_)); (try simp only [g2, Bool.not_true, Bool.not_false]); (iterate 3 (refine Rm.wpMix_plain rfl rfl ?_; go_big_quiet_step (fail); refine wpQuiet_nil ?_)))
      (refine Rm.wpMix_det rfl rfl rfl (enters Tryz.func91 (by kernel_rfl) rfl) (fun W9' h9 => c_isPrimary p a A qs.length c R _ W9' (Ext.box h9 K2.out.box) HO.out h0) rfl ?_; simp only [Act.put, List.setIfInBounds_toArray, List.set_cons_zero, List.set_cons_succ])
      ((try simp only [g3, Bool.not_true, Bool.not_false]); (iterate 3 (refine Rm.wpMix_plain rfl rfl ?_; go_big_quiet_step (fail); refine wpQuiet_nil ?_)); (iterate 14 (refine Rm.wpMix_skip rfl rfl ?_; simp only [Act.put, List.setIfInBounds_toArray, List.set_cons_zero, List.set_cons_succ])); (iterate 2 (refine Rm.wpMix_plain rfl rfl ?_; go_big_quiet_step (fail); refine wpQuiet_nil ?_)))
      refine Rm.wpMix_nil ?_
      rintro w3 hW3
      have K3 := Lib.hid (K2.out.keep (show Ext w2 w3 from hW3))
      clear hW3
      go_wp2
      go_ret
      exact ⟨ret_bool HF.out, Ao, co, [], by simpa using K3.out, HF0.out⟩
  ·have HF := Lib.hid (show false = (liveB R && followB R m) by
    have : (m.view == R.view) = false := by simp at g0 ⊢; omega
    simp [gl, followB, this])
   have HF0 := Lib.hid (show ([⟨m.frm, askM2 R m.view R.commit⟩] : List Ot) = followO R m by simp [followO, gl, g0])
   go_wp2
   (refine Rm.wp_region_mix' (R := relE w1.heap.size) (fun _ _ _ => True) (fun _ _ _ _ _ hq => hq) 8 (by first | exact Nat.le_refl _ | omega | (simp; omega)) (by kernel_rfl) (by kernel_rfl) ?_; simp only [List.take_succ_cons, List.take_zero, List.drop_succ_cons, List.drop_zero])
   ((iterate 1 (refine Rm.wpMix_plain rfl rfl ?_; go_big_quiet_step (fail); refine wpQuiet_nil ?_)); (refine Rm.wpMix_load1 (fun W9' h9 => show W9'.cell? _ = some (.int .i64 m.view) from bx_cell (Ext.box h9 M1.out) 2) rfl rfl rfl Tryz.underlying3 rfl ?_; simp only [Act.put, List.setIfInBounds_toArray, List.set_cons_zero, List.set_cons_succ]); (iterate 1 (refine Rm.wpMix_plain rfl rfl ?_; go_big_quiet_step (fail); refine wpQuiet_nil ?_)); (refine Rm.wpMix_nilp rfl rfl rfl ?_; simp only [Act.put, List.setIfInBounds_toArray, List.set_cons_zero, List.set_cons_succ]); (iterate 2 (refine Rm.wpMix_plain rfl rfl ?_; go_big_quiet_step (fail); refine wpQuiet_nil ?_)); (refine Rm.wpMix_load1 (fun W9' h9 => show W9'.cell? _ = some (.int .i64 R.view) from bx_cell (Ext.box h9 K1.out.box) 3) rfl rfl rfl Tryz.underlying3 rfl ?_; simp only [Act.put, List.setIfInBounds_toArray, List.set_cons_zero, List.set_cons_succ]); (iterate 1 (refine Rm.wpMix_plain rfl rfl ?_; go_big_quiet_step (fail); refine wpQuiet_nil ?_)); (try simp only [g0, Bool.not_true, Bool.not_false]))
   refine Rm.wpMix_nil ?_
   rintro w2 hW2
   have x2 : Ext w1 w2 := hW2
   have K2 := Lib.hid (K1.out.keep x2)
   have M2 := Lib.hid (x2.box M1.out)
   clear K1 M1 x2 hW2
   go_wp2
   (refine Rm.wp_region_mix' (R := relE w2.heap.size) (fun _ _ _ => True) (fun _ _ _ _ _ hq => hq) 10 (by first | exact Nat.le_refl _ | omega | (simp; omega)) (by kernel_rfl) (by kernel_rfl) ?_; simp only [List.take_succ_cons, List.take_zero, List.drop_succ_cons, List.drop_zero])
   ((iterate 2 (refine Rm.wpMix_plain rfl rfl ?_; go_big_quiet_step (fail); refine wpQuiet_nil ?_)); (refine Rm.wpMix_load1 (fun W9' h9 => show W9'.cell? _ = some (.int .i64 m.frm) from bx_cell (Ext.box h9 M2.out) 1) rfl rfl rfl Tryz.underlying3 rfl ?_; simp only [Act.put, List.setIfInBounds_toArray, List.set_cons_zero, List.set_cons_succ]); (iterate 1 (refine Rm.wpMix_plain rfl rfl ?_; go_big_quiet_step (fail); refine wpQuiet_nil ?_)); (refine Rm.wpMix_load1 (fun W9' h9 => show W9'.cell? _ = some (.int .i64 m.view) from bx_cell (Ext.box h9 M2.out) 2) rfl rfl rfl Tryz.underlying3 rfl ?_; simp only [Act.put, List.setIfInBounds_toArray, List.set_cons_zero, List.set_cons_succ]); (iterate 1 (refine Rm.wpMix_plain rfl rfl ?_; go_big_quiet_step (fail); refine wpQuiet_nil ?_)); (refine Rm.wpMix_nilp rfl rfl rfl ?_; simp only [Act.put, List.setIfInBounds_toArray, List.set_cons_zero, List.set_cons_succ]); (iterate 2 (refine Rm.wpMix_plain rfl rfl ?_; go_big_quiet_step (fail); refine wpQuiet_nil ?_)); (refine Rm.wpMix_load1 (fun W9' h9 => show W9'.cell? _ = some (.int .i64 R.commit) from bx_cell (Ext.box h9 K2.out.box) 5) rfl rfl rfl Tryz.underlying3 rfl ?_; simp only [Act.put, List.setIfInBounds_toArray, List.set_cons_zero, List.set_cons_succ]))
   refine Rm.wpMix_nil ?_
   rintro w3 hW3
   have K3 := Lib.hid (K2.out.keep (show Ext w2 w3 from hW3))
   clear K2 M2 hW3
   go_wp2_with fail
   refine (c_askState K3.out m.frm m.view R.commit hos).mono ?_
   rintro e w4 ⟨rfl, A4, c4, a4, k4⟩
   have K4 := Lib.hid k4
   clear k4
   go_wp2
   go_ret
   exact ⟨ret_bool HF.out, A4, c4, _, K4.out, HF0.out⟩
end
theorem KZ.ko {W0 w : World} {p : Nat} {a : LAd} {A : Option Addr} {c : Nat} {qs : List VtE} {R R' : Rp} {Ao : Option Addr} {co : Nat} {os : List OtE} {O : List Ot} (h : KZ W0 w p a A c qs R Ao co os) (hR : R = R') (hO : os.map Prod.snd = O) : KO W0 w p R' O := by
 subst hR
 exact ⟨a, A, c, qs, Ao, co, os, h, hO⟩
theorem followO_1 {r : Rp} {m : Mg} {os : List OtE} (h : List.map Prod.snd os = followO r m) : os.length ≤ 1 := by
 have := congrArg List.length h
 rw [List.length_map] at this
 unfold followO at this
 split at this <;> simp only [List.length_cons, List.length_nil] at this <;> omega
end Go.Proofs.YtkenlhdiehaemaaGreat
