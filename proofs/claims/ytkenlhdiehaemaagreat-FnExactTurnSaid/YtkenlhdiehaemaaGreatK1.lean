/- What is done at a message to commit, to start, with a state. -/
import Derived.Test.YtkenlhdiehaemaaGreatGh
namespace Go.Proofs.YtkenlhdiehaemaaGreat
open Go.ChangeShapes Go.WideShapes Go.ChangeAt Go.RowKit Go.Sort
set_option linter.unusedVariables false
set_option linter.unusedSimpArgs false

section
variable {W0 w : World} {p : Nat} {a : LAd} {A : Option Addr} {c : Nat} {qs : List VtE} {R : Rp} {Ao : Option Addr} {co : Nat} {os : List OtE}
set_option maxRecDepth 100000 in
set_option maxHeartbeats 8000000 in
theorem c_follows (hk : KZ W0 w p a A c qs R Ao co os) (am : LAd) (m : Mg) (hos : os.length ≤ 100000) (ho : R.of = 1 ∨ R.of = 3 ∨ R.of = 5) (h0 : 0 ≤ R.view) :
    Calls Tryz.prog 75 #[.pointer (some ⟨p, 0, none⟩), Mg.val am m] w fun e w' => e = .returned (.bool (liveB R && followB R m)) ∧ ∃ A' c' os', KZ W0 w' p a A c qs R A' c' (os ++ os') ∧ List.map Prod.snd os' = followO R m := by
  have X0 := ext_alloc w (Mg.obj am m)
  have HK := Lib.hid (hk.keep X0)
  have HM := Lib.hid (hNew (w := w) (o := Mg.obj am m) rfl)
  have ho' : R.of ≠ 0 := by omega
  have ho2 : (R.of == 0) = false := by simpa using ho'
  have HO := Lib.hid ho
  clear hk X0 ho
  go_enter Tryz.func75, Tryz.ntmps75
  go_wp2_with fail
  refine (c_awake p a A qs.length c R _ _ HK.out.box).mono ?_
  rintro e w1 ⟨rfl, x1⟩
  have K1 := Lib.hid (HK.out.keep x1)
  have M1 := Lib.hid (x1.box HM.out)
  clear HK HM x1
  cases gl : liveB R
  · have HF := Lib.hid (show (liveB R && followB R m) = false ∧ ([] : List Ot) = followO R m from ⟨by rw [gl]; rfl, by simp [followO, gl]⟩)
    clear gl
    go_wp2
    go_ret
    exact ⟨ret_bool HF.out.1.symm, Ao, co, [], by simpa using K1.out, HF.out.2⟩
  · cases g0 : decide (R.view < m.view)
    · have HF0 := Lib.hid (show ([] : List Ot) = followO R m by simp [followO, g0])
      go_wp2
      (refine Rm.wp_region_mix' (R := relE w1.heap.size) (fun _ _ _ => True) (fun _ _ _ _ _ hq => hq) 8 (by first | exact Nat.le_refl _ | omega | (simp; omega)) (by kernel_rfl) (by kernel_rfl) ?_; simp only [List.take_succ_cons, List.take_zero, List.drop_succ_cons, List.drop_zero])
      ((iterate 1 (refine Rm.wpMix_plain rfl rfl ?_; go_big_quiet_step (fail); refine wpQuiet_nil ?_)); (refine Rm.wpMix_load1 (fun W9' h9 => show W9'.cell? _ = some (.int .i64 m.view) from bx_cell (Ext.box h9 M1.out) 2) rfl rfl rfl Tryz.underlying3 rfl ?_; simp only [Act.put, List.setIfInBounds_toArray, List.set_cons_zero, List.set_cons_succ]); (iterate 1 (refine Rm.wpMix_plain rfl rfl ?_; go_big_quiet_step (fail); refine wpQuiet_nil ?_)); (refine Rm.wpMix_nilp rfl rfl rfl ?_; simp only [Act.put, List.setIfInBounds_toArray, List.set_cons_zero, List.set_cons_succ]); (iterate 2 (refine Rm.wpMix_plain rfl rfl ?_; go_big_quiet_step (fail); refine wpQuiet_nil ?_)); (refine Rm.wpMix_load1 (fun W9' h9 => show W9'.cell? _ = some (.int .i64 R.view) from bx_cell (Ext.box h9 K1.out.box) 3) rfl rfl rfl Tryz.underlying3 rfl ?_; simp only [Act.put, List.setIfInBounds_toArray, List.set_cons_zero, List.set_cons_succ]); (iterate 1 (refine Rm.wpMix_plain rfl rfl ?_; go_big_quiet_step (fail); refine wpQuiet_nil ?_)); (try simp only [g0, Bool.not_true, Bool.not_false]))
      refine Rm.wpMix_nil ?_
      rintro w2 hW2
      have x2 : Ext w1 w2 := hW2
      have K2 := Lib.hid (K1.out.keep x2)
      have M2 := Lib.hid (x2.box M1.out)
      clear K1 M1 x2 hW2
      go_wp2
      cases g1 : (m.view == R.view)
      · have HF := Lib.hid (show false = (liveB R && followB R m) by simp [gl, followB, g1])
        (refine Rm.wp_region_mix' (R := relE w2.heap.size) (fun _ _ _ => True) (fun _ _ _ _ _ hq => hq) 38 (by first | exact Nat.le_refl _ | omega | (simp; omega)) (by kernel_rfl) (by kernel_rfl) ?_; simp only [List.take_succ_cons, List.take_zero, List.drop_succ_cons, List.drop_zero])
        ((iterate 1 (refine Rm.wpMix_plain rfl rfl ?_; go_big_quiet_step (fail); refine wpQuiet_nil ?_)); (refine Rm.wpMix_load1 (fun W9' h9 => show W9'.cell? _ = some (.int .i64 m.view) from bx_cell (Ext.box h9 M2.out) 2) rfl rfl rfl Tryz.underlying3 rfl ?_; simp only [Act.put, List.setIfInBounds_toArray, List.set_cons_zero, List.set_cons_succ]); (iterate 1 (refine Rm.wpMix_plain rfl rfl ?_; go_big_quiet_step (fail); refine wpQuiet_nil ?_)); (refine Rm.wpMix_nilp rfl rfl rfl ?_; simp only [Act.put, List.setIfInBounds_toArray, List.set_cons_zero, List.set_cons_succ]); (iterate 2 (refine Rm.wpMix_plain rfl rfl ?_; go_big_quiet_step (fail); refine wpQuiet_nil ?_)); (refine Rm.wpMix_load1 (fun W9' h9 => show W9'.cell? _ = some (.int .i64 R.view) from bx_cell (Ext.box h9 K2.out.box) 3) rfl rfl rfl Tryz.underlying3 rfl ?_; simp only [Act.put, List.setIfInBounds_toArray, List.set_cons_zero, List.set_cons_succ]); (iterate 1 (refine Rm.wpMix_plain rfl rfl ?_; go_big_quiet_step (fail); refine wpQuiet_nil ?_)); (try simp only [g1, Bool.not_true, Bool.not_false]); (iterate 1 (refine Rm.wpMix_plain rfl rfl ?_; go_big_quiet_step (fail); refine wpQuiet_nil ?_)); (iterate 6 (refine Rm.wpMix_skip rfl rfl ?_; simp only [Act.put, List.setIfInBounds_toArray, List.set_cons_zero, List.set_cons_succ])); (iterate 2 (refine Rm.wpMix_plain rfl rfl ?_; go_big_quiet_step (fail); refine wpQuiet_nil ?_)); (iterate 3 (refine Rm.wpMix_skip rfl rfl ?_; simp only [Act.put, List.setIfInBounds_toArray, List.set_cons_zero, List.set_cons_succ])); (iterate 2 (refine Rm.wpMix_plain rfl rfl ?_; go_big_quiet_step (fail); refine wpQuiet_nil ?_)); (iterate 14 (refine Rm.wpMix_skip rfl rfl ?_; simp only [Act.put, List.setIfInBounds_toArray, List.set_cons_zero, List.set_cons_succ])); (iterate 2 (refine Rm.wpMix_plain rfl rfl ?_; go_big_quiet_step (fail); refine wpQuiet_nil ?_)))
        refine Rm.wpMix_nil ?_
        rintro w3 hW3
        have K3 := Lib.hid (K2.out.keep (show Ext w2 w3 from hW3))
        clear hW3
        go_wp2
        go_ret
        exact ⟨ret_bool HF.out, Ao, co, [], by simpa using K3.out, HF0.out⟩
      · cases g2 : (R.mode == 1)
        · have HF := Lib.hid (show false = (liveB R && followB R m) by simp [gl, followB, g2])
          (refine Rm.wp_region_mix' (R := relE w2.heap.size) (fun _ _ _ => True) (fun _ _ _ _ _ hq => hq) 38 (by first | exact Nat.le_refl _ | omega | (simp; omega)) (by kernel_rfl) (by kernel_rfl) ?_; simp only [List.take_succ_cons, List.take_zero, List.drop_succ_cons, List.drop_zero])
          ((iterate 1 (refine Rm.wpMix_plain rfl rfl ?_; go_big_quiet_step (fail); refine wpQuiet_nil ?_)); (refine Rm.wpMix_load1 (fun W9' h9 => show W9'.cell? _ = some (.int .i64 m.view) from bx_cell (Ext.box h9 M2.out) 2) rfl rfl rfl Tryz.underlying3 rfl ?_; simp only [Act.put, List.setIfInBounds_toArray, List.set_cons_zero, List.set_cons_succ]); (iterate 1 (refine Rm.wpMix_plain rfl rfl ?_; go_big_quiet_step (fail); refine wpQuiet_nil ?_)); (refine Rm.wpMix_nilp rfl rfl rfl ?_; simp only [Act.put, List.setIfInBounds_toArray, List.set_cons_zero, List.set_cons_succ]); (iterate 2 (refine Rm.wpMix_plain rfl rfl ?_; go_big_quiet_step (fail); refine wpQuiet_nil ?_)); (refine Rm.wpMix_load1 (fun W9' h9 => show W9'.cell? _ = some (.int .i64 R.view) from bx_cell (Ext.box h9 K2.out.box) 3) rfl rfl rfl Tryz.underlying3 rfl ?_; simp only [Act.put, List.setIfInBounds_toArray, List.set_cons_zero, List.set_cons_succ]); (iterate 1 (refine Rm.wpMix_plain rfl rfl ?_; go_big_quiet_step (fail); refine wpQuiet_nil ?_)); (try simp only [g1, Bool.not_true, Bool.not_false]); (iterate 2 (refine Rm.wpMix_plain rfl rfl ?_; go_big_quiet_step (fail); refine wpQuiet_nil ?_)); (refine Rm.wpMix_nilp rfl rfl rfl ?_; simp only [Act.put, List.setIfInBounds_toArray, List.set_cons_zero, List.set_cons_succ]); (iterate 2 (refine Rm.wpMix_plain rfl rfl ?_; go_big_quiet_step (fail); refine wpQuiet_nil ?_)); (refine Rm.wpMix_load1 (fun W9' h9 => show W9'.cell? _ = some (.int .i64 R.mode) from bx_cell (Ext.box h9 K2.out.box) 2) rfl rfl rfl Tryz.underlying3 rfl ?_; simp only [Act.put, List.setIfInBounds_toArray, List.set_cons_zero, List.set_cons_succ]); (iterate 1 (refine Rm.wpMix_plain rfl rfl ?_; go_big_quiet_step (fail); refine wpQuiet_nil ?_)); (try simp only [g2, Bool.not_true, Bool.not_false]); (iterate 2 (refine Rm.wpMix_plain rfl rfl ?_; go_big_quiet_step (fail); refine wpQuiet_nil ?_)); (iterate 3 (refine Rm.wpMix_skip rfl rfl ?_; simp only [Act.put, List.setIfInBounds_toArray, List.set_cons_zero, List.set_cons_succ])); (iterate 2 (refine Rm.wpMix_plain rfl rfl ?_; go_big_quiet_step (fail); refine wpQuiet_nil ?_)); (iterate 14 (refine Rm.wpMix_skip rfl rfl ?_; simp only [Act.put, List.setIfInBounds_toArray, List.set_cons_zero, List.set_cons_succ])); (iterate 2 (refine Rm.wpMix_plain rfl rfl ?_; go_big_quiet_step (fail); refine wpQuiet_nil ?_)))
          refine Rm.wpMix_nil ?_
          rintro w3 hW3
          have K3 := Lib.hid (K2.out.keep (show Ext w2 w3 from hW3))
          clear hW3
          go_wp2
          go_ret
          exact ⟨ret_bool HF.out, Ao, co, [], by simpa using K3.out, HF0.out⟩
        · cases g3 : leadsB R
          · have HF := Lib.hid (show (m.frm == R.view % R.of) = (liveB R && followB R m) by simp [gl, followB, g1, g2, g3])
            (refine Rm.wp_region_mix' (R := relE w2.heap.size) (fun _ _ _ => True) (fun _ _ _ _ _ hq => hq) 38 (by first | exact Nat.le_refl _ | omega | (simp; omega)) (by kernel_rfl) (by kernel_rfl) ?_; simp only [List.take_succ_cons, List.take_zero, List.drop_succ_cons, List.drop_zero])
            ((iterate 1 (refine Rm.wpMix_plain rfl rfl ?_; go_big_quiet_step (fail); refine wpQuiet_nil ?_)); (refine Rm.wpMix_load1 (fun W9' h9 => show W9'.cell? _ = some (.int .i64 m.view) from bx_cell (Ext.box h9 M2.out) 2) rfl rfl rfl Tryz.underlying3 rfl ?_; simp only [Act.put, List.setIfInBounds_toArray, List.set_cons_zero, List.set_cons_succ]); (iterate 1 (refine Rm.wpMix_plain rfl rfl ?_; go_big_quiet_step (fail); refine wpQuiet_nil ?_)); (refine Rm.wpMix_nilp rfl rfl rfl ?_; simp only [Act.put, List.setIfInBounds_toArray, List.set_cons_zero, List.set_cons_succ]); (iterate 2 (refine Rm.wpMix_plain rfl rfl ?_; go_big_quiet_step (fail); refine wpQuiet_nil ?_)); (refine Rm.wpMix_load1 (fun W9' h9 => show W9'.cell? _ = some (.int .i64 R.view) from bx_cell (Ext.box h9 K2.out.box) 3) rfl rfl rfl Tryz.underlying3 rfl ?_; simp only [Act.put, List.setIfInBounds_toArray, List.set_cons_zero, List.set_cons_succ]); (iterate 1 (refine Rm.wpMix_plain rfl rfl ?_; go_big_quiet_step (fail); refine wpQuiet_nil ?_)); (try simp only [g1, Bool.not_true, Bool.not_false]); (iterate 2 (refine Rm.wpMix_plain rfl rfl ?_; go_big_quiet_step (fail); refine wpQuiet_nil ?_)); (refine Rm.wpMix_nilp rfl rfl rfl ?_; simp only [Act.put, List.setIfInBounds_toArray, List.set_cons_zero, List.set_cons_succ]); (iterate 2 (refine Rm.wpMix_plain rfl rfl ?_; go_big_quiet_step (fail); refine wpQuiet_nil ?_)); (refine Rm.wpMix_load1 (fun W9' h9 => show W9'.cell? _ = some (.int .i64 R.mode) from bx_cell (Ext.box h9 K2.out.box) 2) rfl rfl rfl Tryz.underlying3 rfl ?_; simp only [Act.put, List.setIfInBounds_toArray, List.set_cons_zero, List.set_cons_succ]); (iterate 1 (refine Rm.wpMix_plain rfl rfl ?_; go_big_quiet_step (fail); refine wpQuiet_nil ?_)); (try simp only [g2, Bool.not_true, Bool.not_false]); (iterate 3 (refine Rm.wpMix_plain rfl rfl ?_; go_big_quiet_step (fail); refine wpQuiet_nil ?_)))
            (refine Rm.wpMix_det rfl rfl rfl (enters Tryz.func91 (by kernel_rfl) rfl) (fun W9' h9 => c_isPrimary p a A qs.length c R _ W9' (Ext.box h9 K2.out.box) HO.out h0) rfl ?_; simp only [Act.put, List.setIfInBounds_toArray, List.set_cons_zero, List.set_cons_succ])
            ((try simp only [g3, Bool.not_true, Bool.not_false]); (iterate 4 (refine Rm.wpMix_plain rfl rfl ?_; go_big_quiet_step (fail); refine wpQuiet_nil ?_)); (refine Rm.wpMix_load1 (fun W9' h9 => show W9'.cell? _ = some (.int .i64 m.frm) from bx_cell (Ext.box h9 M2.out) 1) rfl rfl rfl Tryz.underlying3 rfl ?_; simp only [Act.put, List.setIfInBounds_toArray, List.set_cons_zero, List.set_cons_succ]); (iterate 1 (refine Rm.wpMix_plain rfl rfl ?_; go_big_quiet_step (fail); refine wpQuiet_nil ?_)); (refine Rm.wpMix_nilp rfl rfl rfl ?_; simp only [Act.put, List.setIfInBounds_toArray, List.set_cons_zero, List.set_cons_succ]); (iterate 2 (refine Rm.wpMix_plain rfl rfl ?_; go_big_quiet_step (fail); refine wpQuiet_nil ?_)); (refine Rm.wpMix_load1 (fun W9' h9 => show W9'.cell? _ = some (.int .i64 R.view) from bx_cell (Ext.box h9 K2.out.box) 3) rfl rfl rfl Tryz.underlying3 rfl ?_; simp only [Act.put, List.setIfInBounds_toArray, List.set_cons_zero, List.set_cons_succ]); (iterate 1 (refine Rm.wpMix_plain rfl rfl ?_; go_big_quiet_step (fail); refine wpQuiet_nil ?_)); (refine Rm.wpMix_nilp rfl rfl rfl ?_; simp only [Act.put, List.setIfInBounds_toArray, List.set_cons_zero, List.set_cons_succ]); (iterate 2 (refine Rm.wpMix_plain rfl rfl ?_; go_big_quiet_step (fail); refine wpQuiet_nil ?_)); (refine Rm.wpMix_load1 (fun W9' h9 => show W9'.cell? _ = some (.int .i64 R.of) from bx_cell (Ext.box h9 K2.out.box) 1) rfl rfl rfl Tryz.underlying3 rfl ?_; simp only [Act.put, List.setIfInBounds_toArray, List.set_cons_zero, List.set_cons_succ]); (iterate 4 (refine Rm.wpMix_plain rfl rfl ?_; go_big_quiet_step (fail); refine wpQuiet_nil ?_)))
            refine Rm.wpMix_nil ?_
            rintro w3 hW3
            have K3 := Lib.hid (K2.out.keep (show Ext w2 w3 from hW3))
            clear hW3
            go_wp2
            go_ret
            exact ⟨ret_bool HF.out, Ao, co, [], by simpa using K3.out, HF0.out⟩
          · have HF := Lib.hid (show false = (liveB R && followB R m) by simp [gl, followB, g3])
            (refine Rm.wp_region_mix' (R := relE w2.heap.size) (fun _ _ _ => True) (fun _ _ _ _ _ hq => hq) 38 (by first | exact Nat.le_refl _ | omega | (simp; omega)) (by kernel_rfl) (by kernel_rfl) ?_; simp only [List.take_succ_cons, List.take_zero, List.drop_succ_cons, List.drop_zero])
            ((iterate 1 (refine Rm.wpMix_plain rfl rfl ?_; go_big_quiet_step (fail); refine wpQuiet_nil ?_)); (refine Rm.wpMix_load1 (fun W9' h9 => show W9'.cell? _ = some (.int .i64 m.view) from bx_cell (Ext.box h9 M2.out) 2) rfl rfl rfl Tryz.underlying3 rfl ?_; simp only [Act.put, List.setIfInBounds_toArray, List.set_cons_zero, List.set_cons_succ]); (iterate 1 (refine Rm.wpMix_plain rfl rfl ?_; go_big_quiet_step (fail); refine wpQuiet_nil ?_)); (refine Rm.wpMix_nilp rfl rfl rfl ?_; simp only [Act.put, List.setIfInBounds_toArray, List.set_cons_zero, List.set_cons_succ]); (iterate 2 (refine Rm.wpMix_plain rfl rfl ?_; go_big_quiet_step (fail); refine wpQuiet_nil ?_)); (refine Rm.wpMix_load1 (fun W9' h9 => show W9'.cell? _ = some (.int .i64 R.view) from bx_cell (Ext.box h9 K2.out.box) 3) rfl rfl rfl Tryz.underlying3 rfl ?_; simp only [Act.put, List.setIfInBounds_toArray, List.set_cons_zero, List.set_cons_succ]); (iterate 1 (refine Rm.wpMix_plain rfl rfl ?_; go_big_quiet_step (fail); refine wpQuiet_nil ?_)); (try simp only [g1, Bool.not_true, Bool.not_false]); (iterate 2 (refine Rm.wpMix_plain rfl rfl ?_; go_big_quiet_step (fail); refine wpQuiet_nil ?_)); (refine Rm.wpMix_nilp rfl rfl rfl ?_; simp only [Act.put, List.setIfInBounds_toArray, List.set_cons_zero, List.set_cons_succ]); (iterate 2 (refine Rm.wpMix_plain rfl rfl ?_; go_big_quiet_step (fail); refine wpQuiet_nil ?_)); (refine Rm.wpMix_load1 (fun W9' h9 => show W9'.cell? _ = some (.int .i64 R.mode) from bx_cell (Ext.box h9 K2.out.box) 2) rfl rfl rfl Tryz.underlying3 rfl ?_; simp only [Act.put, List.setIfInBounds_toArray, List.set_cons_zero, List.set_cons_succ]); (iterate 1 (refine Rm.wpMix_plain rfl rfl ?_; go_big_quiet_step (fail); refine wpQuiet_nil ?_)); (try simp only [g2, Bool.not_true, Bool.not_false]); (iterate 3 (refine Rm.wpMix_plain rfl rfl ?_; go_big_quiet_step (fail); refine wpQuiet_nil ?_)))
            (refine Rm.wpMix_det rfl rfl rfl (enters Tryz.func91 (by kernel_rfl) rfl) (fun W9' h9 => c_isPrimary p a A qs.length c R _ W9' (Ext.box h9 K2.out.box) HO.out h0) rfl ?_; simp only [Act.put, List.setIfInBounds_toArray, List.set_cons_zero, List.set_cons_succ])
            ((try simp only [g3, Bool.not_true, Bool.not_false]); (iterate 3 (refine Rm.wpMix_plain rfl rfl ?_; go_big_quiet_step (fail); refine wpQuiet_nil ?_)); (iterate 14 (refine Rm.wpMix_skip rfl rfl ?_; simp only [Act.put, List.setIfInBounds_toArray, List.set_cons_zero, List.set_cons_succ])); (iterate 2 (refine Rm.wpMix_plain rfl rfl ?_; go_big_quiet_step (fail); refine wpQuiet_nil ?_)))
            refine Rm.wpMix_nil ?_
            rintro w3 hW3
            have K3 := Lib.hid (K2.out.keep (show Ext w2 w3 from hW3))
            clear hW3
            go_wp2
            go_ret
            exact ⟨ret_bool HF.out, Ao, co, [], by simpa using K3.out, HF0.out⟩
    · have HF := Lib.hid (show false = (liveB R && followB R m) by
        have : (m.view == R.view) = false := by simp at g0 ⊢; omega
        simp [gl, followB, this])
      have HF0 := Lib.hid (show ([⟨m.frm, askM2 R m.view R.commit⟩] : List Ot) = followO R m by simp [followO, gl, g0])
      go_wp2
      (refine Rm.wp_region_mix' (R := relE w1.heap.size) (fun _ _ _ => True) (fun _ _ _ _ _ hq => hq) 8 (by first | exact Nat.le_refl _ | omega | (simp; omega)) (by kernel_rfl) (by kernel_rfl) ?_; simp only [List.take_succ_cons, List.take_zero, List.drop_succ_cons, List.drop_zero])
      ((iterate 1 (refine Rm.wpMix_plain rfl rfl ?_; go_big_quiet_step (fail); refine wpQuiet_nil ?_)); (refine Rm.wpMix_load1 (fun W9' h9 => show W9'.cell? _ = some (.int .i64 m.view) from bx_cell (Ext.box h9 M1.out) 2) rfl rfl rfl Tryz.underlying3 rfl ?_; simp only [Act.put, List.setIfInBounds_toArray, List.set_cons_zero, List.set_cons_succ]); (iterate 1 (refine Rm.wpMix_plain rfl rfl ?_; go_big_quiet_step (fail); refine wpQuiet_nil ?_)); (refine Rm.wpMix_nilp rfl rfl rfl ?_; simp only [Act.put, List.setIfInBounds_toArray, List.set_cons_zero, List.set_cons_succ]); (iterate 2 (refine Rm.wpMix_plain rfl rfl ?_; go_big_quiet_step (fail); refine wpQuiet_nil ?_)); (refine Rm.wpMix_load1 (fun W9' h9 => show W9'.cell? _ = some (.int .i64 R.view) from bx_cell (Ext.box h9 K1.out.box) 3) rfl rfl rfl Tryz.underlying3 rfl ?_; simp only [Act.put, List.setIfInBounds_toArray, List.set_cons_zero, List.set_cons_succ]); (iterate 1 (refine Rm.wpMix_plain rfl rfl ?_; go_big_quiet_step (fail); refine wpQuiet_nil ?_)); (try simp only [g0, Bool.not_true, Bool.not_false]))
      refine Rm.wpMix_nil ?_
      rintro w2 hW2
      have x2 : Ext w1 w2 := hW2
      have K2 := Lib.hid (K1.out.keep x2)
      have M2 := Lib.hid (x2.box M1.out)
      clear K1 M1 x2 hW2
      go_wp2
      (refine Rm.wp_region_mix' (R := relE w2.heap.size) (fun _ _ _ => True) (fun _ _ _ _ _ hq => hq) 10 (by first | exact Nat.le_refl _ | omega | (simp; omega)) (by kernel_rfl) (by kernel_rfl) ?_; simp only [List.take_succ_cons, List.take_zero, List.drop_succ_cons, List.drop_zero])
      ((iterate 2 (refine Rm.wpMix_plain rfl rfl ?_; go_big_quiet_step (fail); refine wpQuiet_nil ?_)); (refine Rm.wpMix_load1 (fun W9' h9 => show W9'.cell? _ = some (.int .i64 m.frm) from bx_cell (Ext.box h9 M2.out) 1) rfl rfl rfl Tryz.underlying3 rfl ?_; simp only [Act.put, List.setIfInBounds_toArray, List.set_cons_zero, List.set_cons_succ]); (iterate 1 (refine Rm.wpMix_plain rfl rfl ?_; go_big_quiet_step (fail); refine wpQuiet_nil ?_)); (refine Rm.wpMix_load1 (fun W9' h9 => show W9'.cell? _ = some (.int .i64 m.view) from bx_cell (Ext.box h9 M2.out) 2) rfl rfl rfl Tryz.underlying3 rfl ?_; simp only [Act.put, List.setIfInBounds_toArray, List.set_cons_zero, List.set_cons_succ]); (iterate 1 (refine Rm.wpMix_plain rfl rfl ?_; go_big_quiet_step (fail); refine wpQuiet_nil ?_)); (refine Rm.wpMix_nilp rfl rfl rfl ?_; simp only [Act.put, List.setIfInBounds_toArray, List.set_cons_zero, List.set_cons_succ]); (iterate 2 (refine Rm.wpMix_plain rfl rfl ?_; go_big_quiet_step (fail); refine wpQuiet_nil ?_)); (refine Rm.wpMix_load1 (fun W9' h9 => show W9'.cell? _ = some (.int .i64 R.commit) from bx_cell (Ext.box h9 K2.out.box) 5) rfl rfl rfl Tryz.underlying3 rfl ?_; simp only [Act.put, List.setIfInBounds_toArray, List.set_cons_zero, List.set_cons_succ]))
      refine Rm.wpMix_nil ?_
      rintro w3 hW3
      have K3 := Lib.hid (K2.out.keep (show Ext w2 w3 from hW3))
      clear K2 M2 hW3
      go_wp2_with fail
      refine (c_askState K3.out m.frm m.view R.commit hos).mono ?_
      rintro e w4 ⟨rfl, A4, c4, a4, k4⟩
      have K4 := Lib.hid k4
      clear k4
      go_wp2
      go_ret
      exact ⟨ret_bool HF.out, A4, c4, _, K4.out, HF0.out⟩
end

theorem KZ.ko {W0 w : World} {p : Nat} {a : LAd} {A : Option Addr} {c : Nat} {qs : List VtE} {R R' : Rp} {Ao : Option Addr} {co : Nat} {os : List OtE} {O : List Ot} (h : KZ W0 w p a A c qs R Ao co os) (hR : R = R') (hO : os.map Prod.snd = O) : KO W0 w p R' O := by
  subst hR
  exact ⟨a, A, c, qs, Ao, co, os, h, hO⟩
theorem followO_1 {r : Rp} {m : Mg} {os : List OtE} (h : List.map Prod.snd os = followO r m) : os.length ≤ 1 := by
  have := congrArg List.length h
  rw [List.length_map] at this
  unfold followO at this
  split at this <;> simp only [List.length_cons, List.length_nil] at this <;> omega
section
variable {W0 W : World} {p P : Nat} {r : Rp} {am : LAd} {m : Mg}
set_option maxRecDepth 100000 in
set_option maxHeartbeats 8000000 in
theorem c_commit1 (hk : KO W0 W p r []) (hP : W0.heap[P]? = some (Mg.obj am m)) (hM : LgR W0 am m.log) (hs : r.log.small) (hms : m.log.small) (hb : (rpOk r && hearB r m 4) = true) :
    Calls Tryz.prog 74 #[.pointer (some ⟨p, 0, none⟩), .pointer (some ⟨P, 0, none⟩)] W fun e w' => e = .returned (.tuple #[]) ∧ KO W0 w' p (commitR r m) (commitO r m) := by
  obtain ⟨a, A, c, qs, Ao, co, os, hk, hos⟩ := hk
  obtain rfl : os = [] := by simpa using hos
  have G := Lib.hid (rpOk_good (hear_facts hb).1)
  have hg0 := G.out.base0
  have hg1 := G.out.base1
  have hg2 := G.out.ents
  have HK := Lib.hid hk
  have HP := Lib.hid hP
  have HM := Lib.hid (hk.x.box hP)
  clear hk hP hM hos
  go_enter Tryz.func74, Tryz.ntmps74
  (go_wp2_with (with_reducible refine wl_stop 4 ?_); refine stop_load (HM.out) rfl Tryz.underlying60 (by kernel_rfl) ?_; simp only [Act.put, List.setIfInBounds_toArray, List.set_cons_zero, List.set_cons_succ])
  go_wp2_with fail
  refine (c_follows HK.out am m (by simp) G.out.of G.out.view0).mono ?_
  rintro e w1 ⟨rfl, A1, c1, os1, k1, ho1⟩
  have hl1 := followO_1 ho1
  have K1 := Lib.hid k1
  have H1 := Lib.hid ho1
  have M1 := Lib.hid (k1.x.box HP.out)
  clear k1 ho1 HK HM
  cases gf : (liveB r && followB r m)
  · have HF := Lib.hid (show r = commitR r m ∧ followO r m = commitO r m by
      constructor
      · simp [commitR, gf]
      · unfold commitO
        rw [← Bool.and_assoc, gf]; simp)
    clear gf
    go_wp2
    exact bodyPost_ret (v := .tuple #[]) (by simp [results, Tryz.results74, go_sem]) rfl ⟨rfl, K1.out.ko HF.out.1 (by rw [← HF.out.2, List.nil_append]; exact H1.out)⟩
  · have HR := Lib.hid (show r.upTo m.commit = commitR r m by simp [commitR, gf])
    cases g1 : decide (r.log.fin < m.commit)
    · have HF := Lib.hid (show followO r m = commitO r m by
        unfold commitO
        rw [← Bool.and_assoc, gf, g1]; simp)
      clear gf
      go_wp2
      (refine Rm.wp_region_mix' (R := relE w1.heap.size) (fun _ _ _ => True) (fun _ _ _ _ _ hq => hq) 9 (by first | exact Nat.le_refl _ | omega | (simp; omega)) (by kernel_rfl) (by kernel_rfl) ?_; simp only [List.take_succ_cons, List.take_zero, List.drop_succ_cons, List.drop_zero])
      ((iterate 1 (refine Rm.wpMix_plain rfl rfl ?_; go_big_quiet_step (fail); refine wpQuiet_nil ?_)); (refine Rm.wpMix_load1 (fun W9' h9 => show W9'.cell? _ = some (.int .i64 m.commit) from bx_cell (Ext.box h9 M1.out) 4) rfl rfl rfl Tryz.underlying3 rfl ?_; simp only [Act.put, List.setIfInBounds_toArray, List.set_cons_zero, List.set_cons_succ]); (iterate 1 (refine Rm.wpMix_plain rfl rfl ?_; go_big_quiet_step (fail); refine wpQuiet_nil ?_)); (refine Rm.wpMix_nilp rfl rfl rfl ?_; simp only [Act.put, List.setIfInBounds_toArray, List.set_cons_zero, List.set_cons_succ]); (iterate 2 (refine Rm.wpMix_plain rfl rfl ?_; go_big_quiet_step (fail); refine wpQuiet_nil ?_)))
      (refine Rm.wpMix_loadAgg (fun W9' h9 => kp_log K1.out.box h9) rfl rfl rfl Tryz.underlying40 (by kernel_rfl) ?_; simp only [Act.put, List.setIfInBounds_toArray, List.set_cons_zero, List.set_cons_succ])
      (refine Rm.wpMix_det rfl rfl rfl (enters Tryz.func76 (by kernel_rfl) rfl) (fun W9' h9 => c_end a r.log W9' (by omega) (by omega) (by omega)) rfl ?_; simp only [Act.put, List.setIfInBounds_toArray, List.set_cons_zero, List.set_cons_succ])
      ((iterate 1 (refine Rm.wpMix_plain rfl rfl ?_; go_big_quiet_step (fail); refine wpQuiet_nil ?_)); (try simp only [g1, Bool.not_true, Bool.not_false]))
      refine Rm.wpMix_nil ?_
      rintro w2 hW2
      have x2 : Ext w1 w2 := hW2
      have K2 := Lib.hid (K1.out.keep x2)
      have M2 := Lib.hid (x2.box M1.out)
      have d2 := bx_cell M2.out
      have z2 := bx_lt M2.out
      clear K1 M1 x2 hW2
      go_wp2_with fail
      refine (c_upTo K2.out m.commit (by omega) (by omega) (by omega)).mono ?_
      rintro e w3 ⟨rfl, k3⟩
      have K3 := Lib.hid k3
      clear k3 d2 z2
      go_wp2
      exact bodyPost_end (v := .tuple #[]) (by simp [results, Tryz.results74, go_sem]) rfl ⟨rfl, K3.out.ko HR.out (by rw [← HF.out, List.nil_append]; exact H1.out)⟩
    · have HF := Lib.hid (show followO r m ++ [⟨m.frm, askM2 r r.view r.log.fin⟩] = commitO r m by
        unfold commitO
        rw [← Bool.and_assoc, gf, g1]; simp)
      clear gf
      go_wp2
      (refine Rm.wp_region_mix' (R := relE w1.heap.size) (fun _ _ _ => True) (fun _ _ _ _ _ hq => hq) 9 (by first | exact Nat.le_refl _ | omega | (simp; omega)) (by kernel_rfl) (by kernel_rfl) ?_; simp only [List.take_succ_cons, List.take_zero, List.drop_succ_cons, List.drop_zero])
      ((iterate 1 (refine Rm.wpMix_plain rfl rfl ?_; go_big_quiet_step (fail); refine wpQuiet_nil ?_)); (refine Rm.wpMix_load1 (fun W9' h9 => show W9'.cell? _ = some (.int .i64 m.commit) from bx_cell (Ext.box h9 M1.out) 4) rfl rfl rfl Tryz.underlying3 rfl ?_; simp only [Act.put, List.setIfInBounds_toArray, List.set_cons_zero, List.set_cons_succ]); (iterate 1 (refine Rm.wpMix_plain rfl rfl ?_; go_big_quiet_step (fail); refine wpQuiet_nil ?_)); (refine Rm.wpMix_nilp rfl rfl rfl ?_; simp only [Act.put, List.setIfInBounds_toArray, List.set_cons_zero, List.set_cons_succ]); (iterate 2 (refine Rm.wpMix_plain rfl rfl ?_; go_big_quiet_step (fail); refine wpQuiet_nil ?_)))
      (refine Rm.wpMix_loadAgg (fun W9' h9 => kp_log K1.out.box h9) rfl rfl rfl Tryz.underlying40 (by kernel_rfl) ?_; simp only [Act.put, List.setIfInBounds_toArray, List.set_cons_zero, List.set_cons_succ])
      (refine Rm.wpMix_det rfl rfl rfl (enters Tryz.func76 (by kernel_rfl) rfl) (fun W9' h9 => c_end a r.log W9' (by omega) (by omega) (by omega)) rfl ?_; simp only [Act.put, List.setIfInBounds_toArray, List.set_cons_zero, List.set_cons_succ])
      ((iterate 1 (refine Rm.wpMix_plain rfl rfl ?_; go_big_quiet_step (fail); refine wpQuiet_nil ?_)); (try simp only [g1, Bool.not_true, Bool.not_false]))
      refine Rm.wpMix_nil ?_
      rintro w2 hW2
      have x2 : Ext w1 w2 := hW2
      have K2 := Lib.hid (K1.out.keep x2)
      have M2 := Lib.hid (x2.box M1.out)
      clear K1 M1 x2 hW2
      go_wp2
      (refine Rm.wp_region_mix' (R := relE w2.heap.size) (fun _ _ _ => True) (fun _ _ _ _ _ hq => hq) 14 (by first | exact Nat.le_refl _ | omega | (simp; omega)) (by kernel_rfl) (by kernel_rfl) ?_; simp only [List.take_succ_cons, List.take_zero, List.drop_succ_cons, List.drop_zero])
      ((iterate 2 (refine Rm.wpMix_plain rfl rfl ?_; go_big_quiet_step (fail); refine wpQuiet_nil ?_)); (refine Rm.wpMix_load1 (fun W9' h9 => show W9'.cell? _ = some (.int .i64 m.frm) from bx_cell (Ext.box h9 M2.out) 1) rfl rfl rfl Tryz.underlying3 rfl ?_; simp only [Act.put, List.setIfInBounds_toArray, List.set_cons_zero, List.set_cons_succ]); (iterate 1 (refine Rm.wpMix_plain rfl rfl ?_; go_big_quiet_step (fail); refine wpQuiet_nil ?_)); (refine Rm.wpMix_nilp rfl rfl rfl ?_; simp only [Act.put, List.setIfInBounds_toArray, List.set_cons_zero, List.set_cons_succ]); (iterate 2 (refine Rm.wpMix_plain rfl rfl ?_; go_big_quiet_step (fail); refine wpQuiet_nil ?_)); (refine Rm.wpMix_load1 (fun W9' h9 => show W9'.cell? _ = some (.int .i64 r.view) from bx_cell (Ext.box h9 K2.out.box) 3) rfl rfl rfl Tryz.underlying3 rfl ?_; simp only [Act.put, List.setIfInBounds_toArray, List.set_cons_zero, List.set_cons_succ]); (iterate 1 (refine Rm.wpMix_plain rfl rfl ?_; go_big_quiet_step (fail); refine wpQuiet_nil ?_)); (refine Rm.wpMix_nilp rfl rfl rfl ?_; simp only [Act.put, List.setIfInBounds_toArray, List.set_cons_zero, List.set_cons_succ]); (iterate 2 (refine Rm.wpMix_plain rfl rfl ?_; go_big_quiet_step (fail); refine wpQuiet_nil ?_)))
      (refine Rm.wpMix_loadAgg (fun W9' h9 => kp_log K2.out.box h9) rfl rfl rfl Tryz.underlying40 (by kernel_rfl) ?_; simp only [Act.put, List.setIfInBounds_toArray, List.set_cons_zero, List.set_cons_succ])
      (refine Rm.wpMix_det rfl rfl rfl (enters Tryz.func76 (by kernel_rfl) rfl) (fun W9' h9 => c_end a r.log W9' (by omega) (by omega) (by omega)) rfl ?_; simp only [Act.put, List.setIfInBounds_toArray, List.set_cons_zero, List.set_cons_succ])
      refine Rm.wpMix_nil ?_
      rintro w3 hW3
      have K3 := Lib.hid (K2.out.keep (show Ext w2 w3 from hW3))
      clear K2 M2 hW3
      go_wp2_with fail
      refine (c_askState K3.out m.frm r.view r.log.fin (by rw [List.nil_append]; omega)).mono ?_
      rintro e w4 ⟨rfl, A4, c4, a4, k4⟩
      have K4 := Lib.hid k4
      have M4 := Lib.hid (k4.x.box HP.out)
      have d4 := bx_cell M4.out
      have z4 := bx_lt M4.out
      clear k4 K3
      go_wp2_with fail
      refine (c_upTo K4.out m.commit (by omega) (by omega) (by omega)).mono ?_
      rintro e w5 ⟨rfl, k5⟩
      have K5 := Lib.hid k5
      clear k5 d4 z4 K4
      go_wp2
      exact bodyPost_end (v := .tuple #[]) (by simp [results, Tryz.results74, go_sem]) rfl ⟨rfl, K5.out.ko HR.out (by rw [← HF.out, List.nil_append, List.map_append, H1.out]; rfl)⟩
set_option maxRecDepth 100000 in
set_option maxHeartbeats 16000000 in
theorem c_start1 (hk : KO W0 W p r []) (hP : W0.heap[P]? = some (Mg.obj am m)) (hM : LgR W0 am m.log) (hs : r.log.small) (hms : m.log.small) (hb : (rpOk r && hearB r m 7) = true) :
    Calls Tryz.prog 86 #[.pointer (some ⟨p, 0, none⟩), .pointer (some ⟨P, 0, none⟩)] W fun e w' => e = .returned (.tuple #[]) ∧ KO W0 w' p (startR r m) (startO r m) := by
  obtain ⟨a, A, c, qs, Ao, co, os, hk, hos⟩ := hk
  obtain rfl : os = [] := by simpa using hos
  obtain ⟨hq1, hq2, hq3⟩ := hear_facts hb
  have G := Lib.hid (rpOk_good hq1)
  have hg0 := G.out.base0
  have hg1 := G.out.base1
  have hg2 := G.out.ents
  have HV := Lib.hid (fits_view hq2 (by rw [hq3]; decide +kernel))
  have hlog := fits_log hq2 (by rw [hq3]; decide +kernel)
  have HL := Lib.hid hlog
  obtain ⟨hl0, hl1, hl2, hl3⟩ := logOk_facts hlog.1
  have ho' : r.of ≠ 0 := by have := G.out.of; omega
  have ho2 : (r.of == 0) = false := by simpa using ho'
  have hv0 := HV.out.1
  have hrv0 := G.out.view0
  have HK := Lib.hid hk
  have HP := Lib.hid hP
  have HM := Lib.hid (hk.x.box hP)
  have HML := Lib.hid hM
  clear hk hP hM hos hq1 hq2 hq3 hlog
  go_enter Tryz.func86, Tryz.ntmps86
  go_wp2
  cases g0 : decide (r.view < m.view)
  · cases g1 : (m.view == r.view)
    · (refine Rm.wp_region_mix' (R := relE W.heap.size) (fun _ _ _ => True) (fun _ _ _ _ _ hq => hq) 27 (by first | exact Nat.le_refl _ | omega | (simp; omega)) (by kernel_rfl) (by kernel_rfl) ?_; simp only [List.take_succ_cons, List.take_zero, List.drop_succ_cons, List.drop_zero])
      ((iterate 1 (refine Rm.wpMix_plain rfl rfl ?_; go_big_quiet_step (fail); refine wpQuiet_nil ?_)); (refine Rm.wpMix_load1 (fun W9' h9 => show W9'.cell? _ = some (.int .i64 m.view) from bx_cell (Ext.box h9 HM.out) 2) rfl rfl rfl Tryz.underlying3 rfl ?_; simp only [Act.put, List.setIfInBounds_toArray, List.set_cons_zero, List.set_cons_succ]); (iterate 1 (refine Rm.wpMix_plain rfl rfl ?_; go_big_quiet_step (fail); refine wpQuiet_nil ?_)); (refine Rm.wpMix_nilp rfl rfl rfl ?_; simp only [Act.put, List.setIfInBounds_toArray, List.set_cons_zero, List.set_cons_succ]); (iterate 2 (refine Rm.wpMix_plain rfl rfl ?_; go_big_quiet_step (fail); refine wpQuiet_nil ?_)); (refine Rm.wpMix_load1 (fun W9' h9 => show W9'.cell? _ = some (.int .i64 r.view) from bx_cell (Ext.box h9 HK.out.box) 3) rfl rfl rfl Tryz.underlying3 rfl ?_; simp only [Act.put, List.setIfInBounds_toArray, List.set_cons_zero, List.set_cons_succ]); (iterate 1 (refine Rm.wpMix_plain rfl rfl ?_; go_big_quiet_step (fail); refine wpQuiet_nil ?_)); (try simp only [g0, Bool.not_true, Bool.not_false]); (iterate 2 (refine Rm.wpMix_plain rfl rfl ?_; go_big_quiet_step (fail); refine wpQuiet_nil ?_)); (refine Rm.wpMix_load1 (fun W9' h9 => show W9'.cell? _ = some (.int .i64 m.view) from bx_cell (Ext.box h9 HM.out) 2) rfl rfl rfl Tryz.underlying3 rfl ?_; simp only [Act.put, List.setIfInBounds_toArray, List.set_cons_zero, List.set_cons_succ]); (iterate 1 (refine Rm.wpMix_plain rfl rfl ?_; go_big_quiet_step (fail); refine wpQuiet_nil ?_)); (refine Rm.wpMix_nilp rfl rfl rfl ?_; simp only [Act.put, List.setIfInBounds_toArray, List.set_cons_zero, List.set_cons_succ]); (iterate 2 (refine Rm.wpMix_plain rfl rfl ?_; go_big_quiet_step (fail); refine wpQuiet_nil ?_)); (refine Rm.wpMix_load1 (fun W9' h9 => show W9'.cell? _ = some (.int .i64 r.view) from bx_cell (Ext.box h9 HK.out.box) 3) rfl rfl rfl Tryz.underlying3 rfl ?_; simp only [Act.put, List.setIfInBounds_toArray, List.set_cons_zero, List.set_cons_succ]); (iterate 1 (refine Rm.wpMix_plain rfl rfl ?_; go_big_quiet_step (fail); refine wpQuiet_nil ?_)); (try simp only [g1, Bool.not_true, Bool.not_false]); (iterate 1 (refine Rm.wpMix_plain rfl rfl ?_; go_big_quiet_step (fail); refine wpQuiet_nil ?_)); (iterate 6 (refine Rm.wpMix_skip rfl rfl ?_; simp only [Act.put, List.setIfInBounds_toArray, List.set_cons_zero, List.set_cons_succ])); (iterate 3 (refine Rm.wpMix_plain rfl rfl ?_; go_big_quiet_step (fail); refine wpQuiet_nil ?_)))
      refine Rm.wpMix_nil ?_
      rintro w1 hW
      have xw1 : Ext W w1 := hW
      have K1 := Lib.hid (HK.out.keep xw1)
      have M1 := Lib.hid (xw1.box HM.out)
      clear HK HM hW xw1
      go_wp2
      cases gl : liveB r
      · have HF := Lib.hid (show r = startR r m ∧ ([] : List Ot) = startO r m by
          have hB : startB r m = false := by
            simp only [startB, gl, Bool.true_and, Bool.false_and, Bool.and_true, Bool.and_false, Bool.true_or, Bool.false_or, Bool.or_true, Bool.or_false, Bool.not_true, Bool.not_false]
          constructor <;> simp [startR, startO, hB])
        (refine Rm.wp_region_mix' (R := relE w1.heap.size) (fun _ _ _ => True) (fun _ _ _ _ _ hq => hq) 20 (by first | exact Nat.le_refl _ | omega | (simp; omega)) (by kernel_rfl) (by kernel_rfl) ?_; simp only [List.take_succ_cons, List.take_zero, List.drop_succ_cons, List.drop_zero])
        ((iterate 1 (refine Rm.wpMix_plain rfl rfl ?_; go_big_quiet_step (fail); refine wpQuiet_nil ?_)))
        (refine Rm.wpMix_det rfl rfl rfl (enters Tryz.func87 (by kernel_rfl) rfl) (fun W9' h9 => c_awake p a A qs.length c r _ W9' (Ext.box h9 K1.out.box)) rfl ?_; simp only [Act.put, List.setIfInBounds_toArray, List.set_cons_zero, List.set_cons_succ])
        ((try simp only [gl, Bool.not_true, Bool.not_false]); (iterate 2 (refine Rm.wpMix_plain rfl rfl ?_; go_big_quiet_step (fail); refine wpQuiet_nil ?_)); (iterate 11 (refine Rm.wpMix_skip rfl rfl ?_; simp only [Act.put, List.setIfInBounds_toArray, List.set_cons_zero, List.set_cons_succ])); (iterate 2 (refine Rm.wpMix_plain rfl rfl ?_; go_big_quiet_step (fail); refine wpQuiet_nil ?_)); (iterate 2 (refine Rm.wpMix_skip rfl rfl ?_; simp only [Act.put, List.setIfInBounds_toArray, List.set_cons_zero, List.set_cons_succ])); (iterate 1 (refine Rm.wpMix_plain rfl rfl ?_; go_big_quiet_step (fail); refine wpQuiet_nil ?_)))
        refine Rm.wpMix_nil ?_
        rintro w2 hW
        have xw2 : Ext w1 w2 := hW
        have K2 := Lib.hid (K1.out.keep xw2)
        have M2 := Lib.hid (xw2.box M1.out)
        clear K1 M1 hW xw2
        go_wp2
        exact bodyPost_ret (v := .tuple #[]) (by simp [results, Tryz.results86, go_sem]) rfl ⟨rfl, K2.out.ko HF.out.1 HF.out.2⟩
      · cases g3 : (m.frm != m.view % r.of)
        · have HF := Lib.hid (show r = startR r m ∧ ([] : List Ot) = startO r m by
            have hB : startB r m = false := by
              have : (m.frm == m.view % r.of) = true := by simpa using g3
              simp only [startB, this, gl, g0, g1, Bool.true_and, Bool.false_and, Bool.and_true, Bool.and_false, Bool.true_or, Bool.false_or, Bool.or_true, Bool.or_false, Bool.not_true, Bool.not_false]
            constructor <;> simp [startR, startO, hB])
          (refine Rm.wp_region_mix' (R := relE w1.heap.size) (fun _ _ _ => True) (fun _ _ _ _ _ hq => hq) 20 (by first | exact Nat.le_refl _ | omega | (simp; omega)) (by kernel_rfl) (by kernel_rfl) ?_; simp only [List.take_succ_cons, List.take_zero, List.drop_succ_cons, List.drop_zero])
          ((iterate 1 (refine Rm.wpMix_plain rfl rfl ?_; go_big_quiet_step (fail); refine wpQuiet_nil ?_)))
          (refine Rm.wpMix_det rfl rfl rfl (enters Tryz.func87 (by kernel_rfl) rfl) (fun W9' h9 => c_awake p a A qs.length c r _ W9' (Ext.box h9 K1.out.box)) rfl ?_; simp only [Act.put, List.setIfInBounds_toArray, List.set_cons_zero, List.set_cons_succ])
          ((try simp only [gl, Bool.not_true, Bool.not_false]); (iterate 3 (refine Rm.wpMix_plain rfl rfl ?_; go_big_quiet_step (fail); refine wpQuiet_nil ?_)); (refine Rm.wpMix_load1 (fun W9' h9 => show W9'.cell? _ = some (.int .i64 m.frm) from bx_cell (Ext.box h9 M1.out) 1) rfl rfl rfl Tryz.underlying3 rfl ?_; simp only [Act.put, List.setIfInBounds_toArray, List.set_cons_zero, List.set_cons_succ]); (iterate 1 (refine Rm.wpMix_plain rfl rfl ?_; go_big_quiet_step (fail); refine wpQuiet_nil ?_)); (refine Rm.wpMix_load1 (fun W9' h9 => show W9'.cell? _ = some (.int .i64 m.view) from bx_cell (Ext.box h9 M1.out) 2) rfl rfl rfl Tryz.underlying3 rfl ?_; simp only [Act.put, List.setIfInBounds_toArray, List.set_cons_zero, List.set_cons_succ]); (iterate 1 (refine Rm.wpMix_plain rfl rfl ?_; go_big_quiet_step (fail); refine wpQuiet_nil ?_)); (refine Rm.wpMix_nilp rfl rfl rfl ?_; simp only [Act.put, List.setIfInBounds_toArray, List.set_cons_zero, List.set_cons_succ]); (iterate 2 (refine Rm.wpMix_plain rfl rfl ?_; go_big_quiet_step (fail); refine wpQuiet_nil ?_)); (refine Rm.wpMix_load1 (fun W9' h9 => show W9'.cell? _ = some (.int .i64 r.of) from bx_cell (Ext.box h9 K1.out.box) 1) rfl rfl rfl Tryz.underlying3 rfl ?_; simp only [Act.put, List.setIfInBounds_toArray, List.set_cons_zero, List.set_cons_succ]); (iterate 2 (refine Rm.wpMix_plain rfl rfl ?_; go_big_quiet_step (fail); refine wpQuiet_nil ?_)); (try simp only [g3, Bool.not_true, Bool.not_false]); (iterate 2 (refine Rm.wpMix_plain rfl rfl ?_; go_big_quiet_step (fail); refine wpQuiet_nil ?_)))
          ((iterate 3 (refine Rm.wpMix_plain rfl rfl ?_; go_big_quiet_step (fail); refine wpQuiet_nil ?_)))
          refine Rm.wpMix_nil ?_
          rintro w2 hW
          have xw2 : Ext w1 w2 := hW
          have K2 := Lib.hid (K1.out.keep xw2)
          have M2 := Lib.hid (xw2.box M1.out)
          clear K1 M1 hW xw2
          go_wp2
          exact bodyPost_ret (v := .tuple #[]) (by simp [results, Tryz.results86, go_sem]) rfl ⟨rfl, K2.out.ko HF.out.1 HF.out.2⟩
        · have HF := Lib.hid (show r = startR r m ∧ ([] : List Ot) = startO r m by
            have hB : startB r m = false := by
              have : (m.frm == m.view % r.of) = false := by simpa using g3
              simp only [startB, this, Bool.true_and, Bool.false_and, Bool.and_true, Bool.and_false, Bool.true_or, Bool.false_or, Bool.or_true, Bool.or_false, Bool.not_true, Bool.not_false]
            constructor <;> simp [startR, startO, hB])
          (refine Rm.wp_region_mix' (R := relE w1.heap.size) (fun _ _ _ => True) (fun _ _ _ _ _ hq => hq) 20 (by first | exact Nat.le_refl _ | omega | (simp; omega)) (by kernel_rfl) (by kernel_rfl) ?_; simp only [List.take_succ_cons, List.take_zero, List.drop_succ_cons, List.drop_zero])
          ((iterate 1 (refine Rm.wpMix_plain rfl rfl ?_; go_big_quiet_step (fail); refine wpQuiet_nil ?_)))
          (refine Rm.wpMix_det rfl rfl rfl (enters Tryz.func87 (by kernel_rfl) rfl) (fun W9' h9 => c_awake p a A qs.length c r _ W9' (Ext.box h9 K1.out.box)) rfl ?_; simp only [Act.put, List.setIfInBounds_toArray, List.set_cons_zero, List.set_cons_succ])
          ((try simp only [gl, Bool.not_true, Bool.not_false]); (iterate 3 (refine Rm.wpMix_plain rfl rfl ?_; go_big_quiet_step (fail); refine wpQuiet_nil ?_)); (refine Rm.wpMix_load1 (fun W9' h9 => show W9'.cell? _ = some (.int .i64 m.frm) from bx_cell (Ext.box h9 M1.out) 1) rfl rfl rfl Tryz.underlying3 rfl ?_; simp only [Act.put, List.setIfInBounds_toArray, List.set_cons_zero, List.set_cons_succ]); (iterate 1 (refine Rm.wpMix_plain rfl rfl ?_; go_big_quiet_step (fail); refine wpQuiet_nil ?_)); (refine Rm.wpMix_load1 (fun W9' h9 => show W9'.cell? _ = some (.int .i64 m.view) from bx_cell (Ext.box h9 M1.out) 2) rfl rfl rfl Tryz.underlying3 rfl ?_; simp only [Act.put, List.setIfInBounds_toArray, List.set_cons_zero, List.set_cons_succ]); (iterate 1 (refine Rm.wpMix_plain rfl rfl ?_; go_big_quiet_step (fail); refine wpQuiet_nil ?_)); (refine Rm.wpMix_nilp rfl rfl rfl ?_; simp only [Act.put, List.setIfInBounds_toArray, List.set_cons_zero, List.set_cons_succ]); (iterate 2 (refine Rm.wpMix_plain rfl rfl ?_; go_big_quiet_step (fail); refine wpQuiet_nil ?_)); (refine Rm.wpMix_load1 (fun W9' h9 => show W9'.cell? _ = some (.int .i64 r.of) from bx_cell (Ext.box h9 K1.out.box) 1) rfl rfl rfl Tryz.underlying3 rfl ?_; simp only [Act.put, List.setIfInBounds_toArray, List.set_cons_zero, List.set_cons_succ]); (iterate 2 (refine Rm.wpMix_plain rfl rfl ?_; go_big_quiet_step (fail); refine wpQuiet_nil ?_)); (try simp only [g3, Bool.not_true, Bool.not_false]); (iterate 2 (refine Rm.wpMix_plain rfl rfl ?_; go_big_quiet_step (fail); refine wpQuiet_nil ?_)))
          ((iterate 2 (refine Rm.wpMix_skip rfl rfl ?_; simp only [Act.put, List.setIfInBounds_toArray, List.set_cons_zero, List.set_cons_succ])); (iterate 1 (refine Rm.wpMix_plain rfl rfl ?_; go_big_quiet_step (fail); refine wpQuiet_nil ?_)))
          refine Rm.wpMix_nil ?_
          rintro w2 hW
          have xw2 : Ext w1 w2 := hW
          have K2 := Lib.hid (K1.out.keep xw2)
          have M2 := Lib.hid (xw2.box M1.out)
          clear K1 M1 hW xw2
          go_wp2
          exact bodyPost_ret (v := .tuple #[]) (by simp [results, Tryz.results86, go_sem]) rfl ⟨rfl, K2.out.ko HF.out.1 HF.out.2⟩
    · cases g2 : (r.mode == 2)
      · (refine Rm.wp_region_mix' (R := relE W.heap.size) (fun _ _ _ => True) (fun _ _ _ _ _ hq => hq) 27 (by first | exact Nat.le_refl _ | omega | (simp; omega)) (by kernel_rfl) (by kernel_rfl) ?_; simp only [List.take_succ_cons, List.take_zero, List.drop_succ_cons, List.drop_zero])
        ((iterate 1 (refine Rm.wpMix_plain rfl rfl ?_; go_big_quiet_step (fail); refine wpQuiet_nil ?_)); (refine Rm.wpMix_load1 (fun W9' h9 => show W9'.cell? _ = some (.int .i64 m.view) from bx_cell (Ext.box h9 HM.out) 2) rfl rfl rfl Tryz.underlying3 rfl ?_; simp only [Act.put, List.setIfInBounds_toArray, List.set_cons_zero, List.set_cons_succ]); (iterate 1 (refine Rm.wpMix_plain rfl rfl ?_; go_big_quiet_step (fail); refine wpQuiet_nil ?_)); (refine Rm.wpMix_nilp rfl rfl rfl ?_; simp only [Act.put, List.setIfInBounds_toArray, List.set_cons_zero, List.set_cons_succ]); (iterate 2 (refine Rm.wpMix_plain rfl rfl ?_; go_big_quiet_step (fail); refine wpQuiet_nil ?_)); (refine Rm.wpMix_load1 (fun W9' h9 => show W9'.cell? _ = some (.int .i64 r.view) from bx_cell (Ext.box h9 HK.out.box) 3) rfl rfl rfl Tryz.underlying3 rfl ?_; simp only [Act.put, List.setIfInBounds_toArray, List.set_cons_zero, List.set_cons_succ]); (iterate 1 (refine Rm.wpMix_plain rfl rfl ?_; go_big_quiet_step (fail); refine wpQuiet_nil ?_)); (try simp only [g0, Bool.not_true, Bool.not_false]); (iterate 2 (refine Rm.wpMix_plain rfl rfl ?_; go_big_quiet_step (fail); refine wpQuiet_nil ?_)); (refine Rm.wpMix_load1 (fun W9' h9 => show W9'.cell? _ = some (.int .i64 m.view) from bx_cell (Ext.box h9 HM.out) 2) rfl rfl rfl Tryz.underlying3 rfl ?_; simp only [Act.put, List.setIfInBounds_toArray, List.set_cons_zero, List.set_cons_succ]); (iterate 1 (refine Rm.wpMix_plain rfl rfl ?_; go_big_quiet_step (fail); refine wpQuiet_nil ?_)); (refine Rm.wpMix_nilp rfl rfl rfl ?_; simp only [Act.put, List.setIfInBounds_toArray, List.set_cons_zero, List.set_cons_succ]); (iterate 2 (refine Rm.wpMix_plain rfl rfl ?_; go_big_quiet_step (fail); refine wpQuiet_nil ?_)); (refine Rm.wpMix_load1 (fun W9' h9 => show W9'.cell? _ = some (.int .i64 r.view) from bx_cell (Ext.box h9 HK.out.box) 3) rfl rfl rfl Tryz.underlying3 rfl ?_; simp only [Act.put, List.setIfInBounds_toArray, List.set_cons_zero, List.set_cons_succ]); (iterate 1 (refine Rm.wpMix_plain rfl rfl ?_; go_big_quiet_step (fail); refine wpQuiet_nil ?_)); (try simp only [g1, Bool.not_true, Bool.not_false]); (iterate 2 (refine Rm.wpMix_plain rfl rfl ?_; go_big_quiet_step (fail); refine wpQuiet_nil ?_)); (refine Rm.wpMix_nilp rfl rfl rfl ?_; simp only [Act.put, List.setIfInBounds_toArray, List.set_cons_zero, List.set_cons_succ]); (iterate 2 (refine Rm.wpMix_plain rfl rfl ?_; go_big_quiet_step (fail); refine wpQuiet_nil ?_)); (refine Rm.wpMix_load1 (fun W9' h9 => show W9'.cell? _ = some (.int .i64 r.mode) from bx_cell (Ext.box h9 HK.out.box) 2) rfl rfl rfl Tryz.underlying3 rfl ?_; simp only [Act.put, List.setIfInBounds_toArray, List.set_cons_zero, List.set_cons_succ]); (iterate 1 (refine Rm.wpMix_plain rfl rfl ?_; go_big_quiet_step (fail); refine wpQuiet_nil ?_)); (try simp only [g2, Bool.not_true, Bool.not_false]); (iterate 3 (refine Rm.wpMix_plain rfl rfl ?_; go_big_quiet_step (fail); refine wpQuiet_nil ?_)))
        refine Rm.wpMix_nil ?_
        rintro w1 hW
        have xw1 : Ext W w1 := hW
        have K1 := Lib.hid (HK.out.keep xw1)
        have M1 := Lib.hid (xw1.box HM.out)
        clear HK HM hW xw1
        go_wp2
        cases gl : liveB r
        · have HF := Lib.hid (show r = startR r m ∧ ([] : List Ot) = startO r m by
            have hB : startB r m = false := by
              simp only [startB, gl, Bool.true_and, Bool.false_and, Bool.and_true, Bool.and_false, Bool.true_or, Bool.false_or, Bool.or_true, Bool.or_false, Bool.not_true, Bool.not_false]
            constructor <;> simp [startR, startO, hB])
          (refine Rm.wp_region_mix' (R := relE w1.heap.size) (fun _ _ _ => True) (fun _ _ _ _ _ hq => hq) 20 (by first | exact Nat.le_refl _ | omega | (simp; omega)) (by kernel_rfl) (by kernel_rfl) ?_; simp only [List.take_succ_cons, List.take_zero, List.drop_succ_cons, List.drop_zero])
          ((iterate 1 (refine Rm.wpMix_plain rfl rfl ?_; go_big_quiet_step (fail); refine wpQuiet_nil ?_)))
          (refine Rm.wpMix_det rfl rfl rfl (enters Tryz.func87 (by kernel_rfl) rfl) (fun W9' h9 => c_awake p a A qs.length c r _ W9' (Ext.box h9 K1.out.box)) rfl ?_; simp only [Act.put, List.setIfInBounds_toArray, List.set_cons_zero, List.set_cons_succ])
          ((try simp only [gl, Bool.not_true, Bool.not_false]); (iterate 2 (refine Rm.wpMix_plain rfl rfl ?_; go_big_quiet_step (fail); refine wpQuiet_nil ?_)); (iterate 11 (refine Rm.wpMix_skip rfl rfl ?_; simp only [Act.put, List.setIfInBounds_toArray, List.set_cons_zero, List.set_cons_succ])); (iterate 2 (refine Rm.wpMix_plain rfl rfl ?_; go_big_quiet_step (fail); refine wpQuiet_nil ?_)); (iterate 2 (refine Rm.wpMix_skip rfl rfl ?_; simp only [Act.put, List.setIfInBounds_toArray, List.set_cons_zero, List.set_cons_succ])); (iterate 1 (refine Rm.wpMix_plain rfl rfl ?_; go_big_quiet_step (fail); refine wpQuiet_nil ?_)))
          refine Rm.wpMix_nil ?_
          rintro w2 hW
          have xw2 : Ext w1 w2 := hW
          have K2 := Lib.hid (K1.out.keep xw2)
          have M2 := Lib.hid (xw2.box M1.out)
          clear K1 M1 hW xw2
          go_wp2
          exact bodyPost_ret (v := .tuple #[]) (by simp [results, Tryz.results86, go_sem]) rfl ⟨rfl, K2.out.ko HF.out.1 HF.out.2⟩
        · cases g3 : (m.frm != m.view % r.of)
          · have HF := Lib.hid (show r = startR r m ∧ ([] : List Ot) = startO r m by
              have hB : startB r m = false := by
                have : (m.frm == m.view % r.of) = true := by simpa using g3
                simp only [startB, this, gl, g0, g1, g2, Bool.true_and, Bool.false_and, Bool.and_true, Bool.and_false, Bool.true_or, Bool.false_or, Bool.or_true, Bool.or_false, Bool.not_true, Bool.not_false]
              constructor <;> simp [startR, startO, hB])
            (refine Rm.wp_region_mix' (R := relE w1.heap.size) (fun _ _ _ => True) (fun _ _ _ _ _ hq => hq) 20 (by first | exact Nat.le_refl _ | omega | (simp; omega)) (by kernel_rfl) (by kernel_rfl) ?_; simp only [List.take_succ_cons, List.take_zero, List.drop_succ_cons, List.drop_zero])
            ((iterate 1 (refine Rm.wpMix_plain rfl rfl ?_; go_big_quiet_step (fail); refine wpQuiet_nil ?_)))
            (refine Rm.wpMix_det rfl rfl rfl (enters Tryz.func87 (by kernel_rfl) rfl) (fun W9' h9 => c_awake p a A qs.length c r _ W9' (Ext.box h9 K1.out.box)) rfl ?_; simp only [Act.put, List.setIfInBounds_toArray, List.set_cons_zero, List.set_cons_succ])
            ((try simp only [gl, Bool.not_true, Bool.not_false]); (iterate 3 (refine Rm.wpMix_plain rfl rfl ?_; go_big_quiet_step (fail); refine wpQuiet_nil ?_)); (refine Rm.wpMix_load1 (fun W9' h9 => show W9'.cell? _ = some (.int .i64 m.frm) from bx_cell (Ext.box h9 M1.out) 1) rfl rfl rfl Tryz.underlying3 rfl ?_; simp only [Act.put, List.setIfInBounds_toArray, List.set_cons_zero, List.set_cons_succ]); (iterate 1 (refine Rm.wpMix_plain rfl rfl ?_; go_big_quiet_step (fail); refine wpQuiet_nil ?_)); (refine Rm.wpMix_load1 (fun W9' h9 => show W9'.cell? _ = some (.int .i64 m.view) from bx_cell (Ext.box h9 M1.out) 2) rfl rfl rfl Tryz.underlying3 rfl ?_; simp only [Act.put, List.setIfInBounds_toArray, List.set_cons_zero, List.set_cons_succ]); (iterate 1 (refine Rm.wpMix_plain rfl rfl ?_; go_big_quiet_step (fail); refine wpQuiet_nil ?_)); (refine Rm.wpMix_nilp rfl rfl rfl ?_; simp only [Act.put, List.setIfInBounds_toArray, List.set_cons_zero, List.set_cons_succ]); (iterate 2 (refine Rm.wpMix_plain rfl rfl ?_; go_big_quiet_step (fail); refine wpQuiet_nil ?_)); (refine Rm.wpMix_load1 (fun W9' h9 => show W9'.cell? _ = some (.int .i64 r.of) from bx_cell (Ext.box h9 K1.out.box) 1) rfl rfl rfl Tryz.underlying3 rfl ?_; simp only [Act.put, List.setIfInBounds_toArray, List.set_cons_zero, List.set_cons_succ]); (iterate 2 (refine Rm.wpMix_plain rfl rfl ?_; go_big_quiet_step (fail); refine wpQuiet_nil ?_)); (try simp only [g3, Bool.not_true, Bool.not_false]); (iterate 2 (refine Rm.wpMix_plain rfl rfl ?_; go_big_quiet_step (fail); refine wpQuiet_nil ?_)))
            ((iterate 3 (refine Rm.wpMix_plain rfl rfl ?_; go_big_quiet_step (fail); refine wpQuiet_nil ?_)))
            refine Rm.wpMix_nil ?_
            rintro w2 hW
            have xw2 : Ext w1 w2 := hW
            have K2 := Lib.hid (K1.out.keep xw2)
            have M2 := Lib.hid (xw2.box M1.out)
            clear K1 M1 hW xw2
            go_wp2
            exact bodyPost_ret (v := .tuple #[]) (by simp [results, Tryz.results86, go_sem]) rfl ⟨rfl, K2.out.ko HF.out.1 HF.out.2⟩
          · have HF := Lib.hid (show r = startR r m ∧ ([] : List Ot) = startO r m by
              have hB : startB r m = false := by
                have : (m.frm == m.view % r.of) = false := by simpa using g3
                simp only [startB, this, Bool.true_and, Bool.false_and, Bool.and_true, Bool.and_false, Bool.true_or, Bool.false_or, Bool.or_true, Bool.or_false, Bool.not_true, Bool.not_false]
              constructor <;> simp [startR, startO, hB])
            (refine Rm.wp_region_mix' (R := relE w1.heap.size) (fun _ _ _ => True) (fun _ _ _ _ _ hq => hq) 20 (by first | exact Nat.le_refl _ | omega | (simp; omega)) (by kernel_rfl) (by kernel_rfl) ?_; simp only [List.take_succ_cons, List.take_zero, List.drop_succ_cons, List.drop_zero])
            ((iterate 1 (refine Rm.wpMix_plain rfl rfl ?_; go_big_quiet_step (fail); refine wpQuiet_nil ?_)))
            (refine Rm.wpMix_det rfl rfl rfl (enters Tryz.func87 (by kernel_rfl) rfl) (fun W9' h9 => c_awake p a A qs.length c r _ W9' (Ext.box h9 K1.out.box)) rfl ?_; simp only [Act.put, List.setIfInBounds_toArray, List.set_cons_zero, List.set_cons_succ])
            ((try simp only [gl, Bool.not_true, Bool.not_false]); (iterate 3 (refine Rm.wpMix_plain rfl rfl ?_; go_big_quiet_step (fail); refine wpQuiet_nil ?_)); (refine Rm.wpMix_load1 (fun W9' h9 => show W9'.cell? _ = some (.int .i64 m.frm) from bx_cell (Ext.box h9 M1.out) 1) rfl rfl rfl Tryz.underlying3 rfl ?_; simp only [Act.put, List.setIfInBounds_toArray, List.set_cons_zero, List.set_cons_succ]); (iterate 1 (refine Rm.wpMix_plain rfl rfl ?_; go_big_quiet_step (fail); refine wpQuiet_nil ?_)); (refine Rm.wpMix_load1 (fun W9' h9 => show W9'.cell? _ = some (.int .i64 m.view) from bx_cell (Ext.box h9 M1.out) 2) rfl rfl rfl Tryz.underlying3 rfl ?_; simp only [Act.put, List.setIfInBounds_toArray, List.set_cons_zero, List.set_cons_succ]); (iterate 1 (refine Rm.wpMix_plain rfl rfl ?_; go_big_quiet_step (fail); refine wpQuiet_nil ?_)); (refine Rm.wpMix_nilp rfl rfl rfl ?_; simp only [Act.put, List.setIfInBounds_toArray, List.set_cons_zero, List.set_cons_succ]); (iterate 2 (refine Rm.wpMix_plain rfl rfl ?_; go_big_quiet_step (fail); refine wpQuiet_nil ?_)); (refine Rm.wpMix_load1 (fun W9' h9 => show W9'.cell? _ = some (.int .i64 r.of) from bx_cell (Ext.box h9 K1.out.box) 1) rfl rfl rfl Tryz.underlying3 rfl ?_; simp only [Act.put, List.setIfInBounds_toArray, List.set_cons_zero, List.set_cons_succ]); (iterate 2 (refine Rm.wpMix_plain rfl rfl ?_; go_big_quiet_step (fail); refine wpQuiet_nil ?_)); (try simp only [g3, Bool.not_true, Bool.not_false]); (iterate 2 (refine Rm.wpMix_plain rfl rfl ?_; go_big_quiet_step (fail); refine wpQuiet_nil ?_)))
            ((iterate 2 (refine Rm.wpMix_skip rfl rfl ?_; simp only [Act.put, List.setIfInBounds_toArray, List.set_cons_zero, List.set_cons_succ])); (iterate 1 (refine Rm.wpMix_plain rfl rfl ?_; go_big_quiet_step (fail); refine wpQuiet_nil ?_)))
            refine Rm.wpMix_nil ?_
            rintro w2 hW
            have xw2 : Ext w1 w2 := hW
            have K2 := Lib.hid (K1.out.keep xw2)
            have M2 := Lib.hid (xw2.box M1.out)
            clear K1 M1 hW xw2
            go_wp2
            exact bodyPost_ret (v := .tuple #[]) (by simp [results, Tryz.results86, go_sem]) rfl ⟨rfl, K2.out.ko HF.out.1 HF.out.2⟩
      · (refine Rm.wp_region_mix' (R := relE W.heap.size) (fun _ _ _ => True) (fun _ _ _ _ _ hq => hq) 27 (by first | exact Nat.le_refl _ | omega | (simp; omega)) (by kernel_rfl) (by kernel_rfl) ?_; simp only [List.take_succ_cons, List.take_zero, List.drop_succ_cons, List.drop_zero])
        ((iterate 1 (refine Rm.wpMix_plain rfl rfl ?_; go_big_quiet_step (fail); refine wpQuiet_nil ?_)); (refine Rm.wpMix_load1 (fun W9' h9 => show W9'.cell? _ = some (.int .i64 m.view) from bx_cell (Ext.box h9 HM.out) 2) rfl rfl rfl Tryz.underlying3 rfl ?_; simp only [Act.put, List.setIfInBounds_toArray, List.set_cons_zero, List.set_cons_succ]); (iterate 1 (refine Rm.wpMix_plain rfl rfl ?_; go_big_quiet_step (fail); refine wpQuiet_nil ?_)); (refine Rm.wpMix_nilp rfl rfl rfl ?_; simp only [Act.put, List.setIfInBounds_toArray, List.set_cons_zero, List.set_cons_succ]); (iterate 2 (refine Rm.wpMix_plain rfl rfl ?_; go_big_quiet_step (fail); refine wpQuiet_nil ?_)); (refine Rm.wpMix_load1 (fun W9' h9 => show W9'.cell? _ = some (.int .i64 r.view) from bx_cell (Ext.box h9 HK.out.box) 3) rfl rfl rfl Tryz.underlying3 rfl ?_; simp only [Act.put, List.setIfInBounds_toArray, List.set_cons_zero, List.set_cons_succ]); (iterate 1 (refine Rm.wpMix_plain rfl rfl ?_; go_big_quiet_step (fail); refine wpQuiet_nil ?_)); (try simp only [g0, Bool.not_true, Bool.not_false]); (iterate 2 (refine Rm.wpMix_plain rfl rfl ?_; go_big_quiet_step (fail); refine wpQuiet_nil ?_)); (refine Rm.wpMix_load1 (fun W9' h9 => show W9'.cell? _ = some (.int .i64 m.view) from bx_cell (Ext.box h9 HM.out) 2) rfl rfl rfl Tryz.underlying3 rfl ?_; simp only [Act.put, List.setIfInBounds_toArray, List.set_cons_zero, List.set_cons_succ]); (iterate 1 (refine Rm.wpMix_plain rfl rfl ?_; go_big_quiet_step (fail); refine wpQuiet_nil ?_)); (refine Rm.wpMix_nilp rfl rfl rfl ?_; simp only [Act.put, List.setIfInBounds_toArray, List.set_cons_zero, List.set_cons_succ]); (iterate 2 (refine Rm.wpMix_plain rfl rfl ?_; go_big_quiet_step (fail); refine wpQuiet_nil ?_)); (refine Rm.wpMix_load1 (fun W9' h9 => show W9'.cell? _ = some (.int .i64 r.view) from bx_cell (Ext.box h9 HK.out.box) 3) rfl rfl rfl Tryz.underlying3 rfl ?_; simp only [Act.put, List.setIfInBounds_toArray, List.set_cons_zero, List.set_cons_succ]); (iterate 1 (refine Rm.wpMix_plain rfl rfl ?_; go_big_quiet_step (fail); refine wpQuiet_nil ?_)); (try simp only [g1, Bool.not_true, Bool.not_false]); (iterate 2 (refine Rm.wpMix_plain rfl rfl ?_; go_big_quiet_step (fail); refine wpQuiet_nil ?_)); (refine Rm.wpMix_nilp rfl rfl rfl ?_; simp only [Act.put, List.setIfInBounds_toArray, List.set_cons_zero, List.set_cons_succ]); (iterate 2 (refine Rm.wpMix_plain rfl rfl ?_; go_big_quiet_step (fail); refine wpQuiet_nil ?_)); (refine Rm.wpMix_load1 (fun W9' h9 => show W9'.cell? _ = some (.int .i64 r.mode) from bx_cell (Ext.box h9 HK.out.box) 2) rfl rfl rfl Tryz.underlying3 rfl ?_; simp only [Act.put, List.setIfInBounds_toArray, List.set_cons_zero, List.set_cons_succ]); (iterate 1 (refine Rm.wpMix_plain rfl rfl ?_; go_big_quiet_step (fail); refine wpQuiet_nil ?_)); (try simp only [g2, Bool.not_true, Bool.not_false]); (iterate 3 (refine Rm.wpMix_plain rfl rfl ?_; go_big_quiet_step (fail); refine wpQuiet_nil ?_)))
        refine Rm.wpMix_nil ?_
        rintro w1 hW
        have xw1 : Ext W w1 := hW
        have K1 := Lib.hid (HK.out.keep xw1)
        have M1 := Lib.hid (xw1.box HM.out)
        clear HK HM hW xw1
        go_wp2
        cases gl : liveB r
        · have HF := Lib.hid (show r = startR r m ∧ ([] : List Ot) = startO r m by
            have hB : startB r m = false := by
              simp only [startB, gl, Bool.true_and, Bool.false_and, Bool.and_true, Bool.and_false, Bool.true_or, Bool.false_or, Bool.or_true, Bool.or_false, Bool.not_true, Bool.not_false]
            constructor <;> simp [startR, startO, hB])
          (refine Rm.wp_region_mix' (R := relE w1.heap.size) (fun _ _ _ => True) (fun _ _ _ _ _ hq => hq) 20 (by first | exact Nat.le_refl _ | omega | (simp; omega)) (by kernel_rfl) (by kernel_rfl) ?_; simp only [List.take_succ_cons, List.take_zero, List.drop_succ_cons, List.drop_zero])
          ((iterate 1 (refine Rm.wpMix_plain rfl rfl ?_; go_big_quiet_step (fail); refine wpQuiet_nil ?_)))
          (refine Rm.wpMix_det rfl rfl rfl (enters Tryz.func87 (by kernel_rfl) rfl) (fun W9' h9 => c_awake p a A qs.length c r _ W9' (Ext.box h9 K1.out.box)) rfl ?_; simp only [Act.put, List.setIfInBounds_toArray, List.set_cons_zero, List.set_cons_succ])
          ((try simp only [gl, Bool.not_true, Bool.not_false]); (iterate 2 (refine Rm.wpMix_plain rfl rfl ?_; go_big_quiet_step (fail); refine wpQuiet_nil ?_)); (iterate 11 (refine Rm.wpMix_skip rfl rfl ?_; simp only [Act.put, List.setIfInBounds_toArray, List.set_cons_zero, List.set_cons_succ])); (iterate 2 (refine Rm.wpMix_plain rfl rfl ?_; go_big_quiet_step (fail); refine wpQuiet_nil ?_)); (iterate 2 (refine Rm.wpMix_skip rfl rfl ?_; simp only [Act.put, List.setIfInBounds_toArray, List.set_cons_zero, List.set_cons_succ])); (iterate 1 (refine Rm.wpMix_plain rfl rfl ?_; go_big_quiet_step (fail); refine wpQuiet_nil ?_)))
          refine Rm.wpMix_nil ?_
          rintro w2 hW
          have xw2 : Ext w1 w2 := hW
          have K2 := Lib.hid (K1.out.keep xw2)
          have M2 := Lib.hid (xw2.box M1.out)
          clear K1 M1 hW xw2
          go_wp2
          exact bodyPost_ret (v := .tuple #[]) (by simp [results, Tryz.results86, go_sem]) rfl ⟨rfl, K2.out.ko HF.out.1 HF.out.2⟩
        · cases g3 : (m.frm != m.view % r.of)
          · have HF := Lib.hid (show r.lead m.view m.log (max m.commit r.commit) = startR r m ∧ ([⟨m.frm, okM (r.lead m.view m.log (max m.commit r.commit))⟩] : List Ot) = startO r m by
              have hB : startB r m = true := by
                have : (m.frm == m.view % r.of) = true := by simpa using g3
                simp only [startB, this, gl, g0, g1, g2, Bool.true_and, Bool.false_and, Bool.and_true, Bool.and_false, Bool.true_or, Bool.false_or, Bool.or_true, Bool.or_false, Bool.not_true, Bool.not_false]
              constructor <;> simp [startR, startO, hB])
            (refine Rm.wp_region_mix' (R := relE w1.heap.size) (fun _ _ _ => True) (fun _ _ _ _ _ hq => hq) 20 (by first | exact Nat.le_refl _ | omega | (simp; omega)) (by kernel_rfl) (by kernel_rfl) ?_; simp only [List.take_succ_cons, List.take_zero, List.drop_succ_cons, List.drop_zero])
            ((iterate 1 (refine Rm.wpMix_plain rfl rfl ?_; go_big_quiet_step (fail); refine wpQuiet_nil ?_)))
            (refine Rm.wpMix_det rfl rfl rfl (enters Tryz.func87 (by kernel_rfl) rfl) (fun W9' h9 => c_awake p a A qs.length c r _ W9' (Ext.box h9 K1.out.box)) rfl ?_; simp only [Act.put, List.setIfInBounds_toArray, List.set_cons_zero, List.set_cons_succ])
            ((try simp only [gl, Bool.not_true, Bool.not_false]); (iterate 3 (refine Rm.wpMix_plain rfl rfl ?_; go_big_quiet_step (fail); refine wpQuiet_nil ?_)); (refine Rm.wpMix_load1 (fun W9' h9 => show W9'.cell? _ = some (.int .i64 m.frm) from bx_cell (Ext.box h9 M1.out) 1) rfl rfl rfl Tryz.underlying3 rfl ?_; simp only [Act.put, List.setIfInBounds_toArray, List.set_cons_zero, List.set_cons_succ]); (iterate 1 (refine Rm.wpMix_plain rfl rfl ?_; go_big_quiet_step (fail); refine wpQuiet_nil ?_)); (refine Rm.wpMix_load1 (fun W9' h9 => show W9'.cell? _ = some (.int .i64 m.view) from bx_cell (Ext.box h9 M1.out) 2) rfl rfl rfl Tryz.underlying3 rfl ?_; simp only [Act.put, List.setIfInBounds_toArray, List.set_cons_zero, List.set_cons_succ]); (iterate 1 (refine Rm.wpMix_plain rfl rfl ?_; go_big_quiet_step (fail); refine wpQuiet_nil ?_)); (refine Rm.wpMix_nilp rfl rfl rfl ?_; simp only [Act.put, List.setIfInBounds_toArray, List.set_cons_zero, List.set_cons_succ]); (iterate 2 (refine Rm.wpMix_plain rfl rfl ?_; go_big_quiet_step (fail); refine wpQuiet_nil ?_)); (refine Rm.wpMix_load1 (fun W9' h9 => show W9'.cell? _ = some (.int .i64 r.of) from bx_cell (Ext.box h9 K1.out.box) 1) rfl rfl rfl Tryz.underlying3 rfl ?_; simp only [Act.put, List.setIfInBounds_toArray, List.set_cons_zero, List.set_cons_succ]); (iterate 2 (refine Rm.wpMix_plain rfl rfl ?_; go_big_quiet_step (fail); refine wpQuiet_nil ?_)); (try simp only [g3, Bool.not_true, Bool.not_false]); (iterate 2 (refine Rm.wpMix_plain rfl rfl ?_; go_big_quiet_step (fail); refine wpQuiet_nil ?_)))
            ((iterate 3 (refine Rm.wpMix_plain rfl rfl ?_; go_big_quiet_step (fail); refine wpQuiet_nil ?_)))
            refine Rm.wpMix_nil ?_
            rintro w2 hW
            have xw2 : Ext w1 w2 := hW
            have K2 := Lib.hid (K1.out.keep xw2)
            have M2 := Lib.hid (xw2.box M1.out)
            clear K1 M1 hW xw2
            go_wp2
            (refine Rm.wp_region_mix' (R := relE w2.heap.size) (fun _ _ _ => True) (fun _ _ _ _ _ hq => hq) 13 (by first | exact Nat.le_refl _ | omega | (simp; omega)) (by kernel_rfl) (by kernel_rfl) ?_; simp only [List.take_succ_cons, List.take_zero, List.drop_succ_cons, List.drop_zero])
            ((iterate 2 (refine Rm.wpMix_plain rfl rfl ?_; go_big_quiet_step (fail); refine wpQuiet_nil ?_)); (refine Rm.wpMix_load1 (fun W9' h9 => show W9'.cell? _ = some (.int .i64 m.view) from bx_cell (Ext.box h9 M2.out) 2) rfl rfl rfl Tryz.underlying3 rfl ?_; simp only [Act.put, List.setIfInBounds_toArray, List.set_cons_zero, List.set_cons_succ]); (iterate 1 (refine Rm.wpMix_plain rfl rfl ?_; go_big_quiet_step (fail); refine wpQuiet_nil ?_)))
            (refine Rm.wpMix_loadAgg (fun W9' h9 => mg_log M2.out h9) rfl rfl rfl Tryz.underlying40 (by kernel_rfl) ?_; simp only [Act.put, List.setIfInBounds_toArray, List.set_cons_zero, List.set_cons_succ])
            ((iterate 1 (refine Rm.wpMix_plain rfl rfl ?_; go_big_quiet_step (fail); refine wpQuiet_nil ?_)); (refine Rm.wpMix_load1 (fun W9' h9 => show W9'.cell? _ = some (.int .i64 m.commit) from bx_cell (Ext.box h9 M2.out) 4) rfl rfl rfl Tryz.underlying3 rfl ?_; simp only [Act.put, List.setIfInBounds_toArray, List.set_cons_zero, List.set_cons_succ]); (iterate 1 (refine Rm.wpMix_plain rfl rfl ?_; go_big_quiet_step (fail); refine wpQuiet_nil ?_)); (refine Rm.wpMix_nilp rfl rfl rfl ?_; simp only [Act.put, List.setIfInBounds_toArray, List.set_cons_zero, List.set_cons_succ]); (iterate 2 (refine Rm.wpMix_plain rfl rfl ?_; go_big_quiet_step (fail); refine wpQuiet_nil ?_)); (refine Rm.wpMix_load1 (fun W9' h9 => show W9'.cell? _ = some (.int .i64 r.commit) from bx_cell (Ext.box h9 K2.out.box) 5) rfl rfl rfl Tryz.underlying3 rfl ?_; simp only [Act.put, List.setIfInBounds_toArray, List.set_cons_zero, List.set_cons_succ]); (iterate 1 (refine Rm.wpMix_plain rfl rfl ?_; go_big_quiet_step (fail); refine wpQuiet_nil ?_)))
            refine Rm.wpMix_nil ?_
            rintro w3 hW
            have K3 := Lib.hid (K2.out.keep (show Ext w2 w3 from hW))
            clear K2 M2 hW
            go_wp2_with fail
            refine (c_lead K3.out m.view am m.log (max m.commit r.commit) (fun W hc => K3.out.hear HML.out hc) hms hl0 hl1 hl2).mono ?_
            rintro e w4 ⟨rfl, a4, k4⟩
            have K4 := Lib.hid k4
            have M4 := Lib.hid (k4.x.box HP.out)
            clear k4 K3
            have d4 := bx_cell M4.out
            have z4 := bx_lt M4.out
            go_wp2_with fail
            refine (c_ok K4.out m.frm (by simp) hl0 hl1 hl2).mono ?_
            rintro e w5 ⟨rfl, A5, c5, a5, k5⟩
            have K5 := Lib.hid k5
            clear k5 K4 d4 z4
            go_wp2
            exact bodyPost_end (v := .tuple #[]) (by simp [results, Tryz.results86, go_sem]) rfl ⟨rfl, K5.out.ko HF.out.1 HF.out.2⟩
          · have HF := Lib.hid (show r = startR r m ∧ ([] : List Ot) = startO r m by
              have hB : startB r m = false := by
                have : (m.frm == m.view % r.of) = false := by simpa using g3
                simp only [startB, this, Bool.true_and, Bool.false_and, Bool.and_true, Bool.and_false, Bool.true_or, Bool.false_or, Bool.or_true, Bool.or_false, Bool.not_true, Bool.not_false]
              constructor <;> simp [startR, startO, hB])
            (refine Rm.wp_region_mix' (R := relE w1.heap.size) (fun _ _ _ => True) (fun _ _ _ _ _ hq => hq) 20 (by first | exact Nat.le_refl _ | omega | (simp; omega)) (by kernel_rfl) (by kernel_rfl) ?_; simp only [List.take_succ_cons, List.take_zero, List.drop_succ_cons, List.drop_zero])
            ((iterate 1 (refine Rm.wpMix_plain rfl rfl ?_; go_big_quiet_step (fail); refine wpQuiet_nil ?_)))
            (refine Rm.wpMix_det rfl rfl rfl (enters Tryz.func87 (by kernel_rfl) rfl) (fun W9' h9 => c_awake p a A qs.length c r _ W9' (Ext.box h9 K1.out.box)) rfl ?_; simp only [Act.put, List.setIfInBounds_toArray, List.set_cons_zero, List.set_cons_succ])
            ((try simp only [gl, Bool.not_true, Bool.not_false]); (iterate 3 (refine Rm.wpMix_plain rfl rfl ?_; go_big_quiet_step (fail); refine wpQuiet_nil ?_)); (refine Rm.wpMix_load1 (fun W9' h9 => show W9'.cell? _ = some (.int .i64 m.frm) from bx_cell (Ext.box h9 M1.out) 1) rfl rfl rfl Tryz.underlying3 rfl ?_; simp only [Act.put, List.setIfInBounds_toArray, List.set_cons_zero, List.set_cons_succ]); (iterate 1 (refine Rm.wpMix_plain rfl rfl ?_; go_big_quiet_step (fail); refine wpQuiet_nil ?_)); (refine Rm.wpMix_load1 (fun W9' h9 => show W9'.cell? _ = some (.int .i64 m.view) from bx_cell (Ext.box h9 M1.out) 2) rfl rfl rfl Tryz.underlying3 rfl ?_; simp only [Act.put, List.setIfInBounds_toArray, List.set_cons_zero, List.set_cons_succ]); (iterate 1 (refine Rm.wpMix_plain rfl rfl ?_; go_big_quiet_step (fail); refine wpQuiet_nil ?_)); (refine Rm.wpMix_nilp rfl rfl rfl ?_; simp only [Act.put, List.setIfInBounds_toArray, List.set_cons_zero, List.set_cons_succ]); (iterate 2 (refine Rm.wpMix_plain rfl rfl ?_; go_big_quiet_step (fail); refine wpQuiet_nil ?_)); (refine Rm.wpMix_load1 (fun W9' h9 => show W9'.cell? _ = some (.int .i64 r.of) from bx_cell (Ext.box h9 K1.out.box) 1) rfl rfl rfl Tryz.underlying3 rfl ?_; simp only [Act.put, List.setIfInBounds_toArray, List.set_cons_zero, List.set_cons_succ]); (iterate 2 (refine Rm.wpMix_plain rfl rfl ?_; go_big_quiet_step (fail); refine wpQuiet_nil ?_)); (try simp only [g3, Bool.not_true, Bool.not_false]); (iterate 2 (refine Rm.wpMix_plain rfl rfl ?_; go_big_quiet_step (fail); refine wpQuiet_nil ?_)))
            ((iterate 2 (refine Rm.wpMix_skip rfl rfl ?_; simp only [Act.put, List.setIfInBounds_toArray, List.set_cons_zero, List.set_cons_succ])); (iterate 1 (refine Rm.wpMix_plain rfl rfl ?_; go_big_quiet_step (fail); refine wpQuiet_nil ?_)))
            refine Rm.wpMix_nil ?_
            rintro w2 hW
            have xw2 : Ext w1 w2 := hW
            have K2 := Lib.hid (K1.out.keep xw2)
            have M2 := Lib.hid (xw2.box M1.out)
            clear K1 M1 hW xw2
            go_wp2
            exact bodyPost_ret (v := .tuple #[]) (by simp [results, Tryz.results86, go_sem]) rfl ⟨rfl, K2.out.ko HF.out.1 HF.out.2⟩
  · (refine Rm.wp_region_mix' (R := relE W.heap.size) (fun _ _ _ => True) (fun _ _ _ _ _ hq => hq) 27 (by first | exact Nat.le_refl _ | omega | (simp; omega)) (by kernel_rfl) (by kernel_rfl) ?_; simp only [List.take_succ_cons, List.take_zero, List.drop_succ_cons, List.drop_zero])
    ((iterate 1 (refine Rm.wpMix_plain rfl rfl ?_; go_big_quiet_step (fail); refine wpQuiet_nil ?_)); (refine Rm.wpMix_load1 (fun W9' h9 => show W9'.cell? _ = some (.int .i64 m.view) from bx_cell (Ext.box h9 HM.out) 2) rfl rfl rfl Tryz.underlying3 rfl ?_; simp only [Act.put, List.setIfInBounds_toArray, List.set_cons_zero, List.set_cons_succ]); (iterate 1 (refine Rm.wpMix_plain rfl rfl ?_; go_big_quiet_step (fail); refine wpQuiet_nil ?_)); (refine Rm.wpMix_nilp rfl rfl rfl ?_; simp only [Act.put, List.setIfInBounds_toArray, List.set_cons_zero, List.set_cons_succ]); (iterate 2 (refine Rm.wpMix_plain rfl rfl ?_; go_big_quiet_step (fail); refine wpQuiet_nil ?_)); (refine Rm.wpMix_load1 (fun W9' h9 => show W9'.cell? _ = some (.int .i64 r.view) from bx_cell (Ext.box h9 HK.out.box) 3) rfl rfl rfl Tryz.underlying3 rfl ?_; simp only [Act.put, List.setIfInBounds_toArray, List.set_cons_zero, List.set_cons_succ]); (iterate 1 (refine Rm.wpMix_plain rfl rfl ?_; go_big_quiet_step (fail); refine wpQuiet_nil ?_)); (try simp only [g0, Bool.not_true, Bool.not_false]); (iterate 1 (refine Rm.wpMix_plain rfl rfl ?_; go_big_quiet_step (fail); refine wpQuiet_nil ?_)); (iterate 16 (refine Rm.wpMix_skip rfl rfl ?_; simp only [Act.put, List.setIfInBounds_toArray, List.set_cons_zero, List.set_cons_succ])); (iterate 2 (refine Rm.wpMix_plain rfl rfl ?_; go_big_quiet_step (fail); refine wpQuiet_nil ?_)))
    refine Rm.wpMix_nil ?_
    rintro w1 hW
    have xw1 : Ext W w1 := hW
    have K1 := Lib.hid (HK.out.keep xw1)
    have M1 := Lib.hid (xw1.box HM.out)
    clear HK HM hW xw1
    go_wp2
    cases gl : liveB r
    · have HF := Lib.hid (show r = startR r m ∧ ([] : List Ot) = startO r m by
        have hB : startB r m = false := by
          simp only [startB, gl, Bool.true_and, Bool.false_and, Bool.and_true, Bool.and_false, Bool.true_or, Bool.false_or, Bool.or_true, Bool.or_false, Bool.not_true, Bool.not_false]
        constructor <;> simp [startR, startO, hB])
      (refine Rm.wp_region_mix' (R := relE w1.heap.size) (fun _ _ _ => True) (fun _ _ _ _ _ hq => hq) 20 (by first | exact Nat.le_refl _ | omega | (simp; omega)) (by kernel_rfl) (by kernel_rfl) ?_; simp only [List.take_succ_cons, List.take_zero, List.drop_succ_cons, List.drop_zero])
      ((iterate 1 (refine Rm.wpMix_plain rfl rfl ?_; go_big_quiet_step (fail); refine wpQuiet_nil ?_)))
      (refine Rm.wpMix_det rfl rfl rfl (enters Tryz.func87 (by kernel_rfl) rfl) (fun W9' h9 => c_awake p a A qs.length c r _ W9' (Ext.box h9 K1.out.box)) rfl ?_; simp only [Act.put, List.setIfInBounds_toArray, List.set_cons_zero, List.set_cons_succ])
      ((try simp only [gl, Bool.not_true, Bool.not_false]); (iterate 2 (refine Rm.wpMix_plain rfl rfl ?_; go_big_quiet_step (fail); refine wpQuiet_nil ?_)); (iterate 11 (refine Rm.wpMix_skip rfl rfl ?_; simp only [Act.put, List.setIfInBounds_toArray, List.set_cons_zero, List.set_cons_succ])); (iterate 2 (refine Rm.wpMix_plain rfl rfl ?_; go_big_quiet_step (fail); refine wpQuiet_nil ?_)); (iterate 2 (refine Rm.wpMix_skip rfl rfl ?_; simp only [Act.put, List.setIfInBounds_toArray, List.set_cons_zero, List.set_cons_succ])); (iterate 1 (refine Rm.wpMix_plain rfl rfl ?_; go_big_quiet_step (fail); refine wpQuiet_nil ?_)))
      refine Rm.wpMix_nil ?_
      rintro w2 hW
      have xw2 : Ext w1 w2 := hW
      have K2 := Lib.hid (K1.out.keep xw2)
      have M2 := Lib.hid (xw2.box M1.out)
      clear K1 M1 hW xw2
      go_wp2
      exact bodyPost_ret (v := .tuple #[]) (by simp [results, Tryz.results86, go_sem]) rfl ⟨rfl, K2.out.ko HF.out.1 HF.out.2⟩
    · cases g3 : (m.frm != m.view % r.of)
      · have HF := Lib.hid (show r.lead m.view m.log (max m.commit r.commit) = startR r m ∧ ([⟨m.frm, okM (r.lead m.view m.log (max m.commit r.commit))⟩] : List Ot) = startO r m by
          have hB : startB r m = true := by
            have : (m.frm == m.view % r.of) = true := by simpa using g3
            simp only [startB, this, gl, g0, Bool.true_and, Bool.false_and, Bool.and_true, Bool.and_false, Bool.true_or, Bool.false_or, Bool.or_true, Bool.or_false, Bool.not_true, Bool.not_false]
          constructor <;> simp [startR, startO, hB])
        (refine Rm.wp_region_mix' (R := relE w1.heap.size) (fun _ _ _ => True) (fun _ _ _ _ _ hq => hq) 20 (by first | exact Nat.le_refl _ | omega | (simp; omega)) (by kernel_rfl) (by kernel_rfl) ?_; simp only [List.take_succ_cons, List.take_zero, List.drop_succ_cons, List.drop_zero])
        ((iterate 1 (refine Rm.wpMix_plain rfl rfl ?_; go_big_quiet_step (fail); refine wpQuiet_nil ?_)))
        (refine Rm.wpMix_det rfl rfl rfl (enters Tryz.func87 (by kernel_rfl) rfl) (fun W9' h9 => c_awake p a A qs.length c r _ W9' (Ext.box h9 K1.out.box)) rfl ?_; simp only [Act.put, List.setIfInBounds_toArray, List.set_cons_zero, List.set_cons_succ])
        ((try simp only [gl, Bool.not_true, Bool.not_false]); (iterate 3 (refine Rm.wpMix_plain rfl rfl ?_; go_big_quiet_step (fail); refine wpQuiet_nil ?_)); (refine Rm.wpMix_load1 (fun W9' h9 => show W9'.cell? _ = some (.int .i64 m.frm) from bx_cell (Ext.box h9 M1.out) 1) rfl rfl rfl Tryz.underlying3 rfl ?_; simp only [Act.put, List.setIfInBounds_toArray, List.set_cons_zero, List.set_cons_succ]); (iterate 1 (refine Rm.wpMix_plain rfl rfl ?_; go_big_quiet_step (fail); refine wpQuiet_nil ?_)); (refine Rm.wpMix_load1 (fun W9' h9 => show W9'.cell? _ = some (.int .i64 m.view) from bx_cell (Ext.box h9 M1.out) 2) rfl rfl rfl Tryz.underlying3 rfl ?_; simp only [Act.put, List.setIfInBounds_toArray, List.set_cons_zero, List.set_cons_succ]); (iterate 1 (refine Rm.wpMix_plain rfl rfl ?_; go_big_quiet_step (fail); refine wpQuiet_nil ?_)); (refine Rm.wpMix_nilp rfl rfl rfl ?_; simp only [Act.put, List.setIfInBounds_toArray, List.set_cons_zero, List.set_cons_succ]); (iterate 2 (refine Rm.wpMix_plain rfl rfl ?_; go_big_quiet_step (fail); refine wpQuiet_nil ?_)); (refine Rm.wpMix_load1 (fun W9' h9 => show W9'.cell? _ = some (.int .i64 r.of) from bx_cell (Ext.box h9 K1.out.box) 1) rfl rfl rfl Tryz.underlying3 rfl ?_; simp only [Act.put, List.setIfInBounds_toArray, List.set_cons_zero, List.set_cons_succ]); (iterate 2 (refine Rm.wpMix_plain rfl rfl ?_; go_big_quiet_step (fail); refine wpQuiet_nil ?_)); (try simp only [g3, Bool.not_true, Bool.not_false]); (iterate 2 (refine Rm.wpMix_plain rfl rfl ?_; go_big_quiet_step (fail); refine wpQuiet_nil ?_)))
        ((iterate 3 (refine Rm.wpMix_plain rfl rfl ?_; go_big_quiet_step (fail); refine wpQuiet_nil ?_)))
        refine Rm.wpMix_nil ?_
        rintro w2 hW
        have xw2 : Ext w1 w2 := hW
        have K2 := Lib.hid (K1.out.keep xw2)
        have M2 := Lib.hid (xw2.box M1.out)
        clear K1 M1 hW xw2
        go_wp2
        (refine Rm.wp_region_mix' (R := relE w2.heap.size) (fun _ _ _ => True) (fun _ _ _ _ _ hq => hq) 13 (by first | exact Nat.le_refl _ | omega | (simp; omega)) (by kernel_rfl) (by kernel_rfl) ?_; simp only [List.take_succ_cons, List.take_zero, List.drop_succ_cons, List.drop_zero])
        ((iterate 2 (refine Rm.wpMix_plain rfl rfl ?_; go_big_quiet_step (fail); refine wpQuiet_nil ?_)); (refine Rm.wpMix_load1 (fun W9' h9 => show W9'.cell? _ = some (.int .i64 m.view) from bx_cell (Ext.box h9 M2.out) 2) rfl rfl rfl Tryz.underlying3 rfl ?_; simp only [Act.put, List.setIfInBounds_toArray, List.set_cons_zero, List.set_cons_succ]); (iterate 1 (refine Rm.wpMix_plain rfl rfl ?_; go_big_quiet_step (fail); refine wpQuiet_nil ?_)))
        (refine Rm.wpMix_loadAgg (fun W9' h9 => mg_log M2.out h9) rfl rfl rfl Tryz.underlying40 (by kernel_rfl) ?_; simp only [Act.put, List.setIfInBounds_toArray, List.set_cons_zero, List.set_cons_succ])
        ((iterate 1 (refine Rm.wpMix_plain rfl rfl ?_; go_big_quiet_step (fail); refine wpQuiet_nil ?_)); (refine Rm.wpMix_load1 (fun W9' h9 => show W9'.cell? _ = some (.int .i64 m.commit) from bx_cell (Ext.box h9 M2.out) 4) rfl rfl rfl Tryz.underlying3 rfl ?_; simp only [Act.put, List.setIfInBounds_toArray, List.set_cons_zero, List.set_cons_succ]); (iterate 1 (refine Rm.wpMix_plain rfl rfl ?_; go_big_quiet_step (fail); refine wpQuiet_nil ?_)); (refine Rm.wpMix_nilp rfl rfl rfl ?_; simp only [Act.put, List.setIfInBounds_toArray, List.set_cons_zero, List.set_cons_succ]); (iterate 2 (refine Rm.wpMix_plain rfl rfl ?_; go_big_quiet_step (fail); refine wpQuiet_nil ?_)); (refine Rm.wpMix_load1 (fun W9' h9 => show W9'.cell? _ = some (.int .i64 r.commit) from bx_cell (Ext.box h9 K2.out.box) 5) rfl rfl rfl Tryz.underlying3 rfl ?_; simp only [Act.put, List.setIfInBounds_toArray, List.set_cons_zero, List.set_cons_succ]); (iterate 1 (refine Rm.wpMix_plain rfl rfl ?_; go_big_quiet_step (fail); refine wpQuiet_nil ?_)))
        refine Rm.wpMix_nil ?_
        rintro w3 hW
        have K3 := Lib.hid (K2.out.keep (show Ext w2 w3 from hW))
        clear K2 M2 hW
        go_wp2_with fail
        refine (c_lead K3.out m.view am m.log (max m.commit r.commit) (fun W hc => K3.out.hear HML.out hc) hms hl0 hl1 hl2).mono ?_
        rintro e w4 ⟨rfl, a4, k4⟩
        have K4 := Lib.hid k4
        have M4 := Lib.hid (k4.x.box HP.out)
        clear k4 K3
        have d4 := bx_cell M4.out
        have z4 := bx_lt M4.out
        go_wp2_with fail
        refine (c_ok K4.out m.frm (by simp) hl0 hl1 hl2).mono ?_
        rintro e w5 ⟨rfl, A5, c5, a5, k5⟩
        have K5 := Lib.hid k5
        clear k5 K4 d4 z4
        go_wp2
        exact bodyPost_end (v := .tuple #[]) (by simp [results, Tryz.results86, go_sem]) rfl ⟨rfl, K5.out.ko HF.out.1 HF.out.2⟩
      · have HF := Lib.hid (show r = startR r m ∧ ([] : List Ot) = startO r m by
          have hB : startB r m = false := by
            have : (m.frm == m.view % r.of) = false := by simpa using g3
            simp only [startB, this, Bool.true_and, Bool.false_and, Bool.and_true, Bool.and_false, Bool.true_or, Bool.false_or, Bool.or_true, Bool.or_false, Bool.not_true, Bool.not_false]
          constructor <;> simp [startR, startO, hB])
        (refine Rm.wp_region_mix' (R := relE w1.heap.size) (fun _ _ _ => True) (fun _ _ _ _ _ hq => hq) 20 (by first | exact Nat.le_refl _ | omega | (simp; omega)) (by kernel_rfl) (by kernel_rfl) ?_; simp only [List.take_succ_cons, List.take_zero, List.drop_succ_cons, List.drop_zero])
        ((iterate 1 (refine Rm.wpMix_plain rfl rfl ?_; go_big_quiet_step (fail); refine wpQuiet_nil ?_)))
        (refine Rm.wpMix_det rfl rfl rfl (enters Tryz.func87 (by kernel_rfl) rfl) (fun W9' h9 => c_awake p a A qs.length c r _ W9' (Ext.box h9 K1.out.box)) rfl ?_; simp only [Act.put, List.setIfInBounds_toArray, List.set_cons_zero, List.set_cons_succ])
        ((try simp only [gl, Bool.not_true, Bool.not_false]); (iterate 3 (refine Rm.wpMix_plain rfl rfl ?_; go_big_quiet_step (fail); refine wpQuiet_nil ?_)); (refine Rm.wpMix_load1 (fun W9' h9 => show W9'.cell? _ = some (.int .i64 m.frm) from bx_cell (Ext.box h9 M1.out) 1) rfl rfl rfl Tryz.underlying3 rfl ?_; simp only [Act.put, List.setIfInBounds_toArray, List.set_cons_zero, List.set_cons_succ]); (iterate 1 (refine Rm.wpMix_plain rfl rfl ?_; go_big_quiet_step (fail); refine wpQuiet_nil ?_)); (refine Rm.wpMix_load1 (fun W9' h9 => show W9'.cell? _ = some (.int .i64 m.view) from bx_cell (Ext.box h9 M1.out) 2) rfl rfl rfl Tryz.underlying3 rfl ?_; simp only [Act.put, List.setIfInBounds_toArray, List.set_cons_zero, List.set_cons_succ]); (iterate 1 (refine Rm.wpMix_plain rfl rfl ?_; go_big_quiet_step (fail); refine wpQuiet_nil ?_)); (refine Rm.wpMix_nilp rfl rfl rfl ?_; simp only [Act.put, List.setIfInBounds_toArray, List.set_cons_zero, List.set_cons_succ]); (iterate 2 (refine Rm.wpMix_plain rfl rfl ?_; go_big_quiet_step (fail); refine wpQuiet_nil ?_)); (refine Rm.wpMix_load1 (fun W9' h9 => show W9'.cell? _ = some (.int .i64 r.of) from bx_cell (Ext.box h9 K1.out.box) 1) rfl rfl rfl Tryz.underlying3 rfl ?_; simp only [Act.put, List.setIfInBounds_toArray, List.set_cons_zero, List.set_cons_succ]); (iterate 2 (refine Rm.wpMix_plain rfl rfl ?_; go_big_quiet_step (fail); refine wpQuiet_nil ?_)); (try simp only [g3, Bool.not_true, Bool.not_false]); (iterate 2 (refine Rm.wpMix_plain rfl rfl ?_; go_big_quiet_step (fail); refine wpQuiet_nil ?_)))
        ((iterate 2 (refine Rm.wpMix_skip rfl rfl ?_; simp only [Act.put, List.setIfInBounds_toArray, List.set_cons_zero, List.set_cons_succ])); (iterate 1 (refine Rm.wpMix_plain rfl rfl ?_; go_big_quiet_step (fail); refine wpQuiet_nil ?_)))
        refine Rm.wpMix_nil ?_
        rintro w2 hW
        have xw2 : Ext w1 w2 := hW
        have K2 := Lib.hid (K1.out.keep xw2)
        have M2 := Lib.hid (xw2.box M1.out)
        clear K1 M1 hW xw2
        go_wp2
        exact bodyPost_ret (v := .tuple #[]) (by simp [results, Tryz.results86, go_sem]) rfl ⟨rfl, K2.out.ko HF.out.1 HF.out.2⟩
set_option maxRecDepth 100000 in
set_option maxHeartbeats 16000000 in
theorem c_state1 (hk : KO W0 W p r []) (hP : W0.heap[P]? = some (Mg.obj am m)) (hM : LgR W0 am m.log) (hs : r.log.small) (hms : m.log.small) (hb : (rpOk r && hearB r m 11) = true) :
    Calls Tryz.prog 90 #[.pointer (some ⟨p, 0, none⟩), .pointer (some ⟨P, 0, none⟩)] W fun e w' => e = .returned (.tuple #[]) ∧ KO W0 w' p (stateR2 r m) (stateO2 r m) := by
  obtain ⟨a, A, c, qs, Ao, co, os, hk, hos⟩ := hk
  obtain rfl : os = [] := by simpa using hos
  obtain ⟨hq1, hq2, hq3⟩ := hear_facts hb
  have G := Lib.hid (rpOk_good hq1)
  have hg0 := G.out.base0
  have hg1 := G.out.base1
  have hg2 := G.out.ents
  have HV := Lib.hid (fits_view hq2 (by rw [hq3]; decide +kernel))
  have hlog := fits_log hq2 (by rw [hq3]; decide +kernel)
  have HL := Lib.hid hlog
  obtain ⟨hl0, hl1, hl2, hl3⟩ := logOk_facts hlog.1
  have ho' : r.of ≠ 0 := by have := G.out.of; omega
  have ho2 : (r.of == 0) = false := by simpa using ho'
  have hv0 := HV.out.1
  have hrv0 := G.out.view0
  have HK := Lib.hid hk
  have HP := Lib.hid hP
  have HM := Lib.hid (hk.x.box hP)
  have HML := Lib.hid hM
  clear hk hP hM hos hq1 hq2 hq3 hlog
  go_enter Tryz.func90, Tryz.ntmps90
  go_wp2
  cases g1 : (m.view == r.view)
  · (refine Rm.wp_region_mix' (R := relE W.heap.size) (fun _ _ _ => True) (fun _ _ _ _ _ hq => hq) 34 (by first | exact Nat.le_refl _ | omega | (simp; omega)) (by kernel_rfl) (by kernel_rfl) ?_; simp only [List.take_succ_cons, List.take_zero, List.drop_succ_cons, List.drop_zero])
    ((iterate 1 (refine Rm.wpMix_plain rfl rfl ?_; go_big_quiet_step (fail); refine wpQuiet_nil ?_)); (refine Rm.wpMix_load1 (fun W9' h9 => show W9'.cell? _ = some (.int .i64 m.view) from bx_cell (Ext.box h9 HM.out) 2) rfl rfl rfl Tryz.underlying3 rfl ?_; simp only [Act.put, List.setIfInBounds_toArray, List.set_cons_zero, List.set_cons_succ]); (iterate 1 (refine Rm.wpMix_plain rfl rfl ?_; go_big_quiet_step (fail); refine wpQuiet_nil ?_)); (refine Rm.wpMix_nilp rfl rfl rfl ?_; simp only [Act.put, List.setIfInBounds_toArray, List.set_cons_zero, List.set_cons_succ]); (iterate 2 (refine Rm.wpMix_plain rfl rfl ?_; go_big_quiet_step (fail); refine wpQuiet_nil ?_)); (refine Rm.wpMix_load1 (fun W9' h9 => show W9'.cell? _ = some (.int .i64 r.view) from bx_cell (Ext.box h9 HK.out.box) 3) rfl rfl rfl Tryz.underlying3 rfl ?_; simp only [Act.put, List.setIfInBounds_toArray, List.set_cons_zero, List.set_cons_succ]); (iterate 1 (refine Rm.wpMix_plain rfl rfl ?_; go_big_quiet_step (fail); refine wpQuiet_nil ?_)); (try simp only [g1, Bool.not_true, Bool.not_false]); (iterate 1 (refine Rm.wpMix_plain rfl rfl ?_; go_big_quiet_step (fail); refine wpQuiet_nil ?_)); (iterate 6 (refine Rm.wpMix_skip rfl rfl ?_; simp only [Act.put, List.setIfInBounds_toArray, List.set_cons_zero, List.set_cons_succ])); (iterate 2 (refine Rm.wpMix_plain rfl rfl ?_; go_big_quiet_step (fail); refine wpQuiet_nil ?_)); (iterate 3 (refine Rm.wpMix_skip rfl rfl ?_; simp only [Act.put, List.setIfInBounds_toArray, List.set_cons_zero, List.set_cons_succ])); (iterate 2 (refine Rm.wpMix_plain rfl rfl ?_; go_big_quiet_step (fail); refine wpQuiet_nil ?_)); (iterate 10 (refine Rm.wpMix_skip rfl rfl ?_; simp only [Act.put, List.setIfInBounds_toArray, List.set_cons_zero, List.set_cons_succ])); (iterate 2 (refine Rm.wpMix_plain rfl rfl ?_; go_big_quiet_step (fail); refine wpQuiet_nil ?_)))
    refine Rm.wpMix_nil ?_
    rintro w1 hW
    have xw1 : Ext W w1 := hW
    have K1 := Lib.hid (HK.out.keep xw1)
    have M1 := Lib.hid (xw1.box HM.out)
    clear HK HM hW xw1
    go_wp2
    cases gl : liveB r
    · have HF := Lib.hid (show r = stateR2 r m ∧ ([] : List Ot) = stateO2 r m by
        have hB : stateB r m = false := by
          simp only [stateB, gl, Bool.true_and, Bool.false_and, Bool.and_true, Bool.and_false, Bool.true_or, Bool.false_or, Bool.or_true, Bool.or_false, Bool.not_true, Bool.not_false]
        constructor <;> simp [stateR2, stateO2, hB])
      (refine Rm.wp_region_mix' (R := relE w1.heap.size) (fun _ _ _ => True) (fun _ _ _ _ _ hq => hq) 17 (by first | exact Nat.le_refl _ | omega | (simp; omega)) (by kernel_rfl) (by kernel_rfl) ?_; simp only [List.take_succ_cons, List.take_zero, List.drop_succ_cons, List.drop_zero])
      ((iterate 1 (refine Rm.wpMix_plain rfl rfl ?_; go_big_quiet_step (fail); refine wpQuiet_nil ?_)))
      (refine Rm.wpMix_det rfl rfl rfl (enters Tryz.func87 (by kernel_rfl) rfl) (fun W9' h9 => c_awake p a A qs.length c r _ W9' (Ext.box h9 K1.out.box)) rfl ?_; simp only [Act.put, List.setIfInBounds_toArray, List.set_cons_zero, List.set_cons_succ])
      ((try simp only [gl, Bool.not_true, Bool.not_false]); (iterate 2 (refine Rm.wpMix_plain rfl rfl ?_; go_big_quiet_step (fail); refine wpQuiet_nil ?_)); (iterate 12 (refine Rm.wpMix_skip rfl rfl ?_; simp only [Act.put, List.setIfInBounds_toArray, List.set_cons_zero, List.set_cons_succ])); (iterate 1 (refine Rm.wpMix_plain rfl rfl ?_; go_big_quiet_step (fail); refine wpQuiet_nil ?_)))
      refine Rm.wpMix_nil ?_
      rintro w2 hW
      have xw2 : Ext w1 w2 := hW
      have K2 := Lib.hid (K1.out.keep xw2)
      have M2 := Lib.hid (xw2.box M1.out)
      clear K1 M1 hW xw2
      go_wp2
      exact bodyPost_ret (v := .tuple #[]) (by simp [results, Tryz.results90, go_sem]) rfl ⟨rfl, K2.out.ko HF.out.1 HF.out.2⟩
    · cases g5 : decide (m.view ≤ r.view)
      · have hB : stateB r m = true := by
          have hlt : decide (r.view < m.view) = true := by simp at g5 ⊢; omega
          simp only [stateB, gl, hlt, g1, Bool.true_and, Bool.false_and, Bool.and_true, Bool.and_false, Bool.true_or, Bool.false_or, Bool.or_true, Bool.or_false, Bool.not_true, Bool.not_false]
        obtain ⟨R2, hR2⟩ : ∃ R2, r.lead m.view m.log (max m.commit r.commit) = R2 := ⟨_, rfl⟩
        have HF := Lib.hid (show R2 = stateR2 r m ∧ (if (m.frm == m.view % r.of) = true then ([⟨m.frm, okM R2⟩] : List Ot) else []) = stateO2 r m by
          constructor <;> simp [stateR2, stateO2, hB, hR2])
        have hRv : R2.view = m.view := by rw [← hR2]; rfl
        have hRo : R2.of = r.of := by rw [← hR2]; rfl
        have hRl : R2.log = m.log := by rw [← hR2]; rfl
        have HR2 := Lib.hid hR2
        have HRv := Lib.hid hRv
        have HRo := Lib.hid hRo
        have HRl := Lib.hid hRl
        have hp1 : R2.of ≠ 0 := by rw [hRo]; exact ho'
        have hp2 : (R2.of == 0) = false := by rw [hRo]; exact ho2
        have hp3 : 0 ≤ R2.view := by rw [hRv]; exact hv0
        clear hR2 hRv hRo hRl hB
        (refine Rm.wp_region_mix' (R := relE w1.heap.size) (fun _ _ _ => True) (fun _ _ _ _ _ hq => hq) 17 (by first | exact Nat.le_refl _ | omega | (simp; omega)) (by kernel_rfl) (by kernel_rfl) ?_; simp only [List.take_succ_cons, List.take_zero, List.drop_succ_cons, List.drop_zero])
        ((iterate 1 (refine Rm.wpMix_plain rfl rfl ?_; go_big_quiet_step (fail); refine wpQuiet_nil ?_)))
        (refine Rm.wpMix_det rfl rfl rfl (enters Tryz.func87 (by kernel_rfl) rfl) (fun W9' h9 => c_awake p a A qs.length c r _ W9' (Ext.box h9 K1.out.box)) rfl ?_; simp only [Act.put, List.setIfInBounds_toArray, List.set_cons_zero, List.set_cons_succ])
        ((try simp only [gl, Bool.not_true, Bool.not_false]); (iterate 3 (refine Rm.wpMix_plain rfl rfl ?_; go_big_quiet_step (fail); refine wpQuiet_nil ?_)); (refine Rm.wpMix_load1 (fun W9' h9 => show W9'.cell? _ = some (.int .i64 m.view) from bx_cell (Ext.box h9 M1.out) 2) rfl rfl rfl Tryz.underlying3 rfl ?_; simp only [Act.put, List.setIfInBounds_toArray, List.set_cons_zero, List.set_cons_succ]); (iterate 1 (refine Rm.wpMix_plain rfl rfl ?_; go_big_quiet_step (fail); refine wpQuiet_nil ?_)); (refine Rm.wpMix_nilp rfl rfl rfl ?_; simp only [Act.put, List.setIfInBounds_toArray, List.set_cons_zero, List.set_cons_succ]); (iterate 2 (refine Rm.wpMix_plain rfl rfl ?_; go_big_quiet_step (fail); refine wpQuiet_nil ?_)); (refine Rm.wpMix_load1 (fun W9' h9 => show W9'.cell? _ = some (.int .i64 r.view) from bx_cell (Ext.box h9 K1.out.box) 3) rfl rfl rfl Tryz.underlying3 rfl ?_; simp only [Act.put, List.setIfInBounds_toArray, List.set_cons_zero, List.set_cons_succ]); (iterate 1 (refine Rm.wpMix_plain rfl rfl ?_; go_big_quiet_step (fail); refine wpQuiet_nil ?_)); (try simp only [g5, Bool.not_true, Bool.not_false]); (iterate 1 (refine Rm.wpMix_plain rfl rfl ?_; go_big_quiet_step (fail); refine wpQuiet_nil ?_)))
        ((iterate 2 (refine Rm.wpMix_skip rfl rfl ?_; simp only [Act.put, List.setIfInBounds_toArray, List.set_cons_zero, List.set_cons_succ])); (iterate 2 (refine Rm.wpMix_plain rfl rfl ?_; go_big_quiet_step (fail); refine wpQuiet_nil ?_)))
        refine Rm.wpMix_nil ?_
        rintro w2 hW
        have xw2 : Ext w1 w2 := hW
        have K2 := Lib.hid (K1.out.keep xw2)
        have M2 := Lib.hid (xw2.box M1.out)
        clear K1 M1 hW xw2
        go_wp2
        (refine Rm.wp_region_mix' (R := relE w2.heap.size) (fun _ _ _ => True) (fun _ _ _ _ _ hq => hq) 13 (by first | exact Nat.le_refl _ | omega | (simp; omega)) (by kernel_rfl) (by kernel_rfl) ?_; simp only [List.take_succ_cons, List.take_zero, List.drop_succ_cons, List.drop_zero])
        ((iterate 2 (refine Rm.wpMix_plain rfl rfl ?_; go_big_quiet_step (fail); refine wpQuiet_nil ?_)); (refine Rm.wpMix_load1 (fun W9' h9 => show W9'.cell? _ = some (.int .i64 m.view) from bx_cell (Ext.box h9 M2.out) 2) rfl rfl rfl Tryz.underlying3 rfl ?_; simp only [Act.put, List.setIfInBounds_toArray, List.set_cons_zero, List.set_cons_succ]); (iterate 1 (refine Rm.wpMix_plain rfl rfl ?_; go_big_quiet_step (fail); refine wpQuiet_nil ?_)))
        (refine Rm.wpMix_loadAgg (fun W9' h9 => mg_log M2.out h9) rfl rfl rfl Tryz.underlying40 (by kernel_rfl) ?_; simp only [Act.put, List.setIfInBounds_toArray, List.set_cons_zero, List.set_cons_succ])
        ((iterate 1 (refine Rm.wpMix_plain rfl rfl ?_; go_big_quiet_step (fail); refine wpQuiet_nil ?_)); (refine Rm.wpMix_load1 (fun W9' h9 => show W9'.cell? _ = some (.int .i64 m.commit) from bx_cell (Ext.box h9 M2.out) 4) rfl rfl rfl Tryz.underlying3 rfl ?_; simp only [Act.put, List.setIfInBounds_toArray, List.set_cons_zero, List.set_cons_succ]); (iterate 1 (refine Rm.wpMix_plain rfl rfl ?_; go_big_quiet_step (fail); refine wpQuiet_nil ?_)); (refine Rm.wpMix_nilp rfl rfl rfl ?_; simp only [Act.put, List.setIfInBounds_toArray, List.set_cons_zero, List.set_cons_succ]); (iterate 2 (refine Rm.wpMix_plain rfl rfl ?_; go_big_quiet_step (fail); refine wpQuiet_nil ?_)); (refine Rm.wpMix_load1 (fun W9' h9 => show W9'.cell? _ = some (.int .i64 r.commit) from bx_cell (Ext.box h9 K2.out.box) 5) rfl rfl rfl Tryz.underlying3 rfl ?_; simp only [Act.put, List.setIfInBounds_toArray, List.set_cons_zero, List.set_cons_succ]); (iterate 1 (refine Rm.wpMix_plain rfl rfl ?_; go_big_quiet_step (fail); refine wpQuiet_nil ?_)))
        refine Rm.wpMix_nil ?_
        rintro w3 hW
        have K3 := Lib.hid (K2.out.keep (show Ext w2 w3 from hW))
        clear K2 M2 hW
        go_wp2_with fail
        refine (c_lead K3.out m.view am m.log (max m.commit r.commit) (fun W hc => K3.out.hear HML.out hc) hms hl0 hl1 hl2).mono ?_
        rintro e w4 ⟨rfl, a4, k4⟩
        have K4 := Lib.hid (show KZ W0 w4 p a4 none 0 [] R2 Ao co [] from by rw [← HR2.out]; exact k4)
        have M4 := Lib.hid (k4.x.box HP.out)
        clear k4 K3
        go_wp2
        cases g6 : (m.frm == R2.view % R2.of)
        · have HF2 := Lib.hid (show ([] : List Ot) = stateO2 r m by rw [← HF.out.2, ← HRv.out, ← HRo.out, g6]; rfl)
          (refine Rm.wp_region_mix' (R := relE w4.heap.size) (fun _ _ _ => True) (fun _ _ _ _ _ hq => hq) 14 (by first | exact Nat.le_refl _ | omega | (simp; omega)) (by kernel_rfl) (by kernel_rfl) ?_; simp only [List.take_succ_cons, List.take_zero, List.drop_succ_cons, List.drop_zero])
          ((iterate 1 (refine Rm.wpMix_plain rfl rfl ?_; go_big_quiet_step (fail); refine wpQuiet_nil ?_)); (refine Rm.wpMix_load1 (fun W9' h9 => show W9'.cell? _ = some (.int .i64 m.frm) from bx_cell (Ext.box h9 M4.out) 1) rfl rfl rfl Tryz.underlying3 rfl ?_; simp only [Act.put, List.setIfInBounds_toArray, List.set_cons_zero, List.set_cons_succ]); (iterate 1 (refine Rm.wpMix_plain rfl rfl ?_; go_big_quiet_step (fail); refine wpQuiet_nil ?_)); (refine Rm.wpMix_nilp rfl rfl rfl ?_; simp only [Act.put, List.setIfInBounds_toArray, List.set_cons_zero, List.set_cons_succ]); (iterate 2 (refine Rm.wpMix_plain rfl rfl ?_; go_big_quiet_step (fail); refine wpQuiet_nil ?_)); (refine Rm.wpMix_load1 (fun W9' h9 => show W9'.cell? _ = some (.int .i64 R2.view) from bx_cell (Ext.box h9 K4.out.box) 3) rfl rfl rfl Tryz.underlying3 rfl ?_; simp only [Act.put, List.setIfInBounds_toArray, List.set_cons_zero, List.set_cons_succ]); (iterate 1 (refine Rm.wpMix_plain rfl rfl ?_; go_big_quiet_step (fail); refine wpQuiet_nil ?_)); (refine Rm.wpMix_nilp rfl rfl rfl ?_; simp only [Act.put, List.setIfInBounds_toArray, List.set_cons_zero, List.set_cons_succ]); (iterate 2 (refine Rm.wpMix_plain rfl rfl ?_; go_big_quiet_step (fail); refine wpQuiet_nil ?_)); (refine Rm.wpMix_load1 (fun W9' h9 => show W9'.cell? _ = some (.int .i64 R2.of) from bx_cell (Ext.box h9 K4.out.box) 1) rfl rfl rfl Tryz.underlying3 rfl ?_; simp only [Act.put, List.setIfInBounds_toArray, List.set_cons_zero, List.set_cons_succ]); (iterate 1 (refine Rm.wpMix_plain rfl rfl ?_; go_big_quiet_step (fail); refine wpQuiet_nil ?_)))
          ((iterate 1 (refine Rm.wpMix_plain rfl rfl ?_; go_big_quiet_step (fail); refine wpQuiet_nil ?_)); (try simp only [g6, Bool.not_true, Bool.not_false]))
          refine Rm.wpMix_nil ?_
          rintro w5 hW
          have x5 : Ext w4 w5 := hW
          have K5 := Lib.hid (K4.out.keep x5)
          have M5 := Lib.hid (x5.box M4.out)
          clear K4 M4 x5 hW
          go_wp2
          exact bodyPost_end (v := .tuple #[]) (by simp [results, Tryz.results90, go_sem]) rfl ⟨rfl, K5.out.ko HF.out.1 HF2.out⟩
        · have HF2 := Lib.hid (show ([⟨m.frm, okM R2⟩] : List Ot) = stateO2 r m by rw [← HF.out.2, ← HRv.out, ← HRo.out, g6]; rfl)
          (refine Rm.wp_region_mix' (R := relE w4.heap.size) (fun _ _ _ => True) (fun _ _ _ _ _ hq => hq) 14 (by first | exact Nat.le_refl _ | omega | (simp; omega)) (by kernel_rfl) (by kernel_rfl) ?_; simp only [List.take_succ_cons, List.take_zero, List.drop_succ_cons, List.drop_zero])
          ((iterate 1 (refine Rm.wpMix_plain rfl rfl ?_; go_big_quiet_step (fail); refine wpQuiet_nil ?_)); (refine Rm.wpMix_load1 (fun W9' h9 => show W9'.cell? _ = some (.int .i64 m.frm) from bx_cell (Ext.box h9 M4.out) 1) rfl rfl rfl Tryz.underlying3 rfl ?_; simp only [Act.put, List.setIfInBounds_toArray, List.set_cons_zero, List.set_cons_succ]); (iterate 1 (refine Rm.wpMix_plain rfl rfl ?_; go_big_quiet_step (fail); refine wpQuiet_nil ?_)); (refine Rm.wpMix_nilp rfl rfl rfl ?_; simp only [Act.put, List.setIfInBounds_toArray, List.set_cons_zero, List.set_cons_succ]); (iterate 2 (refine Rm.wpMix_plain rfl rfl ?_; go_big_quiet_step (fail); refine wpQuiet_nil ?_)); (refine Rm.wpMix_load1 (fun W9' h9 => show W9'.cell? _ = some (.int .i64 R2.view) from bx_cell (Ext.box h9 K4.out.box) 3) rfl rfl rfl Tryz.underlying3 rfl ?_; simp only [Act.put, List.setIfInBounds_toArray, List.set_cons_zero, List.set_cons_succ]); (iterate 1 (refine Rm.wpMix_plain rfl rfl ?_; go_big_quiet_step (fail); refine wpQuiet_nil ?_)); (refine Rm.wpMix_nilp rfl rfl rfl ?_; simp only [Act.put, List.setIfInBounds_toArray, List.set_cons_zero, List.set_cons_succ]); (iterate 2 (refine Rm.wpMix_plain rfl rfl ?_; go_big_quiet_step (fail); refine wpQuiet_nil ?_)); (refine Rm.wpMix_load1 (fun W9' h9 => show W9'.cell? _ = some (.int .i64 R2.of) from bx_cell (Ext.box h9 K4.out.box) 1) rfl rfl rfl Tryz.underlying3 rfl ?_; simp only [Act.put, List.setIfInBounds_toArray, List.set_cons_zero, List.set_cons_succ]); (iterate 1 (refine Rm.wpMix_plain rfl rfl ?_; go_big_quiet_step (fail); refine wpQuiet_nil ?_)))
          ((iterate 1 (refine Rm.wpMix_plain rfl rfl ?_; go_big_quiet_step (fail); refine wpQuiet_nil ?_)); (try simp only [g6, Bool.not_true, Bool.not_false]))
          refine Rm.wpMix_nil ?_
          rintro w5 hW
          have x5 : Ext w4 w5 := hW
          have K5 := Lib.hid (K4.out.keep x5)
          have M5 := Lib.hid (x5.box M4.out)
          clear K4 M4 x5 hW
          have d5 := bx_cell M5.out
          have z5 := bx_lt M5.out
          go_wp2_with fail
          refine (c_ok K5.out m.frm (by simp) (by rw [HRl.out]; exact hl0) (by rw [HRl.out]; exact hl1) (by rw [HRl.out]; exact hl2)).mono ?_
          rintro e w6 ⟨rfl, A6, c6, a6, k6⟩
          have K6 := Lib.hid k6
          clear k6 K5 d5 z5
          go_wp2
          exact bodyPost_end (v := .tuple #[]) (by simp [results, Tryz.results90, go_sem]) rfl ⟨rfl, K6.out.ko HF.out.1 HF2.out⟩
      · have HF := Lib.hid (show r = stateR2 r m ∧ ([] : List Ot) = stateO2 r m by
          have hB : stateB r m = false := by
            have hlt : decide (r.view < m.view) = false := by simp at g5 ⊢; omega
            simp only [stateB, hlt, g1, Bool.true_and, Bool.false_and, Bool.and_true, Bool.and_false, Bool.true_or, Bool.false_or, Bool.or_true, Bool.or_false, Bool.not_true, Bool.not_false]
          constructor <;> simp [stateR2, stateO2, hB])
        (refine Rm.wp_region_mix' (R := relE w1.heap.size) (fun _ _ _ => True) (fun _ _ _ _ _ hq => hq) 17 (by first | exact Nat.le_refl _ | omega | (simp; omega)) (by kernel_rfl) (by kernel_rfl) ?_; simp only [List.take_succ_cons, List.take_zero, List.drop_succ_cons, List.drop_zero])
        ((iterate 1 (refine Rm.wpMix_plain rfl rfl ?_; go_big_quiet_step (fail); refine wpQuiet_nil ?_)))
        (refine Rm.wpMix_det rfl rfl rfl (enters Tryz.func87 (by kernel_rfl) rfl) (fun W9' h9 => c_awake p a A qs.length c r _ W9' (Ext.box h9 K1.out.box)) rfl ?_; simp only [Act.put, List.setIfInBounds_toArray, List.set_cons_zero, List.set_cons_succ])
        ((try simp only [gl, Bool.not_true, Bool.not_false]); (iterate 3 (refine Rm.wpMix_plain rfl rfl ?_; go_big_quiet_step (fail); refine wpQuiet_nil ?_)); (refine Rm.wpMix_load1 (fun W9' h9 => show W9'.cell? _ = some (.int .i64 m.view) from bx_cell (Ext.box h9 M1.out) 2) rfl rfl rfl Tryz.underlying3 rfl ?_; simp only [Act.put, List.setIfInBounds_toArray, List.set_cons_zero, List.set_cons_succ]); (iterate 1 (refine Rm.wpMix_plain rfl rfl ?_; go_big_quiet_step (fail); refine wpQuiet_nil ?_)); (refine Rm.wpMix_nilp rfl rfl rfl ?_; simp only [Act.put, List.setIfInBounds_toArray, List.set_cons_zero, List.set_cons_succ]); (iterate 2 (refine Rm.wpMix_plain rfl rfl ?_; go_big_quiet_step (fail); refine wpQuiet_nil ?_)); (refine Rm.wpMix_load1 (fun W9' h9 => show W9'.cell? _ = some (.int .i64 r.view) from bx_cell (Ext.box h9 K1.out.box) 3) rfl rfl rfl Tryz.underlying3 rfl ?_; simp only [Act.put, List.setIfInBounds_toArray, List.set_cons_zero, List.set_cons_succ]); (iterate 1 (refine Rm.wpMix_plain rfl rfl ?_; go_big_quiet_step (fail); refine wpQuiet_nil ?_)); (try simp only [g5, Bool.not_true, Bool.not_false]); (iterate 1 (refine Rm.wpMix_plain rfl rfl ?_; go_big_quiet_step (fail); refine wpQuiet_nil ?_)))
        ((iterate 4 (refine Rm.wpMix_plain rfl rfl ?_; go_big_quiet_step (fail); refine wpQuiet_nil ?_)))
        refine Rm.wpMix_nil ?_
        rintro w2 hW
        have xw2 : Ext w1 w2 := hW
        have K2 := Lib.hid (K1.out.keep xw2)
        have M2 := Lib.hid (xw2.box M1.out)
        clear K1 M1 hW xw2
        go_wp2
        exact bodyPost_ret (v := .tuple #[]) (by simp [results, Tryz.results90, go_sem]) rfl ⟨rfl, K2.out.ko HF.out.1 HF.out.2⟩
  · cases g2 : (r.mode == 1)
    · (refine Rm.wp_region_mix' (R := relE W.heap.size) (fun _ _ _ => True) (fun _ _ _ _ _ hq => hq) 34 (by first | exact Nat.le_refl _ | omega | (simp; omega)) (by kernel_rfl) (by kernel_rfl) ?_; simp only [List.take_succ_cons, List.take_zero, List.drop_succ_cons, List.drop_zero])
      ((iterate 1 (refine Rm.wpMix_plain rfl rfl ?_; go_big_quiet_step (fail); refine wpQuiet_nil ?_)); (refine Rm.wpMix_load1 (fun W9' h9 => show W9'.cell? _ = some (.int .i64 m.view) from bx_cell (Ext.box h9 HM.out) 2) rfl rfl rfl Tryz.underlying3 rfl ?_; simp only [Act.put, List.setIfInBounds_toArray, List.set_cons_zero, List.set_cons_succ]); (iterate 1 (refine Rm.wpMix_plain rfl rfl ?_; go_big_quiet_step (fail); refine wpQuiet_nil ?_)); (refine Rm.wpMix_nilp rfl rfl rfl ?_; simp only [Act.put, List.setIfInBounds_toArray, List.set_cons_zero, List.set_cons_succ]); (iterate 2 (refine Rm.wpMix_plain rfl rfl ?_; go_big_quiet_step (fail); refine wpQuiet_nil ?_)); (refine Rm.wpMix_load1 (fun W9' h9 => show W9'.cell? _ = some (.int .i64 r.view) from bx_cell (Ext.box h9 HK.out.box) 3) rfl rfl rfl Tryz.underlying3 rfl ?_; simp only [Act.put, List.setIfInBounds_toArray, List.set_cons_zero, List.set_cons_succ]); (iterate 1 (refine Rm.wpMix_plain rfl rfl ?_; go_big_quiet_step (fail); refine wpQuiet_nil ?_)); (try simp only [g1, Bool.not_true, Bool.not_false]); (iterate 2 (refine Rm.wpMix_plain rfl rfl ?_; go_big_quiet_step (fail); refine wpQuiet_nil ?_)); (refine Rm.wpMix_nilp rfl rfl rfl ?_; simp only [Act.put, List.setIfInBounds_toArray, List.set_cons_zero, List.set_cons_succ]); (iterate 2 (refine Rm.wpMix_plain rfl rfl ?_; go_big_quiet_step (fail); refine wpQuiet_nil ?_)); (refine Rm.wpMix_load1 (fun W9' h9 => show W9'.cell? _ = some (.int .i64 r.mode) from bx_cell (Ext.box h9 HK.out.box) 2) rfl rfl rfl Tryz.underlying3 rfl ?_; simp only [Act.put, List.setIfInBounds_toArray, List.set_cons_zero, List.set_cons_succ]); (iterate 1 (refine Rm.wpMix_plain rfl rfl ?_; go_big_quiet_step (fail); refine wpQuiet_nil ?_)); (try simp only [g2, Bool.not_true, Bool.not_false]); (iterate 2 (refine Rm.wpMix_plain rfl rfl ?_; go_big_quiet_step (fail); refine wpQuiet_nil ?_)); (iterate 3 (refine Rm.wpMix_skip rfl rfl ?_; simp only [Act.put, List.setIfInBounds_toArray, List.set_cons_zero, List.set_cons_succ])); (iterate 2 (refine Rm.wpMix_plain rfl rfl ?_; go_big_quiet_step (fail); refine wpQuiet_nil ?_)); (iterate 10 (refine Rm.wpMix_skip rfl rfl ?_; simp only [Act.put, List.setIfInBounds_toArray, List.set_cons_zero, List.set_cons_succ])); (iterate 2 (refine Rm.wpMix_plain rfl rfl ?_; go_big_quiet_step (fail); refine wpQuiet_nil ?_)))
      refine Rm.wpMix_nil ?_
      rintro w1 hW
      have xw1 : Ext W w1 := hW
      have K1 := Lib.hid (HK.out.keep xw1)
      have M1 := Lib.hid (xw1.box HM.out)
      clear HK HM hW xw1
      go_wp2
      cases gl : liveB r
      · have HF := Lib.hid (show r = stateR2 r m ∧ ([] : List Ot) = stateO2 r m by
          have hB : stateB r m = false := by
            simp only [stateB, gl, Bool.true_and, Bool.false_and, Bool.and_true, Bool.and_false, Bool.true_or, Bool.false_or, Bool.or_true, Bool.or_false, Bool.not_true, Bool.not_false]
          constructor <;> simp [stateR2, stateO2, hB])
        (refine Rm.wp_region_mix' (R := relE w1.heap.size) (fun _ _ _ => True) (fun _ _ _ _ _ hq => hq) 17 (by first | exact Nat.le_refl _ | omega | (simp; omega)) (by kernel_rfl) (by kernel_rfl) ?_; simp only [List.take_succ_cons, List.take_zero, List.drop_succ_cons, List.drop_zero])
        ((iterate 1 (refine Rm.wpMix_plain rfl rfl ?_; go_big_quiet_step (fail); refine wpQuiet_nil ?_)))
        (refine Rm.wpMix_det rfl rfl rfl (enters Tryz.func87 (by kernel_rfl) rfl) (fun W9' h9 => c_awake p a A qs.length c r _ W9' (Ext.box h9 K1.out.box)) rfl ?_; simp only [Act.put, List.setIfInBounds_toArray, List.set_cons_zero, List.set_cons_succ])
        ((try simp only [gl, Bool.not_true, Bool.not_false]); (iterate 2 (refine Rm.wpMix_plain rfl rfl ?_; go_big_quiet_step (fail); refine wpQuiet_nil ?_)); (iterate 12 (refine Rm.wpMix_skip rfl rfl ?_; simp only [Act.put, List.setIfInBounds_toArray, List.set_cons_zero, List.set_cons_succ])); (iterate 1 (refine Rm.wpMix_plain rfl rfl ?_; go_big_quiet_step (fail); refine wpQuiet_nil ?_)))
        refine Rm.wpMix_nil ?_
        rintro w2 hW
        have xw2 : Ext w1 w2 := hW
        have K2 := Lib.hid (K1.out.keep xw2)
        have M2 := Lib.hid (xw2.box M1.out)
        clear K1 M1 hW xw2
        go_wp2
        exact bodyPost_ret (v := .tuple #[]) (by simp [results, Tryz.results90, go_sem]) rfl ⟨rfl, K2.out.ko HF.out.1 HF.out.2⟩
      · have g5 : decide (m.view ≤ r.view) = true := by simp at g1 ⊢; omega
        have HF := Lib.hid (show r = stateR2 r m ∧ ([] : List Ot) = stateO2 r m by
          have hB : stateB r m = false := by
            have hlt : decide (r.view < m.view) = false := by simp at g5 ⊢; omega
            simp only [stateB, hlt, g2, Bool.true_and, Bool.false_and, Bool.and_true, Bool.and_false, Bool.true_or, Bool.false_or, Bool.or_true, Bool.or_false, Bool.not_true, Bool.not_false]
          constructor <;> simp [stateR2, stateO2, hB])
        (refine Rm.wp_region_mix' (R := relE w1.heap.size) (fun _ _ _ => True) (fun _ _ _ _ _ hq => hq) 17 (by first | exact Nat.le_refl _ | omega | (simp; omega)) (by kernel_rfl) (by kernel_rfl) ?_; simp only [List.take_succ_cons, List.take_zero, List.drop_succ_cons, List.drop_zero])
        ((iterate 1 (refine Rm.wpMix_plain rfl rfl ?_; go_big_quiet_step (fail); refine wpQuiet_nil ?_)))
        (refine Rm.wpMix_det rfl rfl rfl (enters Tryz.func87 (by kernel_rfl) rfl) (fun W9' h9 => c_awake p a A qs.length c r _ W9' (Ext.box h9 K1.out.box)) rfl ?_; simp only [Act.put, List.setIfInBounds_toArray, List.set_cons_zero, List.set_cons_succ])
        ((try simp only [gl, Bool.not_true, Bool.not_false]); (iterate 3 (refine Rm.wpMix_plain rfl rfl ?_; go_big_quiet_step (fail); refine wpQuiet_nil ?_)); (refine Rm.wpMix_load1 (fun W9' h9 => show W9'.cell? _ = some (.int .i64 m.view) from bx_cell (Ext.box h9 M1.out) 2) rfl rfl rfl Tryz.underlying3 rfl ?_; simp only [Act.put, List.setIfInBounds_toArray, List.set_cons_zero, List.set_cons_succ]); (iterate 1 (refine Rm.wpMix_plain rfl rfl ?_; go_big_quiet_step (fail); refine wpQuiet_nil ?_)); (refine Rm.wpMix_nilp rfl rfl rfl ?_; simp only [Act.put, List.setIfInBounds_toArray, List.set_cons_zero, List.set_cons_succ]); (iterate 2 (refine Rm.wpMix_plain rfl rfl ?_; go_big_quiet_step (fail); refine wpQuiet_nil ?_)); (refine Rm.wpMix_load1 (fun W9' h9 => show W9'.cell? _ = some (.int .i64 r.view) from bx_cell (Ext.box h9 K1.out.box) 3) rfl rfl rfl Tryz.underlying3 rfl ?_; simp only [Act.put, List.setIfInBounds_toArray, List.set_cons_zero, List.set_cons_succ]); (iterate 1 (refine Rm.wpMix_plain rfl rfl ?_; go_big_quiet_step (fail); refine wpQuiet_nil ?_)); (try simp only [g5, Bool.not_true, Bool.not_false]); (iterate 1 (refine Rm.wpMix_plain rfl rfl ?_; go_big_quiet_step (fail); refine wpQuiet_nil ?_)))
        ((iterate 4 (refine Rm.wpMix_plain rfl rfl ?_; go_big_quiet_step (fail); refine wpQuiet_nil ?_)))
        refine Rm.wpMix_nil ?_
        rintro w2 hW
        have xw2 : Ext w1 w2 := hW
        have K2 := Lib.hid (K1.out.keep xw2)
        have M2 := Lib.hid (xw2.box M1.out)
        clear K1 M1 hW xw2
        go_wp2
        exact bodyPost_ret (v := .tuple #[]) (by simp [results, Tryz.results90, go_sem]) rfl ⟨rfl, K2.out.ko HF.out.1 HF.out.2⟩
    · cases g3 : leadsB r
      · cases g4 : decide (r.log.fin < m.log.fin)
        · (refine Rm.wp_region_mix' (R := relE W.heap.size) (fun _ _ _ => True) (fun _ _ _ _ _ hq => hq) 34 (by first | exact Nat.le_refl _ | omega | (simp; omega)) (by kernel_rfl) (by kernel_rfl) ?_; simp only [List.take_succ_cons, List.take_zero, List.drop_succ_cons, List.drop_zero])
          ((iterate 1 (refine Rm.wpMix_plain rfl rfl ?_; go_big_quiet_step (fail); refine wpQuiet_nil ?_)); (refine Rm.wpMix_load1 (fun W9' h9 => show W9'.cell? _ = some (.int .i64 m.view) from bx_cell (Ext.box h9 HM.out) 2) rfl rfl rfl Tryz.underlying3 rfl ?_; simp only [Act.put, List.setIfInBounds_toArray, List.set_cons_zero, List.set_cons_succ]); (iterate 1 (refine Rm.wpMix_plain rfl rfl ?_; go_big_quiet_step (fail); refine wpQuiet_nil ?_)); (refine Rm.wpMix_nilp rfl rfl rfl ?_; simp only [Act.put, List.setIfInBounds_toArray, List.set_cons_zero, List.set_cons_succ]); (iterate 2 (refine Rm.wpMix_plain rfl rfl ?_; go_big_quiet_step (fail); refine wpQuiet_nil ?_)); (refine Rm.wpMix_load1 (fun W9' h9 => show W9'.cell? _ = some (.int .i64 r.view) from bx_cell (Ext.box h9 HK.out.box) 3) rfl rfl rfl Tryz.underlying3 rfl ?_; simp only [Act.put, List.setIfInBounds_toArray, List.set_cons_zero, List.set_cons_succ]); (iterate 1 (refine Rm.wpMix_plain rfl rfl ?_; go_big_quiet_step (fail); refine wpQuiet_nil ?_)); (try simp only [g1, Bool.not_true, Bool.not_false]); (iterate 2 (refine Rm.wpMix_plain rfl rfl ?_; go_big_quiet_step (fail); refine wpQuiet_nil ?_)); (refine Rm.wpMix_nilp rfl rfl rfl ?_; simp only [Act.put, List.setIfInBounds_toArray, List.set_cons_zero, List.set_cons_succ]); (iterate 2 (refine Rm.wpMix_plain rfl rfl ?_; go_big_quiet_step (fail); refine wpQuiet_nil ?_)); (refine Rm.wpMix_load1 (fun W9' h9 => show W9'.cell? _ = some (.int .i64 r.mode) from bx_cell (Ext.box h9 HK.out.box) 2) rfl rfl rfl Tryz.underlying3 rfl ?_; simp only [Act.put, List.setIfInBounds_toArray, List.set_cons_zero, List.set_cons_succ]); (iterate 1 (refine Rm.wpMix_plain rfl rfl ?_; go_big_quiet_step (fail); refine wpQuiet_nil ?_)); (try simp only [g2, Bool.not_true, Bool.not_false]); (iterate 3 (refine Rm.wpMix_plain rfl rfl ?_; go_big_quiet_step (fail); refine wpQuiet_nil ?_)))
          (refine Rm.wpMix_det rfl rfl rfl (enters Tryz.func91 (by kernel_rfl) rfl) (fun W9' h9 => c_isPrimary p a A qs.length c r _ W9' (Ext.box h9 HK.out.box) G.out.of hrv0) rfl ?_; simp only [Act.put, List.setIfInBounds_toArray, List.set_cons_zero, List.set_cons_succ])
          ((try simp only [g3, Bool.not_true, Bool.not_false]); (iterate 4 (refine Rm.wpMix_plain rfl rfl ?_; go_big_quiet_step (fail); refine wpQuiet_nil ?_)))
          (refine Rm.wpMix_loadAgg (fun W9' h9 => mg_log HM.out h9) rfl rfl rfl Tryz.underlying40 (by kernel_rfl) ?_; simp only [Act.put, List.setIfInBounds_toArray, List.set_cons_zero, List.set_cons_succ])
          (refine Rm.wpMix_det rfl rfl rfl (enters Tryz.func76 (by kernel_rfl) rfl) (fun W9' h9 => c_end am m.log W9' (by omega) (by omega) (by omega)) rfl ?_; simp only [Act.put, List.setIfInBounds_toArray, List.set_cons_zero, List.set_cons_succ])
          ((iterate 1 (refine Rm.wpMix_plain rfl rfl ?_; go_big_quiet_step (fail); refine wpQuiet_nil ?_)); (refine Rm.wpMix_nilp rfl rfl rfl ?_; simp only [Act.put, List.setIfInBounds_toArray, List.set_cons_zero, List.set_cons_succ]); (iterate 2 (refine Rm.wpMix_plain rfl rfl ?_; go_big_quiet_step (fail); refine wpQuiet_nil ?_)))
          (refine Rm.wpMix_loadAgg (fun W9' h9 => kp_log HK.out.box h9) rfl rfl rfl Tryz.underlying40 (by kernel_rfl) ?_; simp only [Act.put, List.setIfInBounds_toArray, List.set_cons_zero, List.set_cons_succ])
          (refine Rm.wpMix_det rfl rfl rfl (enters Tryz.func76 (by kernel_rfl) rfl) (fun W9' h9 => c_end a r.log W9' (by omega) (by omega) (by omega)) rfl ?_; simp only [Act.put, List.setIfInBounds_toArray, List.set_cons_zero, List.set_cons_succ])
          ((iterate 1 (refine Rm.wpMix_plain rfl rfl ?_; go_big_quiet_step (fail); refine wpQuiet_nil ?_)); (try simp only [g4, Bool.not_true, Bool.not_false]); (iterate 2 (refine Rm.wpMix_plain rfl rfl ?_; go_big_quiet_step (fail); refine wpQuiet_nil ?_)))
          refine Rm.wpMix_nil ?_
          rintro w1 hW
          have xw1 : Ext W w1 := hW
          have K1 := Lib.hid (HK.out.keep xw1)
          have M1 := Lib.hid (xw1.box HM.out)
          clear HK HM hW xw1
          go_wp2
          cases gl : liveB r
          · have HF := Lib.hid (show r = stateR2 r m ∧ ([] : List Ot) = stateO2 r m by
              have hB : stateB r m = false := by
                simp only [stateB, gl, Bool.true_and, Bool.false_and, Bool.and_true, Bool.and_false, Bool.true_or, Bool.false_or, Bool.or_true, Bool.or_false, Bool.not_true, Bool.not_false]
              constructor <;> simp [stateR2, stateO2, hB])
            (refine Rm.wp_region_mix' (R := relE w1.heap.size) (fun _ _ _ => True) (fun _ _ _ _ _ hq => hq) 17 (by first | exact Nat.le_refl _ | omega | (simp; omega)) (by kernel_rfl) (by kernel_rfl) ?_; simp only [List.take_succ_cons, List.take_zero, List.drop_succ_cons, List.drop_zero])
            ((iterate 1 (refine Rm.wpMix_plain rfl rfl ?_; go_big_quiet_step (fail); refine wpQuiet_nil ?_)))
            (refine Rm.wpMix_det rfl rfl rfl (enters Tryz.func87 (by kernel_rfl) rfl) (fun W9' h9 => c_awake p a A qs.length c r _ W9' (Ext.box h9 K1.out.box)) rfl ?_; simp only [Act.put, List.setIfInBounds_toArray, List.set_cons_zero, List.set_cons_succ])
            ((try simp only [gl, Bool.not_true, Bool.not_false]); (iterate 2 (refine Rm.wpMix_plain rfl rfl ?_; go_big_quiet_step (fail); refine wpQuiet_nil ?_)); (iterate 12 (refine Rm.wpMix_skip rfl rfl ?_; simp only [Act.put, List.setIfInBounds_toArray, List.set_cons_zero, List.set_cons_succ])); (iterate 1 (refine Rm.wpMix_plain rfl rfl ?_; go_big_quiet_step (fail); refine wpQuiet_nil ?_)))
            refine Rm.wpMix_nil ?_
            rintro w2 hW
            have xw2 : Ext w1 w2 := hW
            have K2 := Lib.hid (K1.out.keep xw2)
            have M2 := Lib.hid (xw2.box M1.out)
            clear K1 M1 hW xw2
            go_wp2
            exact bodyPost_ret (v := .tuple #[]) (by simp [results, Tryz.results90, go_sem]) rfl ⟨rfl, K2.out.ko HF.out.1 HF.out.2⟩
          · have g5 : decide (m.view ≤ r.view) = true := by simp at g1 ⊢; omega
            have HF := Lib.hid (show r = stateR2 r m ∧ ([] : List Ot) = stateO2 r m by
              have hB : stateB r m = false := by
                have hlt : decide (r.view < m.view) = false := by simp at g5 ⊢; omega
                simp only [stateB, hlt, g4, Bool.true_and, Bool.false_and, Bool.and_true, Bool.and_false, Bool.true_or, Bool.false_or, Bool.or_true, Bool.or_false, Bool.not_true, Bool.not_false]
              constructor <;> simp [stateR2, stateO2, hB])
            (refine Rm.wp_region_mix' (R := relE w1.heap.size) (fun _ _ _ => True) (fun _ _ _ _ _ hq => hq) 17 (by first | exact Nat.le_refl _ | omega | (simp; omega)) (by kernel_rfl) (by kernel_rfl) ?_; simp only [List.take_succ_cons, List.take_zero, List.drop_succ_cons, List.drop_zero])
            ((iterate 1 (refine Rm.wpMix_plain rfl rfl ?_; go_big_quiet_step (fail); refine wpQuiet_nil ?_)))
            (refine Rm.wpMix_det rfl rfl rfl (enters Tryz.func87 (by kernel_rfl) rfl) (fun W9' h9 => c_awake p a A qs.length c r _ W9' (Ext.box h9 K1.out.box)) rfl ?_; simp only [Act.put, List.setIfInBounds_toArray, List.set_cons_zero, List.set_cons_succ])
            ((try simp only [gl, Bool.not_true, Bool.not_false]); (iterate 3 (refine Rm.wpMix_plain rfl rfl ?_; go_big_quiet_step (fail); refine wpQuiet_nil ?_)); (refine Rm.wpMix_load1 (fun W9' h9 => show W9'.cell? _ = some (.int .i64 m.view) from bx_cell (Ext.box h9 M1.out) 2) rfl rfl rfl Tryz.underlying3 rfl ?_; simp only [Act.put, List.setIfInBounds_toArray, List.set_cons_zero, List.set_cons_succ]); (iterate 1 (refine Rm.wpMix_plain rfl rfl ?_; go_big_quiet_step (fail); refine wpQuiet_nil ?_)); (refine Rm.wpMix_nilp rfl rfl rfl ?_; simp only [Act.put, List.setIfInBounds_toArray, List.set_cons_zero, List.set_cons_succ]); (iterate 2 (refine Rm.wpMix_plain rfl rfl ?_; go_big_quiet_step (fail); refine wpQuiet_nil ?_)); (refine Rm.wpMix_load1 (fun W9' h9 => show W9'.cell? _ = some (.int .i64 r.view) from bx_cell (Ext.box h9 K1.out.box) 3) rfl rfl rfl Tryz.underlying3 rfl ?_; simp only [Act.put, List.setIfInBounds_toArray, List.set_cons_zero, List.set_cons_succ]); (iterate 1 (refine Rm.wpMix_plain rfl rfl ?_; go_big_quiet_step (fail); refine wpQuiet_nil ?_)); (try simp only [g5, Bool.not_true, Bool.not_false]); (iterate 1 (refine Rm.wpMix_plain rfl rfl ?_; go_big_quiet_step (fail); refine wpQuiet_nil ?_)))
            ((iterate 4 (refine Rm.wpMix_plain rfl rfl ?_; go_big_quiet_step (fail); refine wpQuiet_nil ?_)))
            refine Rm.wpMix_nil ?_
            rintro w2 hW
            have xw2 : Ext w1 w2 := hW
            have K2 := Lib.hid (K1.out.keep xw2)
            have M2 := Lib.hid (xw2.box M1.out)
            clear K1 M1 hW xw2
            go_wp2
            exact bodyPost_ret (v := .tuple #[]) (by simp [results, Tryz.results90, go_sem]) rfl ⟨rfl, K2.out.ko HF.out.1 HF.out.2⟩
        · (refine Rm.wp_region_mix' (R := relE W.heap.size) (fun _ _ _ => True) (fun _ _ _ _ _ hq => hq) 34 (by first | exact Nat.le_refl _ | omega | (simp; omega)) (by kernel_rfl) (by kernel_rfl) ?_; simp only [List.take_succ_cons, List.take_zero, List.drop_succ_cons, List.drop_zero])
          ((iterate 1 (refine Rm.wpMix_plain rfl rfl ?_; go_big_quiet_step (fail); refine wpQuiet_nil ?_)); (refine Rm.wpMix_load1 (fun W9' h9 => show W9'.cell? _ = some (.int .i64 m.view) from bx_cell (Ext.box h9 HM.out) 2) rfl rfl rfl Tryz.underlying3 rfl ?_; simp only [Act.put, List.setIfInBounds_toArray, List.set_cons_zero, List.set_cons_succ]); (iterate 1 (refine Rm.wpMix_plain rfl rfl ?_; go_big_quiet_step (fail); refine wpQuiet_nil ?_)); (refine Rm.wpMix_nilp rfl rfl rfl ?_; simp only [Act.put, List.setIfInBounds_toArray, List.set_cons_zero, List.set_cons_succ]); (iterate 2 (refine Rm.wpMix_plain rfl rfl ?_; go_big_quiet_step (fail); refine wpQuiet_nil ?_)); (refine Rm.wpMix_load1 (fun W9' h9 => show W9'.cell? _ = some (.int .i64 r.view) from bx_cell (Ext.box h9 HK.out.box) 3) rfl rfl rfl Tryz.underlying3 rfl ?_; simp only [Act.put, List.setIfInBounds_toArray, List.set_cons_zero, List.set_cons_succ]); (iterate 1 (refine Rm.wpMix_plain rfl rfl ?_; go_big_quiet_step (fail); refine wpQuiet_nil ?_)); (try simp only [g1, Bool.not_true, Bool.not_false]); (iterate 2 (refine Rm.wpMix_plain rfl rfl ?_; go_big_quiet_step (fail); refine wpQuiet_nil ?_)); (refine Rm.wpMix_nilp rfl rfl rfl ?_; simp only [Act.put, List.setIfInBounds_toArray, List.set_cons_zero, List.set_cons_succ]); (iterate 2 (refine Rm.wpMix_plain rfl rfl ?_; go_big_quiet_step (fail); refine wpQuiet_nil ?_)); (refine Rm.wpMix_load1 (fun W9' h9 => show W9'.cell? _ = some (.int .i64 r.mode) from bx_cell (Ext.box h9 HK.out.box) 2) rfl rfl rfl Tryz.underlying3 rfl ?_; simp only [Act.put, List.setIfInBounds_toArray, List.set_cons_zero, List.set_cons_succ]); (iterate 1 (refine Rm.wpMix_plain rfl rfl ?_; go_big_quiet_step (fail); refine wpQuiet_nil ?_)); (try simp only [g2, Bool.not_true, Bool.not_false]); (iterate 3 (refine Rm.wpMix_plain rfl rfl ?_; go_big_quiet_step (fail); refine wpQuiet_nil ?_)))
          (refine Rm.wpMix_det rfl rfl rfl (enters Tryz.func91 (by kernel_rfl) rfl) (fun W9' h9 => c_isPrimary p a A qs.length c r _ W9' (Ext.box h9 HK.out.box) G.out.of hrv0) rfl ?_; simp only [Act.put, List.setIfInBounds_toArray, List.set_cons_zero, List.set_cons_succ])
          ((try simp only [g3, Bool.not_true, Bool.not_false]); (iterate 4 (refine Rm.wpMix_plain rfl rfl ?_; go_big_quiet_step (fail); refine wpQuiet_nil ?_)))
          (refine Rm.wpMix_loadAgg (fun W9' h9 => mg_log HM.out h9) rfl rfl rfl Tryz.underlying40 (by kernel_rfl) ?_; simp only [Act.put, List.setIfInBounds_toArray, List.set_cons_zero, List.set_cons_succ])
          (refine Rm.wpMix_det rfl rfl rfl (enters Tryz.func76 (by kernel_rfl) rfl) (fun W9' h9 => c_end am m.log W9' (by omega) (by omega) (by omega)) rfl ?_; simp only [Act.put, List.setIfInBounds_toArray, List.set_cons_zero, List.set_cons_succ])
          ((iterate 1 (refine Rm.wpMix_plain rfl rfl ?_; go_big_quiet_step (fail); refine wpQuiet_nil ?_)); (refine Rm.wpMix_nilp rfl rfl rfl ?_; simp only [Act.put, List.setIfInBounds_toArray, List.set_cons_zero, List.set_cons_succ]); (iterate 2 (refine Rm.wpMix_plain rfl rfl ?_; go_big_quiet_step (fail); refine wpQuiet_nil ?_)))
          (refine Rm.wpMix_loadAgg (fun W9' h9 => kp_log HK.out.box h9) rfl rfl rfl Tryz.underlying40 (by kernel_rfl) ?_; simp only [Act.put, List.setIfInBounds_toArray, List.set_cons_zero, List.set_cons_succ])
          (refine Rm.wpMix_det rfl rfl rfl (enters Tryz.func76 (by kernel_rfl) rfl) (fun W9' h9 => c_end a r.log W9' (by omega) (by omega) (by omega)) rfl ?_; simp only [Act.put, List.setIfInBounds_toArray, List.set_cons_zero, List.set_cons_succ])
          ((iterate 1 (refine Rm.wpMix_plain rfl rfl ?_; go_big_quiet_step (fail); refine wpQuiet_nil ?_)); (try simp only [g4, Bool.not_true, Bool.not_false]); (iterate 2 (refine Rm.wpMix_plain rfl rfl ?_; go_big_quiet_step (fail); refine wpQuiet_nil ?_)))
          refine Rm.wpMix_nil ?_
          rintro w1 hW
          have xw1 : Ext W w1 := hW
          have K1 := Lib.hid (HK.out.keep xw1)
          have M1 := Lib.hid (xw1.box HM.out)
          clear HK HM hW xw1
          go_wp2
          cases gl : liveB r
          · have HF := Lib.hid (show r = stateR2 r m ∧ ([] : List Ot) = stateO2 r m by
              have hB : stateB r m = false := by
                simp only [stateB, gl, Bool.true_and, Bool.false_and, Bool.and_true, Bool.and_false, Bool.true_or, Bool.false_or, Bool.or_true, Bool.or_false, Bool.not_true, Bool.not_false]
              constructor <;> simp [stateR2, stateO2, hB])
            (refine Rm.wp_region_mix' (R := relE w1.heap.size) (fun _ _ _ => True) (fun _ _ _ _ _ hq => hq) 17 (by first | exact Nat.le_refl _ | omega | (simp; omega)) (by kernel_rfl) (by kernel_rfl) ?_; simp only [List.take_succ_cons, List.take_zero, List.drop_succ_cons, List.drop_zero])
            ((iterate 1 (refine Rm.wpMix_plain rfl rfl ?_; go_big_quiet_step (fail); refine wpQuiet_nil ?_)))
            (refine Rm.wpMix_det rfl rfl rfl (enters Tryz.func87 (by kernel_rfl) rfl) (fun W9' h9 => c_awake p a A qs.length c r _ W9' (Ext.box h9 K1.out.box)) rfl ?_; simp only [Act.put, List.setIfInBounds_toArray, List.set_cons_zero, List.set_cons_succ])
            ((try simp only [gl, Bool.not_true, Bool.not_false]); (iterate 2 (refine Rm.wpMix_plain rfl rfl ?_; go_big_quiet_step (fail); refine wpQuiet_nil ?_)); (iterate 12 (refine Rm.wpMix_skip rfl rfl ?_; simp only [Act.put, List.setIfInBounds_toArray, List.set_cons_zero, List.set_cons_succ])); (iterate 1 (refine Rm.wpMix_plain rfl rfl ?_; go_big_quiet_step (fail); refine wpQuiet_nil ?_)))
            refine Rm.wpMix_nil ?_
            rintro w2 hW
            have xw2 : Ext w1 w2 := hW
            have K2 := Lib.hid (K1.out.keep xw2)
            have M2 := Lib.hid (xw2.box M1.out)
            clear K1 M1 hW xw2
            go_wp2
            exact bodyPost_ret (v := .tuple #[]) (by simp [results, Tryz.results90, go_sem]) rfl ⟨rfl, K2.out.ko HF.out.1 HF.out.2⟩
          · have g5 : decide (m.view ≤ r.view) = true := by simp at g1 ⊢; omega
            have hB : stateB r m = true := by
              have hlt : decide (r.view < m.view) = false := by simp at g5 ⊢; omega
              simp only [stateB, gl, hlt, g1, g2, g3, g4, Bool.true_and, Bool.false_and, Bool.and_true, Bool.and_false, Bool.true_or, Bool.false_or, Bool.or_true, Bool.or_false, Bool.not_true, Bool.not_false]
            obtain ⟨R2, hR2⟩ : ∃ R2, r.lead m.view m.log (max m.commit r.commit) = R2 := ⟨_, rfl⟩
            have HF := Lib.hid (show R2 = stateR2 r m ∧ (if (m.frm == m.view % r.of) = true then ([⟨m.frm, okM R2⟩] : List Ot) else []) = stateO2 r m by
              constructor <;> simp [stateR2, stateO2, hB, hR2])
            have hRv : R2.view = m.view := by rw [← hR2]; rfl
            have hRo : R2.of = r.of := by rw [← hR2]; rfl
            have hRl : R2.log = m.log := by rw [← hR2]; rfl
            have HR2 := Lib.hid hR2
            have HRv := Lib.hid hRv
            have HRo := Lib.hid hRo
            have HRl := Lib.hid hRl
            have hp1 : R2.of ≠ 0 := by rw [hRo]; exact ho'
            have hp2 : (R2.of == 0) = false := by rw [hRo]; exact ho2
            have hp3 : 0 ≤ R2.view := by rw [hRv]; exact hv0
            clear hR2 hRv hRo hRl hB
            (refine Rm.wp_region_mix' (R := relE w1.heap.size) (fun _ _ _ => True) (fun _ _ _ _ _ hq => hq) 17 (by first | exact Nat.le_refl _ | omega | (simp; omega)) (by kernel_rfl) (by kernel_rfl) ?_; simp only [List.take_succ_cons, List.take_zero, List.drop_succ_cons, List.drop_zero])
            ((iterate 1 (refine Rm.wpMix_plain rfl rfl ?_; go_big_quiet_step (fail); refine wpQuiet_nil ?_)))
            (refine Rm.wpMix_det rfl rfl rfl (enters Tryz.func87 (by kernel_rfl) rfl) (fun W9' h9 => c_awake p a A qs.length c r _ W9' (Ext.box h9 K1.out.box)) rfl ?_; simp only [Act.put, List.setIfInBounds_toArray, List.set_cons_zero, List.set_cons_succ])
            ((try simp only [gl, Bool.not_true, Bool.not_false]); (iterate 3 (refine Rm.wpMix_plain rfl rfl ?_; go_big_quiet_step (fail); refine wpQuiet_nil ?_)); (refine Rm.wpMix_load1 (fun W9' h9 => show W9'.cell? _ = some (.int .i64 m.view) from bx_cell (Ext.box h9 M1.out) 2) rfl rfl rfl Tryz.underlying3 rfl ?_; simp only [Act.put, List.setIfInBounds_toArray, List.set_cons_zero, List.set_cons_succ]); (iterate 1 (refine Rm.wpMix_plain rfl rfl ?_; go_big_quiet_step (fail); refine wpQuiet_nil ?_)); (refine Rm.wpMix_nilp rfl rfl rfl ?_; simp only [Act.put, List.setIfInBounds_toArray, List.set_cons_zero, List.set_cons_succ]); (iterate 2 (refine Rm.wpMix_plain rfl rfl ?_; go_big_quiet_step (fail); refine wpQuiet_nil ?_)); (refine Rm.wpMix_load1 (fun W9' h9 => show W9'.cell? _ = some (.int .i64 r.view) from bx_cell (Ext.box h9 K1.out.box) 3) rfl rfl rfl Tryz.underlying3 rfl ?_; simp only [Act.put, List.setIfInBounds_toArray, List.set_cons_zero, List.set_cons_succ]); (iterate 1 (refine Rm.wpMix_plain rfl rfl ?_; go_big_quiet_step (fail); refine wpQuiet_nil ?_)); (try simp only [g5, Bool.not_true, Bool.not_false]); (iterate 1 (refine Rm.wpMix_plain rfl rfl ?_; go_big_quiet_step (fail); refine wpQuiet_nil ?_)))
            ((iterate 4 (refine Rm.wpMix_plain rfl rfl ?_; go_big_quiet_step (fail); refine wpQuiet_nil ?_)))
            refine Rm.wpMix_nil ?_
            rintro w2 hW
            have xw2 : Ext w1 w2 := hW
            have K2 := Lib.hid (K1.out.keep xw2)
            have M2 := Lib.hid (xw2.box M1.out)
            clear K1 M1 hW xw2
            go_wp2
            (refine Rm.wp_region_mix' (R := relE w2.heap.size) (fun _ _ _ => True) (fun _ _ _ _ _ hq => hq) 13 (by first | exact Nat.le_refl _ | omega | (simp; omega)) (by kernel_rfl) (by kernel_rfl) ?_; simp only [List.take_succ_cons, List.take_zero, List.drop_succ_cons, List.drop_zero])
            ((iterate 2 (refine Rm.wpMix_plain rfl rfl ?_; go_big_quiet_step (fail); refine wpQuiet_nil ?_)); (refine Rm.wpMix_load1 (fun W9' h9 => show W9'.cell? _ = some (.int .i64 m.view) from bx_cell (Ext.box h9 M2.out) 2) rfl rfl rfl Tryz.underlying3 rfl ?_; simp only [Act.put, List.setIfInBounds_toArray, List.set_cons_zero, List.set_cons_succ]); (iterate 1 (refine Rm.wpMix_plain rfl rfl ?_; go_big_quiet_step (fail); refine wpQuiet_nil ?_)))
            (refine Rm.wpMix_loadAgg (fun W9' h9 => mg_log M2.out h9) rfl rfl rfl Tryz.underlying40 (by kernel_rfl) ?_; simp only [Act.put, List.setIfInBounds_toArray, List.set_cons_zero, List.set_cons_succ])
            ((iterate 1 (refine Rm.wpMix_plain rfl rfl ?_; go_big_quiet_step (fail); refine wpQuiet_nil ?_)); (refine Rm.wpMix_load1 (fun W9' h9 => show W9'.cell? _ = some (.int .i64 m.commit) from bx_cell (Ext.box h9 M2.out) 4) rfl rfl rfl Tryz.underlying3 rfl ?_; simp only [Act.put, List.setIfInBounds_toArray, List.set_cons_zero, List.set_cons_succ]); (iterate 1 (refine Rm.wpMix_plain rfl rfl ?_; go_big_quiet_step (fail); refine wpQuiet_nil ?_)); (refine Rm.wpMix_nilp rfl rfl rfl ?_; simp only [Act.put, List.setIfInBounds_toArray, List.set_cons_zero, List.set_cons_succ]); (iterate 2 (refine Rm.wpMix_plain rfl rfl ?_; go_big_quiet_step (fail); refine wpQuiet_nil ?_)); (refine Rm.wpMix_load1 (fun W9' h9 => show W9'.cell? _ = some (.int .i64 r.commit) from bx_cell (Ext.box h9 K2.out.box) 5) rfl rfl rfl Tryz.underlying3 rfl ?_; simp only [Act.put, List.setIfInBounds_toArray, List.set_cons_zero, List.set_cons_succ]); (iterate 1 (refine Rm.wpMix_plain rfl rfl ?_; go_big_quiet_step (fail); refine wpQuiet_nil ?_)))
            refine Rm.wpMix_nil ?_
            rintro w3 hW
            have K3 := Lib.hid (K2.out.keep (show Ext w2 w3 from hW))
            clear K2 M2 hW
            go_wp2_with fail
            refine (c_lead K3.out m.view am m.log (max m.commit r.commit) (fun W hc => K3.out.hear HML.out hc) hms hl0 hl1 hl2).mono ?_
            rintro e w4 ⟨rfl, a4, k4⟩
            have K4 := Lib.hid (show KZ W0 w4 p a4 none 0 [] R2 Ao co [] from by rw [← HR2.out]; exact k4)
            have M4 := Lib.hid (k4.x.box HP.out)
            clear k4 K3
            go_wp2
            cases g6 : (m.frm == R2.view % R2.of)
            · have HF2 := Lib.hid (show ([] : List Ot) = stateO2 r m by rw [← HF.out.2, ← HRv.out, ← HRo.out, g6]; rfl)
              (refine Rm.wp_region_mix' (R := relE w4.heap.size) (fun _ _ _ => True) (fun _ _ _ _ _ hq => hq) 14 (by first | exact Nat.le_refl _ | omega | (simp; omega)) (by kernel_rfl) (by kernel_rfl) ?_; simp only [List.take_succ_cons, List.take_zero, List.drop_succ_cons, List.drop_zero])
              ((iterate 1 (refine Rm.wpMix_plain rfl rfl ?_; go_big_quiet_step (fail); refine wpQuiet_nil ?_)); (refine Rm.wpMix_load1 (fun W9' h9 => show W9'.cell? _ = some (.int .i64 m.frm) from bx_cell (Ext.box h9 M4.out) 1) rfl rfl rfl Tryz.underlying3 rfl ?_; simp only [Act.put, List.setIfInBounds_toArray, List.set_cons_zero, List.set_cons_succ]); (iterate 1 (refine Rm.wpMix_plain rfl rfl ?_; go_big_quiet_step (fail); refine wpQuiet_nil ?_)); (refine Rm.wpMix_nilp rfl rfl rfl ?_; simp only [Act.put, List.setIfInBounds_toArray, List.set_cons_zero, List.set_cons_succ]); (iterate 2 (refine Rm.wpMix_plain rfl rfl ?_; go_big_quiet_step (fail); refine wpQuiet_nil ?_)); (refine Rm.wpMix_load1 (fun W9' h9 => show W9'.cell? _ = some (.int .i64 R2.view) from bx_cell (Ext.box h9 K4.out.box) 3) rfl rfl rfl Tryz.underlying3 rfl ?_; simp only [Act.put, List.setIfInBounds_toArray, List.set_cons_zero, List.set_cons_succ]); (iterate 1 (refine Rm.wpMix_plain rfl rfl ?_; go_big_quiet_step (fail); refine wpQuiet_nil ?_)); (refine Rm.wpMix_nilp rfl rfl rfl ?_; simp only [Act.put, List.setIfInBounds_toArray, List.set_cons_zero, List.set_cons_succ]); (iterate 2 (refine Rm.wpMix_plain rfl rfl ?_; go_big_quiet_step (fail); refine wpQuiet_nil ?_)); (refine Rm.wpMix_load1 (fun W9' h9 => show W9'.cell? _ = some (.int .i64 R2.of) from bx_cell (Ext.box h9 K4.out.box) 1) rfl rfl rfl Tryz.underlying3 rfl ?_; simp only [Act.put, List.setIfInBounds_toArray, List.set_cons_zero, List.set_cons_succ]); (iterate 1 (refine Rm.wpMix_plain rfl rfl ?_; go_big_quiet_step (fail); refine wpQuiet_nil ?_)))
              ((iterate 1 (refine Rm.wpMix_plain rfl rfl ?_; go_big_quiet_step (fail); refine wpQuiet_nil ?_)); (try simp only [g6, Bool.not_true, Bool.not_false]))
              refine Rm.wpMix_nil ?_
              rintro w5 hW
              have x5 : Ext w4 w5 := hW
              have K5 := Lib.hid (K4.out.keep x5)
              have M5 := Lib.hid (x5.box M4.out)
              clear K4 M4 x5 hW
              go_wp2
              exact bodyPost_end (v := .tuple #[]) (by simp [results, Tryz.results90, go_sem]) rfl ⟨rfl, K5.out.ko HF.out.1 HF2.out⟩
            · have HF2 := Lib.hid (show ([⟨m.frm, okM R2⟩] : List Ot) = stateO2 r m by rw [← HF.out.2, ← HRv.out, ← HRo.out, g6]; rfl)
              (refine Rm.wp_region_mix' (R := relE w4.heap.size) (fun _ _ _ => True) (fun _ _ _ _ _ hq => hq) 14 (by first | exact Nat.le_refl _ | omega | (simp; omega)) (by kernel_rfl) (by kernel_rfl) ?_; simp only [List.take_succ_cons, List.take_zero, List.drop_succ_cons, List.drop_zero])
              ((iterate 1 (refine Rm.wpMix_plain rfl rfl ?_; go_big_quiet_step (fail); refine wpQuiet_nil ?_)); (refine Rm.wpMix_load1 (fun W9' h9 => show W9'.cell? _ = some (.int .i64 m.frm) from bx_cell (Ext.box h9 M4.out) 1) rfl rfl rfl Tryz.underlying3 rfl ?_; simp only [Act.put, List.setIfInBounds_toArray, List.set_cons_zero, List.set_cons_succ]); (iterate 1 (refine Rm.wpMix_plain rfl rfl ?_; go_big_quiet_step (fail); refine wpQuiet_nil ?_)); (refine Rm.wpMix_nilp rfl rfl rfl ?_; simp only [Act.put, List.setIfInBounds_toArray, List.set_cons_zero, List.set_cons_succ]); (iterate 2 (refine Rm.wpMix_plain rfl rfl ?_; go_big_quiet_step (fail); refine wpQuiet_nil ?_)); (refine Rm.wpMix_load1 (fun W9' h9 => show W9'.cell? _ = some (.int .i64 R2.view) from bx_cell (Ext.box h9 K4.out.box) 3) rfl rfl rfl Tryz.underlying3 rfl ?_; simp only [Act.put, List.setIfInBounds_toArray, List.set_cons_zero, List.set_cons_succ]); (iterate 1 (refine Rm.wpMix_plain rfl rfl ?_; go_big_quiet_step (fail); refine wpQuiet_nil ?_)); (refine Rm.wpMix_nilp rfl rfl rfl ?_; simp only [Act.put, List.setIfInBounds_toArray, List.set_cons_zero, List.set_cons_succ]); (iterate 2 (refine Rm.wpMix_plain rfl rfl ?_; go_big_quiet_step (fail); refine wpQuiet_nil ?_)); (refine Rm.wpMix_load1 (fun W9' h9 => show W9'.cell? _ = some (.int .i64 R2.of) from bx_cell (Ext.box h9 K4.out.box) 1) rfl rfl rfl Tryz.underlying3 rfl ?_; simp only [Act.put, List.setIfInBounds_toArray, List.set_cons_zero, List.set_cons_succ]); (iterate 1 (refine Rm.wpMix_plain rfl rfl ?_; go_big_quiet_step (fail); refine wpQuiet_nil ?_)))
              ((iterate 1 (refine Rm.wpMix_plain rfl rfl ?_; go_big_quiet_step (fail); refine wpQuiet_nil ?_)); (try simp only [g6, Bool.not_true, Bool.not_false]))
              refine Rm.wpMix_nil ?_
              rintro w5 hW
              have x5 : Ext w4 w5 := hW
              have K5 := Lib.hid (K4.out.keep x5)
              have M5 := Lib.hid (x5.box M4.out)
              clear K4 M4 x5 hW
              have d5 := bx_cell M5.out
              have z5 := bx_lt M5.out
              go_wp2_with fail
              refine (c_ok K5.out m.frm (by simp) (by rw [HRl.out]; exact hl0) (by rw [HRl.out]; exact hl1) (by rw [HRl.out]; exact hl2)).mono ?_
              rintro e w6 ⟨rfl, A6, c6, a6, k6⟩
              have K6 := Lib.hid k6
              clear k6 K5 d5 z5
              go_wp2
              exact bodyPost_end (v := .tuple #[]) (by simp [results, Tryz.results90, go_sem]) rfl ⟨rfl, K6.out.ko HF.out.1 HF2.out⟩
      · (refine Rm.wp_region_mix' (R := relE W.heap.size) (fun _ _ _ => True) (fun _ _ _ _ _ hq => hq) 34 (by first | exact Nat.le_refl _ | omega | (simp; omega)) (by kernel_rfl) (by kernel_rfl) ?_; simp only [List.take_succ_cons, List.take_zero, List.drop_succ_cons, List.drop_zero])
        ((iterate 1 (refine Rm.wpMix_plain rfl rfl ?_; go_big_quiet_step (fail); refine wpQuiet_nil ?_)); (refine Rm.wpMix_load1 (fun W9' h9 => show W9'.cell? _ = some (.int .i64 m.view) from bx_cell (Ext.box h9 HM.out) 2) rfl rfl rfl Tryz.underlying3 rfl ?_; simp only [Act.put, List.setIfInBounds_toArray, List.set_cons_zero, List.set_cons_succ]); (iterate 1 (refine Rm.wpMix_plain rfl rfl ?_; go_big_quiet_step (fail); refine wpQuiet_nil ?_)); (refine Rm.wpMix_nilp rfl rfl rfl ?_; simp only [Act.put, List.setIfInBounds_toArray, List.set_cons_zero, List.set_cons_succ]); (iterate 2 (refine Rm.wpMix_plain rfl rfl ?_; go_big_quiet_step (fail); refine wpQuiet_nil ?_)); (refine Rm.wpMix_load1 (fun W9' h9 => show W9'.cell? _ = some (.int .i64 r.view) from bx_cell (Ext.box h9 HK.out.box) 3) rfl rfl rfl Tryz.underlying3 rfl ?_; simp only [Act.put, List.setIfInBounds_toArray, List.set_cons_zero, List.set_cons_succ]); (iterate 1 (refine Rm.wpMix_plain rfl rfl ?_; go_big_quiet_step (fail); refine wpQuiet_nil ?_)); (try simp only [g1, Bool.not_true, Bool.not_false]); (iterate 2 (refine Rm.wpMix_plain rfl rfl ?_; go_big_quiet_step (fail); refine wpQuiet_nil ?_)); (refine Rm.wpMix_nilp rfl rfl rfl ?_; simp only [Act.put, List.setIfInBounds_toArray, List.set_cons_zero, List.set_cons_succ]); (iterate 2 (refine Rm.wpMix_plain rfl rfl ?_; go_big_quiet_step (fail); refine wpQuiet_nil ?_)); (refine Rm.wpMix_load1 (fun W9' h9 => show W9'.cell? _ = some (.int .i64 r.mode) from bx_cell (Ext.box h9 HK.out.box) 2) rfl rfl rfl Tryz.underlying3 rfl ?_; simp only [Act.put, List.setIfInBounds_toArray, List.set_cons_zero, List.set_cons_succ]); (iterate 1 (refine Rm.wpMix_plain rfl rfl ?_; go_big_quiet_step (fail); refine wpQuiet_nil ?_)); (try simp only [g2, Bool.not_true, Bool.not_false]); (iterate 3 (refine Rm.wpMix_plain rfl rfl ?_; go_big_quiet_step (fail); refine wpQuiet_nil ?_)))
        (refine Rm.wpMix_det rfl rfl rfl (enters Tryz.func91 (by kernel_rfl) rfl) (fun W9' h9 => c_isPrimary p a A qs.length c r _ W9' (Ext.box h9 HK.out.box) G.out.of hrv0) rfl ?_; simp only [Act.put, List.setIfInBounds_toArray, List.set_cons_zero, List.set_cons_succ])
        ((try simp only [g3, Bool.not_true, Bool.not_false]); (iterate 3 (refine Rm.wpMix_plain rfl rfl ?_; go_big_quiet_step (fail); refine wpQuiet_nil ?_)); (iterate 10 (refine Rm.wpMix_skip rfl rfl ?_; simp only [Act.put, List.setIfInBounds_toArray, List.set_cons_zero, List.set_cons_succ])); (iterate 2 (refine Rm.wpMix_plain rfl rfl ?_; go_big_quiet_step (fail); refine wpQuiet_nil ?_)))
        refine Rm.wpMix_nil ?_
        rintro w1 hW
        have xw1 : Ext W w1 := hW
        have K1 := Lib.hid (HK.out.keep xw1)
        have M1 := Lib.hid (xw1.box HM.out)
        clear HK HM hW xw1
        go_wp2
        cases gl : liveB r
        · have HF := Lib.hid (show r = stateR2 r m ∧ ([] : List Ot) = stateO2 r m by
            have hB : stateB r m = false := by
              simp only [stateB, gl, Bool.true_and, Bool.false_and, Bool.and_true, Bool.and_false, Bool.true_or, Bool.false_or, Bool.or_true, Bool.or_false, Bool.not_true, Bool.not_false]
            constructor <;> simp [stateR2, stateO2, hB])
          (refine Rm.wp_region_mix' (R := relE w1.heap.size) (fun _ _ _ => True) (fun _ _ _ _ _ hq => hq) 17 (by first | exact Nat.le_refl _ | omega | (simp; omega)) (by kernel_rfl) (by kernel_rfl) ?_; simp only [List.take_succ_cons, List.take_zero, List.drop_succ_cons, List.drop_zero])
          ((iterate 1 (refine Rm.wpMix_plain rfl rfl ?_; go_big_quiet_step (fail); refine wpQuiet_nil ?_)))
          (refine Rm.wpMix_det rfl rfl rfl (enters Tryz.func87 (by kernel_rfl) rfl) (fun W9' h9 => c_awake p a A qs.length c r _ W9' (Ext.box h9 K1.out.box)) rfl ?_; simp only [Act.put, List.setIfInBounds_toArray, List.set_cons_zero, List.set_cons_succ])
          ((try simp only [gl, Bool.not_true, Bool.not_false]); (iterate 2 (refine Rm.wpMix_plain rfl rfl ?_; go_big_quiet_step (fail); refine wpQuiet_nil ?_)); (iterate 12 (refine Rm.wpMix_skip rfl rfl ?_; simp only [Act.put, List.setIfInBounds_toArray, List.set_cons_zero, List.set_cons_succ])); (iterate 1 (refine Rm.wpMix_plain rfl rfl ?_; go_big_quiet_step (fail); refine wpQuiet_nil ?_)))
          refine Rm.wpMix_nil ?_
          rintro w2 hW
          have xw2 : Ext w1 w2 := hW
          have K2 := Lib.hid (K1.out.keep xw2)
          have M2 := Lib.hid (xw2.box M1.out)
          clear K1 M1 hW xw2
          go_wp2
          exact bodyPost_ret (v := .tuple #[]) (by simp [results, Tryz.results90, go_sem]) rfl ⟨rfl, K2.out.ko HF.out.1 HF.out.2⟩
        · have g5 : decide (m.view ≤ r.view) = true := by simp at g1 ⊢; omega
          have HF := Lib.hid (show r = stateR2 r m ∧ ([] : List Ot) = stateO2 r m by
            have hB : stateB r m = false := by
              have hlt : decide (r.view < m.view) = false := by simp at g5 ⊢; omega
              simp only [stateB, hlt, g3, Bool.true_and, Bool.false_and, Bool.and_true, Bool.and_false, Bool.true_or, Bool.false_or, Bool.or_true, Bool.or_false, Bool.not_true, Bool.not_false]
            constructor <;> simp [stateR2, stateO2, hB])
          (refine Rm.wp_region_mix' (R := relE w1.heap.size) (fun _ _ _ => True) (fun _ _ _ _ _ hq => hq) 17 (by first | exact Nat.le_refl _ | omega | (simp; omega)) (by kernel_rfl) (by kernel_rfl) ?_; simp only [List.take_succ_cons, List.take_zero, List.drop_succ_cons, List.drop_zero])
          ((iterate 1 (refine Rm.wpMix_plain rfl rfl ?_; go_big_quiet_step (fail); refine wpQuiet_nil ?_)))
          (refine Rm.wpMix_det rfl rfl rfl (enters Tryz.func87 (by kernel_rfl) rfl) (fun W9' h9 => c_awake p a A qs.length c r _ W9' (Ext.box h9 K1.out.box)) rfl ?_; simp only [Act.put, List.setIfInBounds_toArray, List.set_cons_zero, List.set_cons_succ])
          ((try simp only [gl, Bool.not_true, Bool.not_false]); (iterate 3 (refine Rm.wpMix_plain rfl rfl ?_; go_big_quiet_step (fail); refine wpQuiet_nil ?_)); (refine Rm.wpMix_load1 (fun W9' h9 => show W9'.cell? _ = some (.int .i64 m.view) from bx_cell (Ext.box h9 M1.out) 2) rfl rfl rfl Tryz.underlying3 rfl ?_; simp only [Act.put, List.setIfInBounds_toArray, List.set_cons_zero, List.set_cons_succ]); (iterate 1 (refine Rm.wpMix_plain rfl rfl ?_; go_big_quiet_step (fail); refine wpQuiet_nil ?_)); (refine Rm.wpMix_nilp rfl rfl rfl ?_; simp only [Act.put, List.setIfInBounds_toArray, List.set_cons_zero, List.set_cons_succ]); (iterate 2 (refine Rm.wpMix_plain rfl rfl ?_; go_big_quiet_step (fail); refine wpQuiet_nil ?_)); (refine Rm.wpMix_load1 (fun W9' h9 => show W9'.cell? _ = some (.int .i64 r.view) from bx_cell (Ext.box h9 K1.out.box) 3) rfl rfl rfl Tryz.underlying3 rfl ?_; simp only [Act.put, List.setIfInBounds_toArray, List.set_cons_zero, List.set_cons_succ]); (iterate 1 (refine Rm.wpMix_plain rfl rfl ?_; go_big_quiet_step (fail); refine wpQuiet_nil ?_)); (try simp only [g5, Bool.not_true, Bool.not_false]); (iterate 1 (refine Rm.wpMix_plain rfl rfl ?_; go_big_quiet_step (fail); refine wpQuiet_nil ?_)))
          ((iterate 4 (refine Rm.wpMix_plain rfl rfl ?_; go_big_quiet_step (fail); refine wpQuiet_nil ?_)))
          refine Rm.wpMix_nil ?_
          rintro w2 hW
          have xw2 : Ext w1 w2 := hW
          have K2 := Lib.hid (K1.out.keep xw2)
          have M2 := Lib.hid (xw2.box M1.out)
          clear K1 M1 hW xw2
          go_wp2
          exact bodyPost_ret (v := .tuple #[]) (by simp [results, Tryz.results90, go_sem]) rfl ⟨rfl, K2.out.ko HF.out.1 HF.out.2⟩
end
end Go.Proofs.YtkenlhdiehaemaaGreat
