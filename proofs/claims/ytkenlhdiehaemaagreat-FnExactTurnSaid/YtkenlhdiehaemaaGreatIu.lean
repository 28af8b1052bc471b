/- Turn of the program. -/
import Derived.Test.YtkenlhdiehaemaaGreatK4
import Derived.Test.YtkenlhdiehaemaaGreatGq
namespace Go.Proofs.YtkenlhdiehaemaaGreat
open Go.ChangeShapes Go.WideShapes Go.ChangeAt Go.RowKit Go.Sort
set_option linter.unusedVariables false
set_option linter.unusedSimpArgs false

/-- what the keeper holds goes out: the last region of Turn -/
theorem turn_no {r : Rp} (h : rpOk r = true) (hb : turnB r = false) : turnR r = r ∧ turnO r = [] := by
  constructor
  · unfold turnR; rw [if_pos h, hb]; rfl
  · unfold turnO; rw [h, hb]; rfl
theorem turn_yes {r : Rp} (h : rpOk r = true) (hb : turnB r = true) : turnR r = beginR r (r.view + 1) ∧ turnO r = beginO r (r.view + 1) := by
  constructor
  · unfold turnR; rw [if_pos h, hb]; rfl
  · unfold turnO; rw [h, hb]; rfl

set_option maxRecDepth 100000 in
set_option maxHeartbeats 8000000 in
theorem c_iTurn (a : LAd) (A : Option Addr) (c : Nat) (ps : List VtE) (r : Rp) (w : World) (hr : RpR w a A c ps r) (hs : r.log.small) (hn : ps.length ≤ 1048576) (hv : LgS ps) :
    Calls Tryz.prog 36 #[Rp.val a A ps.length c r] w fun e w' => ∃ v, e = .returned v ∧ RoY w' w.heap.size (turnR r) (turnO r) v ∧ Ext w w' := by
  have X0 : Ext w ((w.alloc (Rp.obj a A ps.length c r)).alloc Rp.zobj) := ext_to (ext_alloc _ _) _
  have hcon := c_iReplicaOk a A c ps r _ (hr.keep X0) hs hn hv
  have HCp := Lib.hid (fun W (h : Ext w W) => c_copyReplica a A c ps r W (hr.keep h) hs hn hv)
  have D1 := Lib.hid (hOld (o := Rp.zobj) (hNew (w := w) (o := Rp.obj a A ps.length c r) rfl))
  have D3 := Lib.hid (hNew (w := w.alloc (Rp.obj a A ps.length c r)) (o := Rp.zobj) (k := w.heap.size + 1) (by simp))
  have HX0 := Lib.hid X0
  clear X0 hr hv hs
  cases q : rpOk r
  · rw [q] at hcon
    have HC := Lib.hid hcon
    have HR := Lib.hid (show turnR r = Rp.zero ∧ turnO r = [] by simp [turnR, turnO, q])
    clear q hcon HCp
    go_enter Tryz.func36, Tryz.ntmps36
    (go_wp2_with (with_reducible refine wl_stop 5 ?_); refine stop_load (D1.out) rfl Tryz.underlying43 (by kernel_rfl) ?_; simp only [Act.put, List.setIfInBounds_toArray, List.set_cons_zero, List.set_cons_succ])
    go_wp2_with fail
    refine HC.out.mono ?_
    rintro e w1 ⟨rfl, x1⟩
    have HB := Lib.hid (x1.box D3.out)
    (go_wp2_with (with_reducible refine wl_stopS 43 ?_); refine stop_store ((w.heap.size + 1)) #[.int .i64 0, .int .i64 0, .int .i64 0, .int .i64 0, .int .i64 0, .int .i64 0, .int .i64 0, .slice none 0 0, .slice none 0 0, .slice none 0 0, .slice none 0 0, .int .i64 0, .int .i64 0] rfl rfl (HB.out) (by kernel_rfl) rfl (by simp [Value.oneCell']) ?_)
    intro W4 E4 C4
    have hX4 := Lib.hid (chg_new (Ext.trans HX0.out x1) C4 (by omega))
    go_wp2
    refine bodyPost_ret (results_box2 Tryz.results36 rfl rfl Tryz.underlying43 (by kernel_rfl) E4) rfl ⟨_, rfl, ?_, hX4.out⟩
    rw [HR.out.1, HR.out.2]
    exact ⟨LAd.none, none, 0, [], none, 0, [], rfl, RpO.none _ _ _ _ rfl rfl, OsO.nil _ _ _, rfl, by simp [vsF, LAd.fp, LAd.none, blk]⟩
  · rw [q] at hcon
    have HC := Lib.hid hcon
    have HL := Lib.hid (show liveB r = true → RpT r from fun h => rpOk_T q h)
    have HN := Lib.hid (turn_no q)
    have HY := Lib.hid (turn_yes q)
    have hg := rpOk_good q
    have hv0 := hg.view0
    have hv1 := hg.view1
    clear q hcon hg
    go_enter Tryz.func36, Tryz.ntmps36
    (go_wp2_with (with_reducible refine wl_stop 5 ?_); refine stop_load (D1.out) rfl Tryz.underlying43 (by kernel_rfl) ?_; simp only [Act.put, List.setIfInBounds_toArray, List.set_cons_zero, List.set_cons_succ])
    go_wp2_with fail
    refine HC.out.mono ?_
    rintro e v1 ⟨rfl, x1⟩
    have B1 := Lib.hid (x1.box D1.out)
    have B3 := Lib.hid (x1.box D3.out)
    have X1 := Lib.hid (Ext.trans HX0.out x1)
    have hs01 := HX0.out.size
    clear D1 D3 HX0 HC x1
    (go_wp2_with (with_reducible refine wl_stop 9 ?_); refine stop_load (B1.out) rfl Tryz.underlying43 (by kernel_rfl) ?_; simp only [Act.put, List.setIfInBounds_toArray, List.set_cons_zero, List.set_cons_succ])
    go_wp2_with fail
    refine (HCp.out _ X1.out).mono ?_
    rintro e w2 ⟨a', A', c', qs, rfl, hql, o2, x2⟩
    have HL2 := Lib.hid hql
    have hs2 := X1.out.size
    have hs12 := x2.size
    have hlt2 := bx_lt B3.out
    have hoa := o2.kept (ext_alloc w2 (Kp.obj a' A' ps.length c' r (.slice none 0 0)))
    have hka : KZ v1 (w2.alloc (Kp.obj a' A' ps.length c' r (.slice none 0 0))) w2.heap.size a' A' c' qs r none 0 [] := ⟨by rw [HL2.out]; exact hNew rfl, Ext.trans x2 (ext_alloc _ _), x2.size, hoa.wide (Nat.le_refl _) (by simp), World.ownsRow_nil _ _ _ _, OsQ.nil _ _, by simp⟩
    have HK0 := Lib.hid hka
    clear o2 x2 hql B1 HCp hoa hka
    go_wp2_with fail
    refine (c_awake w2.heap.size a' A' qs.length c' r _ _ HK0.out.box).mono ?_
    rintro e w3 ⟨rfl, x3⟩
    have K3 := Lib.hid (HK0.out.keep x3)
    clear x3 HK0
    cases gl : liveB r
    · have HF := Lib.hid (HN.out (by unfold turnB; rw [gl]; rfl))
      have HM := Lib.hid (show List.map Prod.snd ([] : List OtE) = [] from rfl)
      go_wp2
      refine code_go (F := fun W => KZ v1 W w2.heap.size a' A' c' qs r none 0 []) K3.out ?_
      intro W kz
      obtain ⟨a2, ha2⟩ : ∃ x, a' = x := ⟨_, rfl⟩
      obtain ⟨A2, hA2⟩ : ∃ x, A' = x := ⟨_, rfl⟩
      obtain ⟨c2, hc2⟩ : ∃ x, c' = x := ⟨_, rfl⟩
      obtain ⟨qs2, hqs2⟩ : ∃ x, qs = x := ⟨_, rfl⟩
      obtain ⟨Ao, hAo⟩ : ∃ x : Option Addr, x = none := ⟨_, rfl⟩
      obtain ⟨co, hco⟩ : ∃ x : Nat, x = 0 := ⟨_, rfl⟩
      obtain ⟨os, hos⟩ : ∃ x : List OtE, x = [] := ⟨_, rfl⟩
      rw [← hos] at HM
      rw [ha2, hA2, hc2, hqs2, ← hos] at kz
      rw [← hAo, ← hco] at kz
      clear K3 ha2 hA2 hc2 hqs2 hAo hco hos
      have BX := Lib.hid kz.box
      have RO := Lib.hid kz.rp
      have OO := Lib.hid kz.oso
      have DD := Lib.hid kz.dd
      have XK := Lib.hid kz.x
      have DW := Lib.hid (kz.x.box B3.out)
      have hsW := kz.x.size
      have hlw := kz.low
      have hs1' := X1.out.size
      clear kz
      have hq9 : w.heap.size + 1 < W.heap.size := by omega
      have M := Lib.hid (fun W' (h : (relS (w.heap.size + 1) (.cells (Rp.cs a2 A2 qs2.length c2 r) 43) W.heap.size hq9).rel W W') => cells_mid (cs := Rp.cs a2 A2 qs2.length c2 r) (relS_box BX.out (by omega) W' h) [] [.slice Ao (List.length os) co] rfl rfl)
      (refine Rm.wp_region_mix' (R := relS (w.heap.size + 1) (.cells (Rp.cs a2 A2 qs2.length c2 r) 43) W.heap.size hq9) (stored (w.heap.size + 1) (.cells (Rp.cs a2 A2 qs2.length c2 r) 43)) (fun _ _ _ _ _ hq => hq) 9 (by first | exact Nat.le_refl _ | omega | (simp; omega)) (by kernel_rfl) (by kernel_rfl) ?_; simp only [List.take_succ_cons, List.take_zero, List.drop_succ_cons, List.drop_zero])
      (iterate 1 (refine Rm.wpMix_plain rfl rfl ?_; go_big_quiet_step (fail); refine wpQuiet_nil ?_))
      (refine Rm.wpMix_nilp rfl rfl rfl ?_; simp only [Act.put, List.setIfInBounds_toArray, List.set_cons_zero, List.set_cons_succ])
      (iterate 1 (refine Rm.wpMix_plain rfl rfl ?_; go_big_quiet_step (fail); refine wpQuiet_nil ?_))
      (refine Rm.wpMix_loadAgg (M.out) rfl rfl rfl Tryz.underlying43 (by kernel_rfl) ?_; simp only [Act.put, List.setIfInBounds_toArray, List.set_cons_zero, List.set_cons_succ])
      (iterate 1 (refine Rm.wpMix_plain rfl rfl ?_; go_big_quiet_step (fail); refine wpQuiet_nil ?_))
      (refine Rm.wpMix_nilp rfl rfl rfl ?_; simp only [Act.put, List.setIfInBounds_toArray, List.set_cons_zero, List.set_cons_succ])
      (iterate 1 (refine Rm.wpMix_plain rfl rfl ?_; go_big_quiet_step (fail); refine wpQuiet_nil ?_))
      (refine Rm.wpMix_load1 (fun W' h => show W'.cell? _ = some (.slice Ao (List.length os) co) from bx_cell (relS_box BX.out (by omega) W' h) 13) rfl rfl rfl Tryz.underlying55 rfl ?_; simp only [Act.put, List.setIfInBounds_toArray, List.set_cons_zero, List.set_cons_succ])
      refine wpMix_st DW.out rfl rfl rfl rfl rfl (by kernel_rfl) rfl (by simp [Value.oneCell']) ?_
      simp only [Act.put, List.setIfInBounds_toArray, List.set_cons_zero, List.set_cons_succ]
      refine Rm.wpMix_nil ?_
      rintro W9 ⟨h9, E9⟩
      have c9 := h9.1
      have HE9 := Lib.hid E9
      have HR9 := Lib.hid ((RO.out.chgAny c9 (fun k h1 h2 hm => by rw [List.mem_singleton] at hm; omega)).wide (B' := w.heap.size) (by omega) c9.size)
      have HO9 := Lib.hid ((OO.out.chg c9 (fun k hk hm => by rw [List.mem_singleton] at hm; have := OO.out.low k hk; omega)).wide (B' := w.heap.size) (by omega) c9.size)
      have HX9 := Lib.hid (ext_chg (Ext.trans X1.out XK.out) c9 (fun g hg => by rw [List.mem_singleton] at hg; omega))
      clear E9 h9 c9 M
      go_wp2
      refine bodyPost_ret (results_box2 Tryz.results36 rfl rfl Tryz.underlying43 (by kernel_rfl) HE9.out) rfl ⟨_, rfl, ?_, HX9.out⟩
      rw [HF.out.1, HF.out.2]
      exact ⟨a2, A2, c2, qs2, Ao, co, os, rfl, HR9.out, HO9.out, HM.out, DD.out⟩
    · have d3 := bx_cell K3.out.box
      have z3 := bx_lt K3.out.box
      cases g0 : decide (r.view < 1000000000)
      · have HF := Lib.hid (HN.out (by unfold turnB; rw [gl, g0]; rfl))
        have HM := Lib.hid (show List.map Prod.snd ([] : List OtE) = [] from rfl)
        go_wp2
        clear d3 z3
        refine code_go (F := fun W => KZ v1 W w2.heap.size a' A' c' qs r none 0 []) K3.out ?_
        intro W kz
        obtain ⟨a2, ha2⟩ : ∃ x, a' = x := ⟨_, rfl⟩
        obtain ⟨A2, hA2⟩ : ∃ x, A' = x := ⟨_, rfl⟩
        obtain ⟨c2, hc2⟩ : ∃ x, c' = x := ⟨_, rfl⟩
        obtain ⟨qs2, hqs2⟩ : ∃ x, qs = x := ⟨_, rfl⟩
        obtain ⟨Ao, hAo⟩ : ∃ x : Option Addr, x = none := ⟨_, rfl⟩
        obtain ⟨co, hco⟩ : ∃ x : Nat, x = 0 := ⟨_, rfl⟩
        obtain ⟨os, hos⟩ : ∃ x : List OtE, x = [] := ⟨_, rfl⟩
        rw [← hos] at HM
        rw [ha2, hA2, hc2, hqs2, ← hos] at kz
        rw [← hAo, ← hco] at kz
        clear K3 ha2 hA2 hc2 hqs2 hAo hco hos
        have BX := Lib.hid kz.box
        have RO := Lib.hid kz.rp
        have OO := Lib.hid kz.oso
        have DD := Lib.hid kz.dd
        have XK := Lib.hid kz.x
        have DW := Lib.hid (kz.x.box B3.out)
        have hsW := kz.x.size
        have hlw := kz.low
        have hs1' := X1.out.size
        clear kz
        have hq9 : w.heap.size + 1 < W.heap.size := by omega
        have M := Lib.hid (fun W' (h : (relS (w.heap.size + 1) (.cells (Rp.cs a2 A2 qs2.length c2 r) 43) W.heap.size hq9).rel W W') => cells_mid (cs := Rp.cs a2 A2 qs2.length c2 r) (relS_box BX.out (by omega) W' h) [] [.slice Ao (List.length os) co] rfl rfl)
        (refine Rm.wp_region_mix' (R := relS (w.heap.size + 1) (.cells (Rp.cs a2 A2 qs2.length c2 r) 43) W.heap.size hq9) (stored (w.heap.size + 1) (.cells (Rp.cs a2 A2 qs2.length c2 r) 43)) (fun _ _ _ _ _ hq => hq) 9 (by first | exact Nat.le_refl _ | omega | (simp; omega)) (by kernel_rfl) (by kernel_rfl) ?_; simp only [List.take_succ_cons, List.take_zero, List.drop_succ_cons, List.drop_zero])
        (iterate 1 (refine Rm.wpMix_plain rfl rfl ?_; go_big_quiet_step (fail); refine wpQuiet_nil ?_))
        (refine Rm.wpMix_nilp rfl rfl rfl ?_; simp only [Act.put, List.setIfInBounds_toArray, List.set_cons_zero, List.set_cons_succ])
        (iterate 1 (refine Rm.wpMix_plain rfl rfl ?_; go_big_quiet_step (fail); refine wpQuiet_nil ?_))
        (refine Rm.wpMix_loadAgg (M.out) rfl rfl rfl Tryz.underlying43 (by kernel_rfl) ?_; simp only [Act.put, List.setIfInBounds_toArray, List.set_cons_zero, List.set_cons_succ])
        (iterate 1 (refine Rm.wpMix_plain rfl rfl ?_; go_big_quiet_step (fail); refine wpQuiet_nil ?_))
        (refine Rm.wpMix_nilp rfl rfl rfl ?_; simp only [Act.put, List.setIfInBounds_toArray, List.set_cons_zero, List.set_cons_succ])
        (iterate 1 (refine Rm.wpMix_plain rfl rfl ?_; go_big_quiet_step (fail); refine wpQuiet_nil ?_))
        (refine Rm.wpMix_load1 (fun W' h => show W'.cell? _ = some (.slice Ao (List.length os) co) from bx_cell (relS_box BX.out (by omega) W' h) 13) rfl rfl rfl Tryz.underlying55 rfl ?_; simp only [Act.put, List.setIfInBounds_toArray, List.set_cons_zero, List.set_cons_succ])
        refine wpMix_st DW.out rfl rfl rfl rfl rfl (by kernel_rfl) rfl (by simp [Value.oneCell']) ?_
        simp only [Act.put, List.setIfInBounds_toArray, List.set_cons_zero, List.set_cons_succ]
        refine Rm.wpMix_nil ?_
        rintro W9 ⟨h9, E9⟩
        have c9 := h9.1
        have HE9 := Lib.hid E9
        have HR9 := Lib.hid ((RO.out.chgAny c9 (fun k h1 h2 hm => by rw [List.mem_singleton] at hm; omega)).wide (B' := w.heap.size) (by omega) c9.size)
        have HO9 := Lib.hid ((OO.out.chg c9 (fun k hk hm => by rw [List.mem_singleton] at hm; have := OO.out.low k hk; omega)).wide (B' := w.heap.size) (by omega) c9.size)
        have HX9 := Lib.hid (ext_chg (Ext.trans X1.out XK.out) c9 (fun g hg => by rw [List.mem_singleton] at hg; omega))
        clear E9 h9 c9 M
        go_wp2
        refine bodyPost_ret (results_box2 Tryz.results36 rfl rfl Tryz.underlying43 (by kernel_rfl) HE9.out) rfl ⟨_, rfl, ?_, HX9.out⟩
        rw [HF.out.1, HF.out.2]
        exact ⟨a2, A2, c2, qs2, Ao, co, os, rfl, HR9.out, HO9.out, HM.out, DD.out⟩
      · have HT := Lib.hid (HL.out gl)
        have HF := Lib.hid (HY.out (by unfold turnB; rw [gl, g0]; rfl))
        go_wp2_with fail
        refine (c_begin K3.out HT.out (r.view + 1) (by omega) (by simp at g0; omega) (by simp)).mono ?_
        rintro e w4 ⟨rfl, a2, A2, c2, qs2, Ao, co, os, k4, ho4⟩
        have K4 := Lib.hid (show KZ v1 w4 w2.heap.size a2 A2 c2 qs2 (beginR r (r.view + 1)) Ao co os from k4)
        have HM := Lib.hid ho4
        clear k4 ho4 K3 d3 z3
        go_wp2
        refine code_go (F := fun W => KZ v1 W w2.heap.size a2 A2 c2 qs2 (beginR r (r.view + 1)) Ao co os) K4.out ?_
        intro W kz
        clear K4
        have BX := Lib.hid kz.box
        have RO := Lib.hid kz.rp
        have OO := Lib.hid kz.oso
        have DD := Lib.hid kz.dd
        have XK := Lib.hid kz.x
        have DW := Lib.hid (kz.x.box B3.out)
        have hsW := kz.x.size
        have hlw := kz.low
        have hs1' := X1.out.size
        clear kz
        have hq9 : w.heap.size + 1 < W.heap.size := by omega
        have M := Lib.hid (fun W' (h : (relS (w.heap.size + 1) (.cells (Rp.cs a2 A2 qs2.length c2 (beginR r (r.view + 1))) 43) W.heap.size hq9).rel W W') => cells_mid (cs := Rp.cs a2 A2 qs2.length c2 (beginR r (r.view + 1))) (relS_box BX.out (by omega) W' h) [] [.slice Ao (List.length os) co] rfl rfl)
        (refine Rm.wp_region_mix' (R := relS (w.heap.size + 1) (.cells (Rp.cs a2 A2 qs2.length c2 (beginR r (r.view + 1))) 43) W.heap.size hq9) (stored (w.heap.size + 1) (.cells (Rp.cs a2 A2 qs2.length c2 (beginR r (r.view + 1))) 43)) (fun _ _ _ _ _ hq => hq) 9 (by first | exact Nat.le_refl _ | omega | (simp; omega)) (by kernel_rfl) (by kernel_rfl) ?_; simp only [List.take_succ_cons, List.take_zero, List.drop_succ_cons, List.drop_zero])
        (iterate 1 (refine Rm.wpMix_plain rfl rfl ?_; go_big_quiet_step (fail); refine wpQuiet_nil ?_))
        (refine Rm.wpMix_nilp rfl rfl rfl ?_; simp only [Act.put, List.setIfInBounds_toArray, List.set_cons_zero, List.set_cons_succ])
        (iterate 1 (refine Rm.wpMix_plain rfl rfl ?_; go_big_quiet_step (fail); refine wpQuiet_nil ?_))
        (refine Rm.wpMix_loadAgg (M.out) rfl rfl rfl Tryz.underlying43 (by kernel_rfl) ?_; simp only [Act.put, List.setIfInBounds_toArray, List.set_cons_zero, List.set_cons_succ])
        (iterate 1 (refine Rm.wpMix_plain rfl rfl ?_; go_big_quiet_step (fail); refine wpQuiet_nil ?_))
        (refine Rm.wpMix_nilp rfl rfl rfl ?_; simp only [Act.put, List.setIfInBounds_toArray, List.set_cons_zero, List.set_cons_succ])
        (iterate 1 (refine Rm.wpMix_plain rfl rfl ?_; go_big_quiet_step (fail); refine wpQuiet_nil ?_))
        (refine Rm.wpMix_load1 (fun W' h => show W'.cell? _ = some (.slice Ao (List.length os) co) from bx_cell (relS_box BX.out (by omega) W' h) 13) rfl rfl rfl Tryz.underlying55 rfl ?_; simp only [Act.put, List.setIfInBounds_toArray, List.set_cons_zero, List.set_cons_succ])
        refine wpMix_st DW.out rfl rfl rfl rfl rfl (by kernel_rfl) rfl (by simp [Value.oneCell']) ?_
        simp only [Act.put, List.setIfInBounds_toArray, List.set_cons_zero, List.set_cons_succ]
        refine Rm.wpMix_nil ?_
        rintro W9 ⟨h9, E9⟩
        have c9 := h9.1
        have HE9 := Lib.hid E9
        have HR9 := Lib.hid ((RO.out.chgAny c9 (fun k h1 h2 hm => by rw [List.mem_singleton] at hm; omega)).wide (B' := w.heap.size) (by omega) c9.size)
        have HO9 := Lib.hid ((OO.out.chg c9 (fun k hk hm => by rw [List.mem_singleton] at hm; have := OO.out.low k hk; omega)).wide (B' := w.heap.size) (by omega) c9.size)
        have HX9 := Lib.hid (ext_chg (Ext.trans X1.out XK.out) c9 (fun g hg => by rw [List.mem_singleton] at hg; omega))
        clear E9 h9 c9 M
        go_wp2
        refine bodyPost_ret (results_box2 Tryz.results36 rfl rfl Tryz.underlying43 (by kernel_rfl) HE9.out) rfl ⟨_, rfl, ?_, HX9.out⟩
        rw [HF.out.1, HF.out.2]
        exact ⟨a2, A2, c2, qs2, Ao, co, os, rfl, HR9.out, HO9.out, HM.out, DD.out⟩
end Go.Proofs.YtkenlhdiehaemaaGreat
