/- Restart of the reference. -/
import Derived.Test.YtmpjokdidomafaaGreatAl
namespace Go.Proofs.YtmpjokdidomafaaGreat
open Go.ChangeShapes Go.WideShapes Go.ChangeAt Go.RowKit Go.Sort
set_option linter.unusedVariables false
set_option linter.unusedSimpArgs false

/-- a replica and what is sent, read so -/
def RoW (w : World) (R : Rp) (O : List Ot) (V : Value) : Prop := ∃ a A c qs Ao co os, V = .tuple #[Rp.val a A (List.length qs) c R, .slice Ao (List.length os) co] ∧ RpR w a A c qs R ∧ OsR w Ao co os ∧ List.map Prod.snd os = O
theorem OsR.nil (w : World) : OsR w none 0 [] := ⟨⟨Nat.le_refl _, by unfold maxLen; omega, fun h => absurd h (by simp)⟩, by simp⟩
theorem OsR.nil0 (w : World) (g : Nat) : OsR w (some ⟨g, 0, none⟩) 0 [] := ⟨⟨Nat.le_refl _, by unfold maxLen; omega, fun h => absurd h (by simp)⟩, by simp⟩
/-- a slice of what is sent, own rows from B on -/
def OsV (B : Nat) (O : List Ot) (v : Value) (W : World) : Prop := ∃ A c os, v = .slice A (List.length os) c ∧ List.map Prod.snd os = O ∧ Ow OtE.enc 83 18 W B (.slice A (List.length os) c) os ∧ OsF W B os
theorem OsV.mono (B : Nat) (O : List Ot) (p : Nat) (obj : Obj) (hp : p < B) : Rm.Mono (relS p obj B hp) (OsV B O) := fun v w w' ⟨A, c, os, h1, h2, h3, h4⟩ hx =>
  ⟨A, c, os, h1, h2, h3.chg hx.1 (fun k hk hm => by rw [List.mem_singleton] at hm; have := (h3.inB k hk).1; omega), fun q hq => (h4 q hq).chg1 hx.1 hp⟩

theorem LgF.boxed {w w' : World} {B : Nat} {a : LAd} {l : Lg} {p : Nat} {cs : Array Value} {t : TypeId} (h : LgF w B a l) (hb : w.heap[p]? = some (.cells cs t (0, 0))) (h1 : t ≠ 122) (h2 : t ≠ 124) (h3 : t ≠ 126) (hg : Chg w w' [p]) : LgF w' B a l :=
  ⟨h.c.chg Cel.len hg (fun hl x hx hm => by rw [List.mem_singleton] at hm; rw [hm] at hx; exact box_apart hb (h.c.2 hl) h1 hx),
   h.s.chg Sea.len hg (fun hl x hx hm => by rw [List.mem_singleton] at hm; rw [hm] at hx; exact box_apart hb (h.s.2 hl) h2 hx),
   h.e.chg Ent.len hg (fun hl x hx hm => by rw [List.mem_singleton] at hm; rw [hm] at hx; exact box_apart hb (h.e.2 hl) h3 hx)⟩
theorem RpF.boxed {w w' : World} {B : Nat} {a : LAd} {A : Option Addr} {c : Nat} {ps : List VtE} {r : Rp} {p : Nat} {cs : Array Value} (h : RpF w B a A c ps r) (hb : w.heap[p]? = some (.cells cs 42 (0, 0))) (hg : Chg w w' [p]) : RpF w' B a A c ps r :=
  ⟨h.l.boxed hb (by decide) (by decide) (by decide) hg, h.v.chg VtE.len hg (fun hl x hx hm => by rw [List.mem_singleton] at hm; rw [hm] at hx; exact box_apart hb (h.v.2 hl) (by decide) hx), fun q hq => (h.vl q hq).boxed hb (by decide) (by decide) (by decide) hg, h.e⟩

set_option maxRecDepth 100000 in
set_option maxHeartbeats 4000000 in
theorem c_sRestart (a : LAd) (A : Option Addr) (c : Nat) (ps : List VtE) (r : Rp) (w : World) (hr : RpR w a A c ps r) (hs : r.log.small) (hn : ps.length ≤ 1048576) (hv : LgS ps) :
    Calls Tryz.prog 8 #[Rp.val a A ps.length c r] w fun e w' => ∃ v, e = .returned v ∧ RoW w' (restR r) (restO r) v ∧ Ext w w' := by
  have X0 : Ext w ((w.alloc (Rp.obj a A ps.length c r)).alloc Rp.zobj) := ext_to (ext_alloc _ _) _
  have HSm := Lib.hid (c_l6Same a A c ps r _ (hr.keep X0) hs hn hv)
  have HCk := Lib.hid (fun W (h : Ext w W) => c_sReplicaOk a A c ps r W (hr.keep h) hs hn hv)
  have D1 := Lib.hid (hOld (o := Rp.zobj) (hNew (w := w) (o := Rp.obj a A ps.length c r) rfl))
  have D2 := hNew (w := w.alloc (Rp.obj a A ps.length c r)) (o := Rp.zobj) rfl
  rw [sz_alloc] at D2
  have HD2 := Lib.hid D2
  have HX0 := Lib.hid X0
  clear D2 X0 hr hv hs
  go_enter Tryz.func8, Tryz.ntmps8
  (go_wp2_with (with_reducible refine wl_stop 5 ?_); refine stop_load (D1.out) rfl Tryz.underlying42 (by kernel_rfl) ?_; simp only [Act.put, List.setIfInBounds_toArray, List.set_cons_zero, List.set_cons_succ])
  go_wp2_with fail
  refine HSm.out.mono ?_
  rintro e w1 ⟨v1, rfl, ⟨a1, A1, c1, qs, rfl, f1⟩, x1⟩
  have HF1 := Lib.hid f1
  have B1 := Lib.hid (x1.box D1.out)
  have B2 := Lib.hid (x1.box HD2.out)
  have X1 := Lib.hid (Ext.trans HX0.out x1)
  have Z1 := Lib.hid (hNew (w := w1) (o := Rp.zobj) rfl)
  have hs1 := x1.size
  simp only [sz_alloc] at hs1
  clear f1 x1 D1 HD2 HX0 HSm
  (go_wp2_with (with_reducible refine wl_stopS 42 ?_); refine stop_store (w1.heap.size) (Rp.cs a1 A1 qs.length c1 (sameR r)) rfl rfl (Z1.out) (by kernel_rfl) rfl (by simp [Value.oneCell']) ?_)
  intro W3 e3 k3
  have x3 := chg_new (ext_alloc w1 Rp.zobj) k3 (Nat.le_refl _)
  have E3 := Lib.hid e3
  have F1 := Lib.hid (x3.box B1.out)
  have F2 := Lib.hid (x3.box B2.out)
  have HF3 := Lib.hid (HF1.out.keep x3)
  have X3 := Lib.hid (Ext.trans X1.out x3)
  have hs3 := x3.size
  clear e3 k3 x3 Z1 B1 B2 HF1 X1
  (go_wp2_with (with_reducible refine wl_stop 7 ?_); refine stop_load (F1.out) rfl Tryz.underlying42 (by kernel_rfl) ?_; simp only [Act.put, List.setIfInBounds_toArray, List.set_cons_zero, List.set_cons_succ])
  go_wp2_with fail
  refine (HCk.out _ X3.out).mono ?_
  rintro e w4 ⟨rfl, x4⟩
  have G1 := Lib.hid (x4.box F1.out)
  have G2 := Lib.hid (x4.box F2.out)
  have E4 := Lib.hid (x4.box E3.out)
  have HF4 := Lib.hid (HF3.out.keep x4)
  have X4 := Lib.hid (Ext.trans X3.out x4)
  have hs4 := x4.size
  clear x4 F1 F2 E3 HF3 X3 HCk
  have d1 := bx_cell G1.out
  have z1 := bx_lt G1.out
  cases q : rpOk r
  · have HR := Lib.hid (show restR r = sameR r ∧ restO r = [] by simp [restR, restO, sameR, q])
    go_wp2_with (with_reducible refine wl_stop 20 ?_)
    clear d1 z1
    refine stop_load (E4.out) rfl Tryz.underlying42 (by kernel_rfl) ?_
    simp only [Act.put, List.setIfInBounds_toArray, List.set_cons_zero, List.set_cons_succ]
    have G2' := Lib.hid (Ext.box (ext_alloc w4 (.cells #[] 83)) G2.out)
    (go_wp2_with (with_reducible refine wl_stopS 42 ?_); refine stop_store ((w.heap.size + 1)) (Rp.cs a1 A1 qs.length c1 (sameR r)) rfl rfl (G2'.out) (by kernel_rfl) rfl (by simp [Value.oneCell']) ?_)
    intro W9 e9 k9
    have X9 := Lib.hid (chg_new (Ext.trans X4.out (ext_alloc w4 (.cells #[] 83))) k9 (by omega))
    have HE9 := Lib.hid e9
    have HF9 := Lib.hid ((HF4.out.keep (ext_alloc w4 (.cells #[] 83))).chg k9 (fun k hk => by rw [List.mem_singleton] at hk; simp only [sz_alloc]; omega))
    clear e9 k9
    go_wp2
    refine bodyPost_ret (results_box2 Tryz.results8 rfl rfl Tryz.underlying42 (by kernel_rfl) HE9.out) rfl ⟨_, rfl, ?_, X9.out⟩
    rw [HR.out.1, HR.out.2]
    exact ⟨a1, A1, c1, qs, _, _, [], rfl, HF9.out.rd, OsR.nil0 _ _, rfl⟩
  · have hfacts := rpOk_facts q
    have hsame : sameR r = r := by simp [sameR, q]
    cases qm : (r.mode != 0)
    · have qm' : (r.mode == 0) = true := by rw [bne, Bool.not_eq_false'] at qm; exact qm
      cases qn : (r.nonce == 1000000000)
      · have qn' : decide (r.nonce < 1000000000) = true := by have : r.nonce ≠ 1000000000 := by simpa using qn
                                                              simp; omega
        have HR := Lib.hid (show restR r = r.waked ∧ restO r = allTo r.me (askM r) r.of.toNat by simp [restR, restO, q, wakes, qm', qn'])
        rw [hsame] at HF4 E4
        have e4 := bx_cell E4.out
        have g4 := bx_frozen E4.out
        have y4 := bx_lt E4.out
        have P4 := box_put (box_put E4.out 2 (.int .i64 3)) 12 (.int .i64 (r.nonce + 1))
        simp only [List.setIfInBounds_toArray, List.set_cons_zero, List.set_cons_succ] at P4
        have k4 := chg_set (chg_set (Chg.refl w4 [w1.heap.size]) (p := ⟨w1.heap.size, 2, none⟩) (by simp) (.int .i64 3)) (p := ⟨w1.heap.size, 12, none⟩) (by simp) (.int .i64 (r.nonce + 1))
        have HP4 := Lib.hid P4
        have HK4 := Lib.hid k4
        have hw : r.nonce + 1 ≤ 1000000000 := by have := of_decide_eq_true qn'; omega
        clear P4 k4 qm' qn' hsame
        go_wp2
        refine code_go (F := fun W => W.heap[w1.heap.size]? = some (Rp.obj a1 A1 qs.length c1 r.waked) ∧ Chg w4 W [w1.heap.size]) ⟨HP4.out, HK4.out⟩ ?_
        rintro W ⟨eW, kW⟩
        have E5 := Lib.hid eW
        have G5 := Lib.hid (box_chg G2.out kW (by omega))
        have G6 := Lib.hid (box_chg G1.out kW (by omega))
        have K5 := Lib.hid kW
        have hs5 := kW.size
        have hlW := bx_lt eW
        have E0 := E4
        clear eW kW d1 z1 e4 g4 y4 HP4 HK4 E4 G1 G2
        obtain ⟨N, hN, hN10⟩ : ∃ N : Nat, r.of = (N : Int) ∧ N ≤ 10 := ⟨r.of.toNat, by omega, by omega⟩
        have hq9 : w.heap.size + 1 < W.heap.size := by omega
        have M1 := Lib.hid (fun W' (h : (relS (w.heap.size + 1) (.cells (Rp.cs a1 A1 qs.length c1 r.waked) 42) W.heap.size hq9).rel W W') => cells_mid (cs := Rp.cs a1 A1 qs.length c1 r.waked) (relS_box E5.out (by omega) W' h) [] [] rfl rfl)
        have HAl := Lib.hid (show ∀ W', Calls Tryz.prog 34 #[.agg (Rp.cs a1 A1 qs.length c1 r.waked), Mg.val LAd.none (askM r)] W' fun e w' => ∃ A' c' os, e = .returned (.slice A' (List.length os) c') ∧ List.map Prod.snd os = allTo r.me (askM r) N ∧ Ow OtE.enc 83 18 w' W'.heap.size (.slice A' (List.length os) c') os ∧ OsF w' W'.heap.size os ∧ Ext W' w' from fun W' => c_l6All a1 A1 qs.length c1 r.waked LAd.none (askM r) W' N hN hN10 (LgF.zero W' 0).rd (show Lg.none.small from ⟨by decide, by decide, by decide⟩))
        (refine Rm.wp_region_mix' (R := relS (w.heap.size + 1) (.cells (Rp.cs a1 A1 qs.length c1 r.waked) 42) W.heap.size hq9) (stored (w.heap.size + 1) (.cells (Rp.cs a1 A1 qs.length c1 r.waked) 42)) (fun _ _ _ _ _ hq => hq) 9 (by first | exact Nat.le_refl _ | omega | (simp; omega)) (by kernel_rfl) (by kernel_rfl) ?_; simp only [List.take_succ_cons, List.take_zero, List.drop_succ_cons, List.drop_zero])
        (refine Rm.wpMix_loadAgg (M1.out) rfl rfl rfl Tryz.underlying42 (by kernel_rfl) ?_; simp only [Act.put, List.setIfInBounds_toArray, List.set_cons_zero, List.set_cons_succ])
        (refine Rm.wpMix_loadAgg (M1.out) rfl rfl rfl Tryz.underlying42 (by kernel_rfl) ?_; simp only [Act.put, List.setIfInBounds_toArray, List.set_cons_zero, List.set_cons_succ])
        (iterate 1 (refine Rm.wpMix_plain rfl rfl ?_; go_big_quiet_step (fail); refine wpQuiet_nil ?_))
        (refine Rm.wpMix_load1 (fun W' h => show W'.cell? _ = some (.int .i64 r.me) from bx_cell (relS_box G6.out (by omega) W' h) 0) rfl rfl rfl Tryz.underlying3 rfl ?_; simp only [Act.put, List.setIfInBounds_toArray, List.set_cons_zero, List.set_cons_succ])
        (iterate 1 (refine Rm.wpMix_plain rfl rfl ?_; go_big_quiet_step (fail); refine wpQuiet_nil ?_))
        (refine Rm.wpMix_load1 (fun W' h => show W'.cell? _ = some (.int .i64 (r.nonce + 1)) from bx_cell (relS_box E5.out (by omega) W' h) 12) rfl rfl rfl Tryz.underlying3 rfl ?_; simp only [Act.put, List.setIfInBounds_toArray, List.set_cons_zero, List.set_cons_succ])
        (iterate 1 (refine Rm.wpMix_plain rfl rfl ?_; go_big_quiet_step (fail); refine wpQuiet_nil ?_))
        refine Rm.wpMix_call (OsV W.heap.size (allTo r.me (askM r) N)) rfl rfl rfl (enters Tryz.func34 (by kernel_rfl) rfl) (OsV.mono _ _ _ _ _) (fun W' hW' => (HAl.out W').mono fun e w' ⟨A', c', os, he, hmap, ho, hf, hx⟩ => ⟨_, he, ⟨A', c', os, rfl, hmap, ho.less hW'.1.size, fun p hp => (hf p hp).less hW'.1.size⟩, Rm.Rel.ext _ _ _ hx⟩) rfl (fun v6 hv6 => ?_)
        simp only [Act.put, List.setIfInBounds_toArray, List.set_cons_zero, List.set_cons_succ]
        refine wpMix_st G5.out rfl rfl rfl rfl rfl (by kernel_rfl) rfl (by simp [Value.oneCell']) ?_
        simp only [Act.put, List.setIfInBounds_toArray, List.set_cons_zero, List.set_cons_succ]
        refine Rm.wpMix_nil ?_
        rintro W9 ⟨⟨h9, Ao, co, os, rfl, hmap, ho9, hf9⟩, e9⟩
        have c9 := h9.1
        have HE9 := Lib.hid e9
        have HO9 := Lib.hid (show OsR W9 Ao co os from ⟨(ho9.rd OtE.len).2, fun p hp => (hf9 p hp).rd⟩)
        have HM9 := Lib.hid (show List.map Prod.snd os = allTo r.me (askM r) r.of.toNat by rw [hmap, hN]; rfl)
        have c49 := (K5.out.more (S' := [w1.heap.size, w.heap.size + 1]) (fun k hk => by rw [List.mem_singleton] at hk; simp [hk])).trans (c9.more (fun k hk => by rw [List.mem_singleton] at hk; simp [hk]))
        have HX9 := Lib.hid (ext_chg X4.out c49 (fun g hg => by simp only [List.mem_cons, List.mem_nil_iff, or_false] at hg; omega))
        have HR9 := Lib.hid (show RpR W9 a1 A1 c1 qs r.waked from by
          have h2 := ((HF4.out.boxed E0.out K5.out).chg c9 (fun k hk => by rw [List.mem_singleton] at hk; simp only [sz_alloc]; omega)).rd
          exact ⟨h2.l, h2.v, h2.e⟩)
        clear c9 c49 h9 e9 hmap ho9 hf9 hv6
        go_wp2
        refine bodyPost_ret (results_box2 Tryz.results8 rfl rfl Tryz.underlying42 (by kernel_rfl) HE9.out) rfl ⟨_, rfl, ?_, HX9.out⟩
        rw [HR.out.1, HR.out.2]
        exact ⟨a1, A1, c1, qs, Ao, co, os, rfl, HR9.out, HO9.out, HM9.out⟩
      · have HR := Lib.hid (show restR r = sameR r ∧ restO r = [] by
          have : r.nonce = 1000000000 := by simpa using qn
          simp [restR, restO, sameR, q, wakes, this])
        clear hsame qm'
        go_wp2_with (with_reducible refine wl_stop 20 ?_)
        clear d1 z1
        refine stop_load (E4.out) rfl Tryz.underlying42 (by kernel_rfl) ?_
        simp only [Act.put, List.setIfInBounds_toArray, List.set_cons_zero, List.set_cons_succ]
        have G2' := Lib.hid (Ext.box (ext_alloc w4 (.cells #[] 83)) G2.out)
        (go_wp2_with (with_reducible refine wl_stopS 42 ?_); refine stop_store ((w.heap.size + 1)) (Rp.cs a1 A1 qs.length c1 (sameR r)) rfl rfl (G2'.out) (by kernel_rfl) rfl (by simp [Value.oneCell']) ?_)
        intro W9 e9 k9
        have X9 := Lib.hid (chg_new (Ext.trans X4.out (ext_alloc w4 (.cells #[] 83))) k9 (by omega))
        have HE9 := Lib.hid e9
        have HF9 := Lib.hid ((HF4.out.keep (ext_alloc w4 (.cells #[] 83))).chg k9 (fun k hk => by rw [List.mem_singleton] at hk; simp only [sz_alloc]; omega))
        clear e9 k9
        go_wp2
        refine bodyPost_ret (results_box2 Tryz.results8 rfl rfl Tryz.underlying42 (by kernel_rfl) HE9.out) rfl ⟨_, rfl, ?_, X9.out⟩
        rw [HR.out.1, HR.out.2]
        exact ⟨a1, A1, c1, qs, _, _, [], rfl, HF9.out.rd, OsR.nil0 _ _, rfl⟩
    · have HR := Lib.hid (show restR r = sameR r ∧ restO r = [] by
        have : (r.mode == 0) = false := by rw [bne, Bool.not_eq_true'] at qm; exact qm
        simp [restR, restO, sameR, q, wakes, this])
      clear hsame
      go_wp2_with (with_reducible refine wl_stop 20 ?_)
      clear d1 z1
      refine stop_load (E4.out) rfl Tryz.underlying42 (by kernel_rfl) ?_
      simp only [Act.put, List.setIfInBounds_toArray, List.set_cons_zero, List.set_cons_succ]
      have G2' := Lib.hid (Ext.box (ext_alloc w4 (.cells #[] 83)) G2.out)
      (go_wp2_with (with_reducible refine wl_stopS 42 ?_); refine stop_store ((w.heap.size + 1)) (Rp.cs a1 A1 qs.length c1 (sameR r)) rfl rfl (G2'.out) (by kernel_rfl) rfl (by simp [Value.oneCell']) ?_)
      intro W9 e9 k9
      have X9 := Lib.hid (chg_new (Ext.trans X4.out (ext_alloc w4 (.cells #[] 83))) k9 (by omega))
      have HE9 := Lib.hid e9
      have HF9 := Lib.hid ((HF4.out.keep (ext_alloc w4 (.cells #[] 83))).chg k9 (fun k hk => by rw [List.mem_singleton] at hk; simp only [sz_alloc]; omega))
      clear e9 k9
      go_wp2
      refine bodyPost_ret (results_box2 Tryz.results8 rfl rfl Tryz.underlying42 (by kernel_rfl) HE9.out) rfl ⟨_, rfl, ?_, X9.out⟩
      rw [HR.out.1, HR.out.2]
      exact ⟨a1, A1, c1, qs, _, _, [], rfl, HF9.out.rd, OsR.nil0 _ _, rfl⟩
end Go.Proofs.YtmpjokdidomafaaGreat
