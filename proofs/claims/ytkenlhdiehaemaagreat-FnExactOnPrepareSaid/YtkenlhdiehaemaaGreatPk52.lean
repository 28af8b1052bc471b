/- OnPrepare of the program; the marks of a replica that prepares. -/
import Derived.Test.YtkenlhdiehaemaaGreatPk50
import Derived.Test.YtkenlhdiehaemaaGreatPk29
namespace Go.Proofs.YtkenlhdiehaemaaGreat
open Go.ChangeShapes Go.WideShapes Go.ChangeAt Go.RowKit Go.Sort
set_option linter.unusedVariables false
set_option linter.unusedSimpArgs false
set_option maxRecDepth 100000 in
set_option maxHeartbeats 4000000 in
theorem c_iOnPrepare (a : LAd) (A : Option Addr) (c : Nat) (ps : List VtE) (r : Rp) (am : LAd) (m : Mg) (w : World) (hr : RpR w a A c ps r) (hs : r.log.small) (hn : ps.length ≤ 1048576) (hv : LgS ps) (hm : LgR w am m.log) (hms : m.log.small) :
  Calls Tryz.prog 42 #[Rp.val a A ps.length c r, Mg.val am m] w fun e w' => ∃ v, e = .returned v ∧ RoY w' w.heap.size (hearR2 r m 2 (prepR r m)) (hearO r m 2 (prepO r m)) v ∧ Ext w w' := by
 have X0 : Ext w (((w.alloc (Rp.obj a A ps.length c r)).alloc (Mg.obj am m)).alloc Rp.zobj) := ext_to (ext_to (ext_alloc _ _) _) _
 have D1 := Lib.hid (hOld (o := Rp.zobj) (hOld (o := Mg.obj am m) (hNew (w := w) (o := Rp.obj a A ps.length c r) rfl)))
 have D2 := Lib.hid (hOld (o := Rp.zobj) (hNew (w := w.alloc (Rp.obj a A ps.length c r)) (o := Mg.obj am m) (k := w.heap.size + 1) (by simp)))
 have D3 := Lib.hid (hNew (w := (w.alloc (Rp.obj a A ps.length c r)).alloc (Mg.obj am m)) (o := Rp.zobj) (k := w.heap.size + 1 + 1) (by simp))
 have HM := Lib.hid (hm.keep X0)
 have HH := Lib.hid (c_hears3 a A c ps r am m 2 108 #[.pointer (some ⟨w.heap.size + 1, 0, none⟩)] (prepR r m) (prepO r m) (((w.alloc (Rp.obj a A ps.length c r)).alloc (Mg.obj am m)).alloc Rp.zobj) (hr.keep X0) hs hn hv (hm.keep X0) hms (enters Tryz.func108 (by kernel_rfl) rfl)
  (fun h1 W0 W p hx hk => c_prep1 hk (Ext.box hx D2.out) (HM.out.keep hx) hs hms h1))
 have HX0 := Lib.hid X0
 clear X0 hr hm hv HM
 go_enter Tryz.func42, Tryz.ntmps42
 (go_wp2_with (with_reducible refine wl_stop 6 ?_); refine stop_load (D1.out) rfl Tryz.underlying43 (by kernel_rfl) ?_; simp only [Act.put, List.setIfInBounds_toArray, List.set_cons_zero, List.set_cons_succ])
 (go_wp2_with (with_reducible refine wl_stop 7 ?_); refine stop_load (D2.out) rfl Tryz.underlying60 (by kernel_rfl) ?_; simp only [Act.put, List.setIfInBounds_toArray, List.set_cons_zero, List.set_cons_succ])
 go_wp2_with fail
 refine HH.out.mono ?_
 rintro e w1 ⟨v, rfl, ⟨a1, A1, c1, qs, Ao, co, os, rfl, h1, h2, h3, h4⟩, x1⟩
 have E3 := Lib.hid (x1.box D3.out)
 have X1 := Lib.hid (Ext.trans HX0.out x1)
 have H1 := Lib.hid h1
 have H2 := Lib.hid h2
 have H3 := Lib.hid h3
 have H4 := Lib.hid h4
 clear h1 h2 h3 h4 x1 HH D1 D2 D3
 (go_wp2_with (with_reducible refine wl_stopS 43 ?_); refine stop_store ((w.heap.size + 1 + 1)) (Rp.cs a1 A1 qs.length c1 (hearR2 r m 2 (prepR r m))) rfl rfl (E3.out) (by kernel_rfl) rfl (by simp [Value.oneCell']) ?_)
 intro W9 e9 k9
 have HE9 := Lib.hid e9
 have HF := Lib.hid (RoY.kept0 H1.out H2.out H3.out H4.out k9 (B' := w.heap.size) (by simp) (by simp; omega))
 have HX9 := Lib.hid (chg_new X1.out k9 (by omega))
 clear e9 k9
 go_wp2
 exact bodyPost_ret (results_box2 Tryz.results42 rfl rfl Tryz.underlying43 (by kernel_rfl) HE9.out) rfl ⟨_, rfl, HF.out, HX9.out⟩
theorem lokI {l : Lg} (h : logOk l = true) : l.small := by
 obtain ⟨_, _, h60, hI, _⟩ := log_b h
 have h7 : l.cells.length ≤ 40 := hI.c.len
 have h8 : l.seats.length ≤ 10 := hI.s.len
 exact ⟨by omega, by omega, by omega⟩
theorem RoS.right {ps : List VtE} {r : Rp} {O : List Ot} (he : ps.map Prod.snd = r.votes) (hn : rpN ps r ≤ 1048576) (hvs : LgS ps) {R : Rp} (h1 : logOk R.log = true) (h2 : R.votes = r.votes) (h3 : ∀ o ∈ O, o.msg.log.small) (h4 : O.length ≤ 40) : RoS ps R O := by
 refine ⟨lokI h1, fun qs hq => ?_, h3, h4⟩
 rw [h2] at hq
 have hl : qs.length = ps.length := by simpa using (congrArg List.length (he.trans hq.symm)).symm
 refine ⟨LgS.congr (he.trans hq.symm) hvs, by unfold rpN at hn; omega, ?_⟩
 have h5 := Ks_bound (1 + R.log.mN) qs qs.length (Nat.le_refl _)
 have h6 := vsN_congr (he.trans hq.symm) ps.length
 obtain ⟨_, _, h60, hI, _⟩ := log_b h1
 have h7 : R.log.cells.length ≤ 40 := hI.c.len
 have h8 : R.log.seats.length ≤ 10 := hI.s.len
 unfold rpK
 unfold rpN at hn
 have h9 : R.log.mN ≤ 1000 := by unfold Lg.mN; omega
 rw [hl] at h5 ⊢
 rw [← h6] at h5
 omega
theorem prep_log {r : Rp} {m : Mg} (h : rpOk r = true) : logOk (prepR r m).log = true := by
 have h0 : logOk r.log = true := (rp_num h).choose_spec.2.2.2
 unfold prepR
 split
 ·split
  ·exact h0
  ·split
   ·split
    ·exact putE_ok h
    ·exact h0
   ·exact h0
 ·exact h0
theorem putE_votes (r : Rp) (e : Ent) : (r.putE e).votes = r.votes := by unfold Rp.putE; split <;> rfl
theorem prep_votes (r : Rp) (m : Mg) : (prepR r m).votes = r.votes := by
 unfold prepR
 split
 ·split
  ·rfl
  ·split
   ·split
    ·exact putE_votes r (entM m)
    ·rfl
   ·rfl
 ·rfl
theorem prep_small {ps : List VtE} {r : Rp} {m : Mg} (he : ps.map Prod.snd = r.votes) (hn : rpN ps r ≤ 1048576) (hvs : LgS ps) (q1 : rpOk r = true) : RoS ps (prepR r m) (prepO r m) := by
 refine RoS.right he hn hvs (prep_log q1) (prep_votes r m) (fun o ho => ?_) ?_
 ·unfold prepO followO at ho
  rcases List.mem_append.1 ho with ho | ho
  ·split at ho <;> simp at ho
   subst ho; exact none_small2
  ·split at ho
   ·split at ho
    ·rw [List.mem_singleton] at ho; subst ho; exact none_small2
    ·split at ho
     ·cases ho
     ·rw [List.mem_singleton] at ho; subst ho; exact none_small2
   ·cases ho
 ·unfold prepO followO
  rw [List.length_append]
  split <;> split <;> (try split) <;> (try split) <;> simp
end Go.Proofs.YtkenlhdiehaemaaGreat
