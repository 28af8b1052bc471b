/- l6Put of the reference: a log is folded if it is full, then the entry is put. -/
import Derived.Test.YtkenlhdiehaemaaGreatPk47
import Derived.Test.YtkenlhdiehaemaaGreatPk21
import Derived.Test.YtkenlhdiehaemaaGreatPk28
import Derived.RegionTactic
import Derived.BigRegion
import Derived.Deep.RegionWith
namespace Go.Proofs.YtkenlhdiehaemaaGreat
open Go.ChangeShapes Go.WideShapes Go.ChangeAt Go.RowKit Go.Sort
set_option linter.unusedVariables false
set_option linter.unusedSimpArgs false
theorem fold_ok {l : Lg} {j : Nat} (hok : logOk l = true) (hj : j ≤ l.ents.length) : logOk (foldL l j) = true := by
 obtain ⟨hb0, hb1, h60, hI, hA⟩ := log_b hok
 have h5 := hI.all (l := l.ents.take j) (fun e he => hA e (List.mem_of_mem_take he))
 refine decide_eq_true ⟨?_, h5.ok, ?_, ?_, ?_⟩
 ·rw [inB_yes]
  show 0 ≤ l.base + (j : Int) ∧ l.base + (j : Int) ≤ 1000000000
  omega
 ·show (l.ents.drop j).length ≤ 60
  rw [List.length_drop]; omega
 ·rw [inB_yes]
  show 0 ≤ l.base + (j : Int) + ((l.ents.drop j).length : Int) ∧ l.base + (j : Int) + ((l.ents.drop j).length : Int) ≤ 1000000000
  rw [List.length_drop]; omega
 ·exact fun e he => hA e (List.mem_of_mem_drop he)
def pLog (r : Rp) : Lg := if ((r.log.ents.length : Int) == 60) = true then foldL r.log (r.commit - r.log.base).toNat else r.log
theorem rp_num {r : Rp} (h : rpOk r = true) : ∃ j : Nat, (r.commit - r.log.base).toNat = j ∧ r.log.base + (j : Int) = r.commit ∧ j ≤ r.log.ents.length ∧ logOk r.log = true := by
 have h1 : hasNum r.log r.commit = true := by unfold rpOk at h; simp only [Bool.and_eq_true] at h; exact h.1.1.1.2
 have h2 := hasNum_ok h1
 unfold Lg.fin at h2
 exact ⟨_, rfl, by omega, by omega, h2.1⟩
theorem pLog_ok {r : Rp} (h : rpOk r = true) : logOk (pLog r) = true := by
 obtain ⟨j, hj, _, hle, hok⟩ := rp_num h
 unfold pLog
 split
 ·rw [hj]; exact fold_ok hok hle
 ·exact hok
set_option maxRecDepth 100000 in
set_option maxHeartbeats 8000000 in
theorem c_l6Put (a : LAd) (A : Option Addr) (n c : Nat) (r : Rp) (e : Ent) (w : World) (hl : LgR w a r.log) (hok : rpOk r = true) :
  Calls Tryz.prog 107 #[Rp.val a A n c r, e.val] w fun e9 w' => (∃ a', e9 = .returned (.tuple #[Lg.val a' (putL (pLog r) e), .bool (putOk (pLog r) e)]) ∧ LgF w' w.heap.size a' (putL (pLog r) e)) ∧ Ext w w' := by
 have hpo := pLog_ok hok
 obtain ⟨j, hj, hjc, hjl, hlo⟩ := rp_num hok
 obtain ⟨w1, hw1⟩ : ∃ w1, (((w.alloc (Rp.obj a A n c r)).alloc e.box).alloc Lg.zobj) = w1 := ⟨_, rfl⟩
 have X0 : Ext w w1 := by rw [← hw1]; exact ext_to (ext_to (ext_alloc _ _) _) _
 have E1 := Lib.hid (show w1.heap[w.heap.size]? = some (Rp.obj a A n c r) by rw [← hw1]; exact hOld (o := Lg.zobj) (hOld (o := e.box) (hNew (w := w) (o := Rp.obj a A n c r) rfl)))
 have E2 := Lib.hid (show w1.heap[w.heap.size + 1]? = some e.box by rw [← hw1]; exact hOld (o := Lg.zobj) (hNew (w := w.alloc (Rp.obj a A n c r)) (o := e.box) (k := w.heap.size + 1) (by simp)))
 have E3 := Lib.hid (show w1.heap[w.heap.size + 1 + 1]? = some Lg.zobj by rw [← hw1]; exact hNew (w := (w.alloc (Rp.obj a A n c r)).alloc e.box) (o := Lg.zobj) (k := w.heap.size + 1 + 1) (by simp))
 have HL := Lib.hid hl
 have X := Lib.hid X0
 have hz1_ := bx_lt E3.out
 have HW0 := Lib.hid hw1
 have HPo := Lib.hid hpo
 have HLo := Lib.hid hlo
 have HJ := Lib.hid hj
 clear hl hok hw1 X0 hpo hlo hj
 go_enter Tryz.func107, Tryz.ntmps107
 go_wp2_with (with_reducible refine wl_stop 8 ?_)
 refine stop_go (F := fun W => W = w1) HW0.out ?_
 intro W1 hW1
 subst hW1
 clear HW0
 (go_wp2_with (with_reducible refine wl_stop 8 ?_); refine stop_loadAgg (cells_mid (cs := (#[.int .i64 r.log.base, .slice a.cA r.log.cells.length a.cc, .slice a.sA r.log.seats.length a.sc, .slice a.eA r.log.ents.length a.ec] : Array Value)) E1.out [.int .i64 r.me, .int .i64 r.of, .int .i64 r.mode, .int .i64 r.view, .int .i64 r.normal, .int .i64 r.commit] [.slice A n c, .int .i64 r.cell, .int .i64 r.nonce] rfl rfl) rfl Tryz.underlying40 (by kernel_rfl) ?_; simp only [Act.put, List.setIfInBounds_toArray, List.set_cons_zero, List.set_cons_succ])
 have EQ := Lib.hid (hNew (w := W1) (o := Lg.zobj) rfl)
 (go_wp2_with (with_reducible refine wl_stopS 40 ?_); refine stop_store (W1.heap.size) (#[.int .i64 r.log.base, .slice a.cA r.log.cells.length a.cc, .slice a.sA r.log.seats.length a.sc, .slice a.eA r.log.ents.length a.ec] : Array Value) rfl rfl (EQ.out) (by kernel_rfl) rfl (by simp [Value.oneCell']) ?_)
 intro w2 e2 k2
 have x2 := chg_new (ext_alloc W1 Lg.zobj) k2 (Nat.le_refl _)
 obtain ⟨E1, E2, E3, X⟩ : Hid _ ∧ Hid _ ∧ Hid _ ∧ Hid _ := ⟨Lib.hid (x2.box E1.out), Lib.hid (x2.box E2.out), Lib.hid (x2.box E3.out), Lib.hid (Ext.trans X.out x2)⟩
 have E6 := Lib.hid e2
 have hz_w2 := x2.size
 have hlt6 := bx_lt e2
 clear e2 k2 x2 EQ
 have d6 := bx_cell E6.out
 have z6 := bx_lt E6.out
 have g6 := bx_frozen E6.out
 cases g60 : ((r.log.ents.length : Int) == 60)
 ·have HPL := Lib.hid (show pLog r = r.log by unfold pLog; rw [g60]; rfl)
  have HPl := Lib.hid (show logOk r.log = true from HLo.out)
  have HLr := Lib.hid (HL.out.keep X.out)
  go_wp2_with (with_reducible refine wl_stop 20 ?_)
  refine stop_go (F := fun W => W = w2) rfl ?_
  intro W8 hW8
  subst hW8
  clear d6 z6 g6
  (go_wp2_with (with_reducible refine wl_stop 20 ?_); refine stop_load (E6.out) rfl Tryz.underlying40 (by kernel_rfl) ?_; simp only [Act.put, List.setIfInBounds_toArray, List.set_cons_zero, List.set_cons_succ])
  (go_wp2_with (with_reducible refine wl_stop 21 ?_); refine stop_load (E2.out) rfl Tryz.underlying119 (by kernel_rfl) ?_; simp only [Act.put, List.setIfInBounds_toArray, List.set_cons_zero, List.set_cons_succ])
  go_wp2_with fail
  refine (c_sLogPut a r.log e W8 HLr.out HPl.out).mono ?_
  rintro e9 w7 ⟨⟨a7, rfl, f7⟩, x⟩
  obtain ⟨E3, X⟩ : Hid _ ∧ Hid _ := ⟨Lib.hid (x.box E3.out), Lib.hid (Ext.trans X.out x)⟩
  have hz_w7 := x.size
  have hXs := X.out.size
  have F7 := Lib.hid (f7.less (B' := w.heap.size + 1 + 1 + 1) (by omega))
  clear x f7
  obtain ⟨L7, hL7⟩ : ∃ L, putL r.log e = L := ⟨_, rfl⟩
  obtain ⟨b7, hb7⟩ : ∃ b, putOk r.log e = b := ⟨_, rfl⟩
  have HF := Lib.hid (show putL (pLog r) e = L7 ∧ putOk (pLog r) e = b7 by rw [HPL.out]; exact ⟨hL7, hb7⟩)
  rw [hL7] at F7
  rw [hL7, hb7]
  clear hL7 hb7
  (go_wp2_with (with_reducible refine wl_stopS 40 ?_); refine stop_store ((w.heap.size + 1 + 1)) (#[.int .i64 L7.base, .slice a7.cA L7.cells.length a7.cc, .slice a7.sA L7.seats.length a7.sc, .slice a7.eA L7.ents.length a7.ec] : Array Value) rfl rfl (E3.out) (by kernel_rfl) rfl (by simp [Value.oneCell']) ?_)
  intro W9 e8 k9
  have HE9 := Lib.hid e8
  have HX9 := Lib.hid (chg_new X.out k9 (by omega))
  have HF9 := Lib.hid ((F7.out.chg k9 (fun k hk => by rw [List.mem_singleton] at hk; omega)).less (B' := w.heap.size) (by omega))
  clear e8 k9
  go_wp2
  exact bodyPost_ret (results_two Tryz.results107 rfl rfl Tryz.underlying40 (by kernel_rfl) HE9.out) rfl ⟨⟨a7, by rw [HF.out.1, HF.out.2] <;> rfl, by rw [HF.out.1]; exact HF9.out⟩, HX9.out⟩
 ·have HPL0 : pLog r = foldL r.log j := by unfold pLog; rw [g60, HJ.out]; rfl
  obtain ⟨L5, hL5⟩ : ∃ L, foldL r.log j = L := ⟨_, rfl⟩
  have HPL := Lib.hid (HPL0.trans hL5)
  have HPl := Lib.hid (show logOk L5 = true by rw [← HPL.out]; exact HPo.out)
  have hcon := fun W h => c_sLogFold a r.log j W h HLo.out hjl
  simp only [hjc, hL5] at hcon
  have HCon := Lib.hid hcon
  clear hcon hL5 HPL0 hjc
  (go_wp2_with (with_reducible refine wl_stop 14 ?_); refine stop_load (E6.out) rfl Tryz.underlying40 (by kernel_rfl) ?_; simp only [Act.put, List.setIfInBounds_toArray, List.set_cons_zero, List.set_cons_succ])
  clear d6 z6 g6
  have d1 := bx_cell E1.out
  have z1 := bx_lt E1.out
  go_wp2_with fail
  refine (HCon.out _ (HL.out.keep X.out)).mono ?_
  rintro e9 w3 ⟨⟨a5, rfl, f5⟩, x⟩
  obtain ⟨E1, E2, E3, X, E6⟩ : Hid _ ∧ Hid _ ∧ Hid _ ∧ Hid _ ∧ Hid _ := ⟨Lib.hid (x.box E1.out), Lib.hid (x.box E2.out), Lib.hid (x.box E3.out), Lib.hid (Ext.trans X.out x), Lib.hid (x.box E6.out)⟩
  have hz_w3 := x.size
  have F5 := Lib.hid (f5.less (B' := W1.heap.size + 1) (by omega))
  clear x f5 d1 z1 HCon
  (go_wp2_with (with_reducible refine wl_stopS 40 ?_); refine stop_store (W1.heap.size) (#[.int .i64 L5.base, .slice a5.cA L5.cells.length a5.cc, .slice a5.sA L5.seats.length a5.sc, .slice a5.eA L5.ents.length a5.ec] : Array Value) rfl rfl (E6.out) (by kernel_rfl) rfl (by simp [Value.oneCell']) ?_)
  intro w4 e4 k4
  obtain ⟨E2, E3, X⟩ : Hid _ ∧ Hid _ ∧ Hid _ := ⟨Lib.hid (box_chg E2.out k4 (by omega)), Lib.hid (box_chg E3.out k4 (by omega)), Lib.hid (ext_chg X.out k4 (fun k hk => by rw [List.mem_singleton] at hk; omega))⟩
  have HLr := Lib.hid (F5.out.chg k4 (fun k hk => by rw [List.mem_singleton] at hk; omega)).rd
  have E6 := Lib.hid e4
  have hz_w4 := k4.size
  clear e4 k4 F5 E1
  (go_wp2_with (with_reducible refine wl_stop 20 ?_); refine stop_load (E6.out) rfl Tryz.underlying40 (by kernel_rfl) ?_; simp only [Act.put, List.setIfInBounds_toArray, List.set_cons_zero, List.set_cons_succ])
  (go_wp2_with (with_reducible refine wl_stop 21 ?_); refine stop_load (E2.out) rfl Tryz.underlying119 (by kernel_rfl) ?_; simp only [Act.put, List.setIfInBounds_toArray, List.set_cons_zero, List.set_cons_succ])
  go_wp2_with fail
  refine (c_sLogPut a5 L5 e w4 HLr.out HPl.out).mono ?_
  rintro e9 w7 ⟨⟨a7, rfl, f7⟩, x⟩
  obtain ⟨E3, X⟩ : Hid _ ∧ Hid _ := ⟨Lib.hid (x.box E3.out), Lib.hid (Ext.trans X.out x)⟩
  have hz_w7 := x.size
  have hXs := X.out.size
  have F7 := Lib.hid (f7.less (B' := w.heap.size + 1 + 1 + 1) (by omega))
  clear x f7
  obtain ⟨L7, hL7⟩ : ∃ L, putL L5 e = L := ⟨_, rfl⟩
  obtain ⟨b7, hb7⟩ : ∃ b, putOk L5 e = b := ⟨_, rfl⟩
  have HF := Lib.hid (show putL (pLog r) e = L7 ∧ putOk (pLog r) e = b7 by rw [HPL.out]; exact ⟨hL7, hb7⟩)
  rw [hL7] at F7
  rw [hL7, hb7]
  clear hL7 hb7
  (go_wp2_with (with_reducible refine wl_stopS 40 ?_); refine stop_store ((w.heap.size + 1 + 1)) (#[.int .i64 L7.base, .slice a7.cA L7.cells.length a7.cc, .slice a7.sA L7.seats.length a7.sc, .slice a7.eA L7.ents.length a7.ec] : Array Value) rfl rfl (E3.out) (by kernel_rfl) rfl (by simp [Value.oneCell']) ?_)
  intro W9 e8 k9
  have HE9 := Lib.hid e8
  have HX9 := Lib.hid (chg_new X.out k9 (by omega))
  have HF9 := Lib.hid ((F7.out.chg k9 (fun k hk => by rw [List.mem_singleton] at hk; omega)).less (B' := w.heap.size) (by omega))
  clear e8 k9
  go_wp2
  exact bodyPost_ret (results_two Tryz.results107 rfl rfl Tryz.underlying40 (by kernel_rfl) HE9.out) rfl ⟨⟨a7, by rw [HF.out.1, HF.out.2] <;> rfl, by rw [HF.out.1]; exact HF9.out⟩, HX9.out⟩
end Go.Proofs.YtkenlhdiehaemaaGreat
namespace Go.Proofs.YtkenlhdiehaemaaGreat
open Go.ChangeShapes Go.WideShapes Go.ChangeAt Go.RowKit Go.Sort
set_option linter.unusedVariables false
set_option linter.unusedSimpArgs false
theorem KZ.relog {W0 w w' w1 : World} {p : Nat} {a a' : LAd} {A : Option Addr} {c : Nat} {qs : List VtE} {R R' : Rp} {Ao : Option Addr} {co : Nat} {os : List OtE} (h : KZ W0 w p a A c qs R Ao co os) (hx : Ext w w1) (ho : LgO w1 w.heap.size w1.heap.size a' R'.log) (hg : Chg w1 w' [p]) (hb : w'.heap[p]? = some (Kp.obj a' A qs.length c R' (.slice Ao os.length co))) (hv : R'.votes = R.votes) : KZ W0 w' p a' A c qs R' Ao co os := by
 have h1 := h.keep hx
 have hb1 := bx_lt h.box
 have hsz : W0.heap.size ≤ w.heap.size := h.x.size
 have ho' := (ho.chg hg (fun k hk hm => by rw [List.mem_singleton] at hm; have := ho.low k hk; omega)).wide hsz hg.size
 have hr := (h1.rp.chgN hg (fun k hk hm => by rw [List.mem_singleton] at hm; subst hm; exact h1.pB hk)).wide (Nat.le_refl _) hg.size
 refine ⟨hb, chg_new h1.x hg h.low, h.low, ⟨ho', hr.v, by rw [hv]; exact hr.e, fun x hx hm => ?_⟩, h1.row.chg hg (fun k hk hm => by rw [List.mem_singleton] at hm; subst hm; exact h1.pO hk), h1.logs.chg hg (fun q hq k hk hm => by rw [List.mem_singleton] at hm; subst hm; exact h1.pL q hq hk), fun x hx q hq hm => ?_⟩
 ·have h3 := ho.low x hx
  have h4 := (h.rp.fpIn x (List.mem_append_right _ hm)).2
  omega
 ·rcases List.mem_append.1 hx with hx | hx
  ·have h2 := (h.logs.l q hq).lt x hm
   have h3 := ho.low x hx
   omega
  ·exact h.d x (List.mem_append_right _ hx) q hq hm
theorem KZ.beside {W0 w w' : World} {p g : Nat} {cs : Array Value} {a : LAd} {A : Option Addr} {c : Nat} {qs : List VtE} {R : Rp} {Ao : Option Addr} {co : Nat} {os : List OtE} (h : KZ W0 w p a A c qs R Ao co os) (hb : w.heap[g]? = some (.cells cs 40 (0, 0))) (hg : Chg w w' [g]) (hne : p ≠ g) (hlo : W0.heap.size ≤ g) : KZ W0 w' p a A c qs R Ao co os := by
 have hr := (h.rp.chgN hg (fun k hk hm => by rw [List.mem_singleton] at hm; subst hm; exact h.rp.apartB hb (by decide) (by decide) (by decide) (by decide) hk)).wide (Nat.le_refl _) hg.size
 exact ⟨box_chg h.box hg hne, chg_new h.x hg hlo, h.low, hr, h.row.chg hg (fun k hk hm => by rw [List.mem_singleton] at hm; subst hm; exact box_apart hb h.row (by decide) hk), h.logs.chg hg (fun q hq k hk hm => by rw [List.mem_singleton] at hm; subst hm; exact lg_box_apart hb (h.logs.l q hq) (by decide) (by decide) (by decide) hk), h.d⟩
def Rp.putE (r : Rp) (e : Ent) : Rp := if putOk (pLog r) e = true then ⟨r.me, r.of, r.mode, r.view, r.normal, r.commit, putL (pLog r) e, r.votes, r.cell, r.nonce⟩ else r
theorem putE_yes {r : Rp} {e : Ent} (h : putOk (pLog r) e = true) : r.putE e = ⟨r.me, r.of, r.mode, r.view, r.normal, r.commit, putL (pLog r) e, r.votes, r.cell, r.nonce⟩ := by unfold Rp.putE; rw [if_pos h]
theorem putE_no {r : Rp} {e : Ent} (h : putOk (pLog r) e = false) : r.putE e = r := by unfold Rp.putE; rw [h]; rfl
section
variable {W0 w : World} {p : Nat} {a : LAd} {A : Option Addr} {c : Nat} {qs : List VtE} {R : Rp} {Ao : Option Addr} {co : Nat} {os : List OtE}
set_option maxRecDepth 100000 in
set_option maxHeartbeats 8000000 in
theorem c_kput (hk : KZ W0 w p a A c qs R Ao co os) (e : Ent) (hok : rpOk R = true) :
  Calls Tryz.prog 109 #[.pointer (some ⟨p, 0, none⟩), e.val] w fun e9 w' => e9 = .returned (.bool (putOk (pLog R) e)) ∧ ∃ a', KZ W0 w' p a' A c qs (R.putE e) Ao co os := by
 have hpo := pLog_ok hok
 obtain ⟨j, hj, hjc, hjl, hlo⟩ := rp_num hok
 obtain ⟨w1, hw1⟩ : ∃ w1, (w.alloc e.box) = w1 := ⟨_, rfl⟩
 have X0 : Ext w w1 := by rw [← hw1]; exact ext_alloc _ _
 have E2 := Lib.hid (show w1.heap[w.heap.size]? = some e.box by rw [← hw1]; exact hNew (w := w) (o := e.box) rfl)
 have K := Lib.hid (hk.keep X0)
 have hp0 := bx_lt hk.box
 have hz1_ := bx_lt E2.out
 have HW0 := Lib.hid hw1
 have HPo := Lib.hid hpo
 have HLo := Lib.hid hlo
 have HJ := Lib.hid hj
 clear hk hok hw1 X0 hpo hlo hj
 go_enter Tryz.func109, Tryz.ntmps109
 go_wp2_with (with_reducible refine wl_stop 12 ?_)
 refine stop_go (F := fun W => W = w1) HW0.out ?_
 intro W1 hW1
 subst hW1
 clear HW0
 (go_wp2_with (with_reducible refine wl_stop 12 ?_); refine stop_loadAgg (kp_log K.out.box (ext_refl _)) rfl Tryz.underlying40 (by kernel_rfl) ?_; simp only [Act.put, List.setIfInBounds_toArray, List.set_cons_zero, List.set_cons_succ])
 have EQ := Lib.hid (hNew (w := W1) (o := Lg.zobj) rfl)
 (go_wp2_with (with_reducible refine wl_stopS 40 ?_); refine stop_store (W1.heap.size) (#[.int .i64 R.log.base, .slice a.cA R.log.cells.length a.cc, .slice a.sA R.log.seats.length a.sc, .slice a.eA R.log.ents.length a.ec] : Array Value) rfl rfl (EQ.out) (by kernel_rfl) rfl (by simp [Value.oneCell']) ?_)
 intro w2 e2 k2
 have x2 := chg_new (ext_alloc W1 Lg.zobj) k2 (Nat.le_refl _)
 have K := Lib.hid (K.out.keep x2)
 have E2 := Lib.hid (x2.box E2.out)
 have E6 := Lib.hid e2
 have hz_w2 := x2.size
 have hlt6 := bx_lt e2
 clear e2 k2 x2 EQ
 have d6 := bx_cell E6.out
 have z6 := bx_lt E6.out
 have g6 := bx_frozen E6.out
 cases g60 : ((R.log.ents.length : Int) == 60)
 ·have HPL := Lib.hid (show pLog R = R.log by unfold pLog; rw [g60]; rfl)
  have HPl := Lib.hid (show logOk R.log = true from HLo.out)
  go_wp2_with (with_reducible refine wl_stop 28 ?_)
  refine stop_go (F := fun W => W = w2) rfl ?_
  intro W8 hW8
  subst hW8
  clear d6 z6 g6
  (go_wp2_with (with_reducible refine wl_stop 28 ?_); refine stop_load (E6.out) rfl Tryz.underlying40 (by kernel_rfl) ?_; simp only [Act.put, List.setIfInBounds_toArray, List.set_cons_zero, List.set_cons_succ])
  (go_wp2_with (with_reducible refine wl_stop 29 ?_); refine stop_load (E2.out) rfl Tryz.underlying119 (by kernel_rfl) ?_; simp only [Act.put, List.setIfInBounds_toArray, List.set_cons_zero, List.set_cons_succ])
  go_wp2_with fail
  refine (c_iLogPut a R.log e W8 K.out.rp.rd.l HPl.out).mono ?_
  rintro e9 w7 ⟨⟨a7, rfl, f7⟩, x⟩
  have hXs := x.size
  have F7 := Lib.hid f7
  have HX := Lib.hid x
  clear f7 x
  obtain ⟨L7, hL7⟩ : ∃ L, putL R.log e = L := ⟨_, rfl⟩
  obtain ⟨b7, hb7⟩ : ∃ b, putOk R.log e = b := ⟨_, rfl⟩
  have HF := Lib.hid (show putL (pLog R) e = L7 ∧ putOk (pLog R) e = b7 by rw [HPL.out]; exact ⟨hL7, hb7⟩)
  rw [hL7] at F7
  rw [hL7, hb7]
  clear hL7 hb7
  have EQ := Lib.hid (hNew (w := w7) (o := Lg.zobj) rfl)
  (go_wp2_with (with_reducible refine wl_stopS 40 ?_); refine stop_store (w7.heap.size) (#[.int .i64 L7.base, .slice a7.cA L7.cells.length a7.cc, .slice a7.sA L7.seats.length a7.sc, .slice a7.eA L7.ents.length a7.ec] : Array Value) rfl rfl (EQ.out) (by kernel_rfl) rfl (by simp [Value.oneCell']) ?_)
  intro w8 e8 k8
  have x8 := chg_new (ext_alloc w7 Lg.zobj) k8 (Nat.le_refl _)
  have HX2 := Lib.hid (Ext.trans HX.out x8)
  have F8 := Lib.hid ((F7.out.kept x8).wide (Nat.le_refl _) x8.size)
  have E8 := Lib.hid e8
  have hz_w8 := x8.size
  clear e8 k8 x8 EQ F7 HX
  have dk := bx_cell (HX2.out.box K.out.box)
  have gk := bx_frozen (HX2.out.box K.out.box)
  have zk := bx_lt (HX2.out.box K.out.box)
  cases b7
  ·have HN := Lib.hid (putE_no HF.out.2)
   have HK9 := Lib.hid (K.out.keep HX2.out)
   clear dk gk zk
   go_wp2
   go_ret
   refine ⟨by rw [HF.out.2] <;> rfl, a, ?_⟩
   rw [HN.out]
   exact HK9.out
  ·have HY := Lib.hid (putE_yes HF.out.2)
   have P6 := box_put (box_put (box_put (box_put (HX2.out.box K.out.box) 6 (.int .i64 L7.base)) 7 (.slice a7.cA L7.cells.length a7.cc)) 8 (.slice a7.sA L7.seats.length a7.sc)) 9 (.slice a7.eA L7.ents.length a7.ec)
   simp only [List.setIfInBounds_toArray, List.set_cons_zero, List.set_cons_succ] at P6
   have HK9 := Lib.hid (K.out.relog (R' := ⟨R.me, R.of, R.mode, R.view, R.normal, R.commit, L7, R.votes, R.cell, R.nonce⟩) HX2.out F8.out (chg_set (chg_set (chg_set (chg_set (Chg.refl w8 [p]) (p := ⟨p, 6, none⟩) (by simp) (.int .i64 L7.base)) (p := ⟨p, 7, none⟩) (by simp) (.slice a7.cA L7.cells.length a7.cc)) (p := ⟨p, 8, none⟩) (by simp) (.slice a7.sA L7.seats.length a7.sc)) (p := ⟨p, 9, none⟩) (by simp) (.slice a7.eA L7.ents.length a7.ec)) P6 rfl)
   clear P6
   (go_wp2_with (with_reducible refine wl_stop 35 ?_); refine stop_load (E8.out) rfl Tryz.underlying40 (by kernel_rfl) ?_; simp only [Act.put, List.setIfInBounds_toArray, List.set_cons_zero, List.set_cons_succ])
   go_wp2
   go_ret
   refine ⟨by rw [HF.out.2] <;> rfl, a7, ?_⟩
   rw [HY.out, HF.out.1]
   exact HK9.out
 ·have HPL0 : pLog R = foldL R.log j := by unfold pLog; rw [g60, HJ.out]; rfl
  obtain ⟨L5, hL5⟩ : ∃ L, foldL R.log j = L := ⟨_, rfl⟩
  have HPL := Lib.hid (HPL0.trans hL5)
  have HPl := Lib.hid (show logOk L5 = true by rw [← HPL.out]; exact HPo.out)
  have hcon := fun W h => c_iLogFold a R.log j W h HLo.out hjl
  simp only [hjc, hL5] at hcon
  have HCon := Lib.hid hcon
  clear hcon hL5 HPL0 hjc
  have dk := bx_cell K.out.box
  have gk := bx_frozen K.out.box
  have zk := bx_lt K.out.box
  have hpn : p ≠ W1.heap.size := by have := hz1_; omega
  go_wp2
  go_region_with (go_at_call 164; refine (HCon.out _ (K.out.keep (ext_drew (ext_refl w2))).rp.rd.l).mono ?_; rintro e9 w4 ⟨⟨a5, rfl, f5⟩, x⟩; have d9 := bx_cell (x.box ((ext_drew (ext_refl w2)).box E6.out)); have z9 := bx_lt (x.box ((ext_drew (ext_refl w2)).box E6.out)); have g9 := bx_frozen (x.box ((ext_drew (ext_refl w2)).box E6.out)))
  ·have xd := ext_drew (ext_refl w2)
   have xw := Ext.trans xd x
   have P6 := box_put (box_put (box_put (box_put (xw.box E6.out) 0 (.int .i64 L5.base)) 1 (.slice a5.cA L5.cells.length a5.cc)) 2 (.slice a5.sA L5.seats.length a5.sc)) 3 (.slice a5.eA L5.ents.length a5.ec)
   simp only [List.setIfInBounds_toArray, List.set_cons_zero, List.set_cons_succ] at P6
   have c6 := chg_set (chg_set (chg_set (chg_set (Chg.refl w4 [W1.heap.size]) (p := ⟨W1.heap.size, 0, none⟩) (by simp) (.int .i64 L5.base)) (p := ⟨W1.heap.size, 1, none⟩) (by simp) (.slice a5.cA L5.cells.length a5.cc)) (p := ⟨W1.heap.size, 2, none⟩) (by simp) (.slice a5.sA L5.seats.length a5.sc)) (p := ⟨W1.heap.size, 3, none⟩) (by simp) (.slice a5.eA L5.ents.length a5.ec)
   have hz_w4 := xw.size
   have hzd := xd.size
   have HP6 := Lib.hid P6
   have HK6 := Lib.hid ((K.out.keep xw).beside (xw.box E6.out) c6 hpn (by have := K.out.low; omega))
   have HE2 := Lib.hid (box_chg (xw.box E2.out) c6 (by omega))
   have HL6 := Lib.hid (f5.chg1 c6 (by omega)).rd
   clear xd xw P6 c6 f5 x d9 z9 g9 dk gk zk d6 z6 g6 K E2 E6 HCon
   go_wp2_with (with_reducible refine wl_stop 28 ?_)
   refine stop_go (F := fun W => KZ W0 W p a A c qs R Ao co os ∧ W.heap[w.heap.size]? = some e.box ∧ W.heap[W1.heap.size]? = some (.cells #[.int .i64 L5.base, .slice a5.cA L5.cells.length a5.cc, .slice a5.sA L5.seats.length a5.sc, .slice a5.eA L5.ents.length a5.ec] 40 (0, 0)) ∧ LgR W a5 L5) ⟨HK6.out, HE2.out, HP6.out, HL6.out⟩ ?_
   intro w5 ⟨q1, q2, q3, q4⟩
   have K := Lib.hid q1
   have E2 := Lib.hid q2
   have E6 := Lib.hid q3
   have HLr := Lib.hid q4
   clear q1 q2 q3 q4 HP6 HK6 HE2 HL6
   (go_wp2_with (with_reducible refine wl_stop 28 ?_); refine stop_load (E6.out) rfl Tryz.underlying40 (by kernel_rfl) ?_; simp only [Act.put, List.setIfInBounds_toArray, List.set_cons_zero, List.set_cons_succ])
   (go_wp2_with (with_reducible refine wl_stop 29 ?_); refine stop_load (E2.out) rfl Tryz.underlying119 (by kernel_rfl) ?_; simp only [Act.put, List.setIfInBounds_toArray, List.set_cons_zero, List.set_cons_succ])
   go_wp2_with fail
   refine (c_iLogPut a5 L5 e w5 HLr.out HPl.out).mono ?_
   rintro e9 w7 ⟨⟨a7, rfl, f7⟩, x⟩
   have hXs := x.size
   have F7 := Lib.hid f7
   have HX := Lib.hid x
   clear f7 x
   obtain ⟨L7, hL7⟩ : ∃ L, putL L5 e = L := ⟨_, rfl⟩
   obtain ⟨b7, hb7⟩ : ∃ b, putOk L5 e = b := ⟨_, rfl⟩
   have HF := Lib.hid (show putL (pLog R) e = L7 ∧ putOk (pLog R) e = b7 by rw [HPL.out]; exact ⟨hL7, hb7⟩)
   rw [hL7] at F7
   rw [hL7, hb7]
   clear hL7 hb7
   have EQ := Lib.hid (hNew (w := w7) (o := Lg.zobj) rfl)
   (go_wp2_with (with_reducible refine wl_stopS 40 ?_); refine stop_store (w7.heap.size) (#[.int .i64 L7.base, .slice a7.cA L7.cells.length a7.cc, .slice a7.sA L7.seats.length a7.sc, .slice a7.eA L7.ents.length a7.ec] : Array Value) rfl rfl (EQ.out) (by kernel_rfl) rfl (by simp [Value.oneCell']) ?_)
   intro w8 e8 k8
   have x8 := chg_new (ext_alloc w7 Lg.zobj) k8 (Nat.le_refl _)
   have HX2 := Lib.hid (Ext.trans HX.out x8)
   have F8 := Lib.hid ((F7.out.kept x8).wide (Nat.le_refl _) x8.size)
   have E8 := Lib.hid e8
   have hz_w8 := x8.size
   clear e8 k8 x8 EQ F7 HX
   have dk := bx_cell (HX2.out.box K.out.box)
   have gk := bx_frozen (HX2.out.box K.out.box)
   have zk := bx_lt (HX2.out.box K.out.box)
   cases b7
   ·have HN := Lib.hid (putE_no HF.out.2)
    have HK9 := Lib.hid (K.out.keep HX2.out)
    clear dk gk zk
    go_wp2
    go_ret
    refine ⟨by rw [HF.out.2] <;> rfl, a, ?_⟩
    rw [HN.out]
    exact HK9.out
   ·have HY := Lib.hid (putE_yes HF.out.2)
    have P6 := box_put (box_put (box_put (box_put (HX2.out.box K.out.box) 6 (.int .i64 L7.base)) 7 (.slice a7.cA L7.cells.length a7.cc)) 8 (.slice a7.sA L7.seats.length a7.sc)) 9 (.slice a7.eA L7.ents.length a7.ec)
    simp only [List.setIfInBounds_toArray, List.set_cons_zero, List.set_cons_succ] at P6
    have HK9 := Lib.hid (K.out.relog (R' := ⟨R.me, R.of, R.mode, R.view, R.normal, R.commit, L7, R.votes, R.cell, R.nonce⟩) HX2.out F8.out (chg_set (chg_set (chg_set (chg_set (Chg.refl w8 [p]) (p := ⟨p, 6, none⟩) (by simp) (.int .i64 L7.base)) (p := ⟨p, 7, none⟩) (by simp) (.slice a7.cA L7.cells.length a7.cc)) (p := ⟨p, 8, none⟩) (by simp) (.slice a7.sA L7.seats.length a7.sc)) (p := ⟨p, 9, none⟩) (by simp) (.slice a7.eA L7.ents.length a7.ec)) P6 rfl)
    clear P6
    (go_wp2_with (with_reducible refine wl_stop 35 ?_); refine stop_load (E8.out) rfl Tryz.underlying40 (by kernel_rfl) ?_; simp only [Act.put, List.setIfInBounds_toArray, List.set_cons_zero, List.set_cons_succ])
    go_wp2
    go_ret
    refine ⟨by rw [HF.out.2] <;> rfl, a7, ?_⟩
    rw [HY.out, HF.out.1]
    exact HK9.out
  ·have xd := ext_drew (ext_refl w2)
   have xw := Ext.trans xd x
   have P6 := box_put (box_put (box_put (box_put (xw.box E6.out) 0 (.int .i64 L5.base)) 1 (.slice a5.cA L5.cells.length a5.cc)) 2 (.slice a5.sA L5.seats.length a5.sc)) 3 (.slice a5.eA L5.ents.length a5.ec)
   simp only [List.setIfInBounds_toArray, List.set_cons_zero, List.set_cons_succ] at P6
   have c6 := chg_set (chg_set (chg_set (chg_set (Chg.refl w4 [W1.heap.size]) (p := ⟨W1.heap.size, 0, none⟩) (by simp) (.int .i64 L5.base)) (p := ⟨W1.heap.size, 1, none⟩) (by simp) (.slice a5.cA L5.cells.length a5.cc)) (p := ⟨W1.heap.size, 2, none⟩) (by simp) (.slice a5.sA L5.seats.length a5.sc)) (p := ⟨W1.heap.size, 3, none⟩) (by simp) (.slice a5.eA L5.ents.length a5.ec)
   have hz_w4 := xw.size
   have hzd := xd.size
   have HP6 := Lib.hid P6
   have HK6 := Lib.hid ((K.out.keep xw).beside (xw.box E6.out) c6 hpn (by have := K.out.low; omega))
   have HE2 := Lib.hid (box_chg (xw.box E2.out) c6 (by omega))
   have HL6 := Lib.hid (f5.chg1 c6 (by omega)).rd
   clear xd xw P6 c6 f5 x d9 z9 g9 dk gk zk d6 z6 g6 K E2 E6 HCon
   go_wp2_with (with_reducible refine wl_stop 28 ?_)
   refine stop_go (F := fun W => KZ W0 W p a A c qs R Ao co os ∧ W.heap[w.heap.size]? = some e.box ∧ W.heap[W1.heap.size]? = some (.cells #[.int .i64 L5.base, .slice a5.cA L5.cells.length a5.cc, .slice a5.sA L5.seats.length a5.sc, .slice a5.eA L5.ents.length a5.ec] 40 (0, 0)) ∧ LgR W a5 L5) ⟨HK6.out, HE2.out, HP6.out, HL6.out⟩ ?_
   intro w5 ⟨q1, q2, q3, q4⟩
   have K := Lib.hid q1
   have E2 := Lib.hid q2
   have E6 := Lib.hid q3
   have HLr := Lib.hid q4
   clear q1 q2 q3 q4 HP6 HK6 HE2 HL6
   (go_wp2_with (with_reducible refine wl_stop 28 ?_); refine stop_load (E6.out) rfl Tryz.underlying40 (by kernel_rfl) ?_; simp only [Act.put, List.setIfInBounds_toArray, List.set_cons_zero, List.set_cons_succ])
   (go_wp2_with (with_reducible refine wl_stop 29 ?_); refine stop_load (E2.out) rfl Tryz.underlying119 (by kernel_rfl) ?_; simp only [Act.put, List.setIfInBounds_toArray, List.set_cons_zero, List.set_cons_succ])
   go_wp2_with fail
   refine (c_iLogPut a5 L5 e w5 HLr.out HPl.out).mono ?_
   rintro e9 w7 ⟨⟨a7, rfl, f7⟩, x⟩
   have hXs := x.size
   have F7 := Lib.hid f7
   have HX := Lib.hid x
   clear f7 x
   obtain ⟨L7, hL7⟩ : ∃ L, putL L5 e = L := ⟨_, rfl⟩
   obtain ⟨b7, hb7⟩ : ∃ b, putOk L5 e = b := ⟨_, rfl⟩
   have HF := Lib.hid (show putL (pLog R) e = L7 ∧ putOk (pLog R) e = b7 by rw [HPL.out]; exact ⟨hL7, hb7⟩)
   rw [hL7] at F7
   rw [hL7, hb7]
   clear hL7 hb7
   have EQ := Lib.hid (hNew (w := w7) (o := Lg.zobj) rfl)
   (go_wp2_with (with_reducible refine wl_stopS 40 ?_); refine stop_store (w7.heap.size) (#[.int .i64 L7.base, .slice a7.cA L7.cells.length a7.cc, .slice a7.sA L7.seats.length a7.sc, .slice a7.eA L7.ents.length a7.ec] : Array Value) rfl rfl (EQ.out) (by kernel_rfl) rfl (by simp [Value.oneCell']) ?_)
   intro w8 e8 k8
   have x8 := chg_new (ext_alloc w7 Lg.zobj) k8 (Nat.le_refl _)
   have HX2 := Lib.hid (Ext.trans HX.out x8)
   have F8 := Lib.hid ((F7.out.kept x8).wide (Nat.le_refl _) x8.size)
   have E8 := Lib.hid e8
   have hz_w8 := x8.size
   clear e8 k8 x8 EQ F7 HX
   have dk := bx_cell (HX2.out.box K.out.box)
   have gk := bx_frozen (HX2.out.box K.out.box)
   have zk := bx_lt (HX2.out.box K.out.box)
   cases b7
   ·have HN := Lib.hid (putE_no HF.out.2)
    have HK9 := Lib.hid (K.out.keep HX2.out)
    clear dk gk zk
    go_wp2
    go_ret
    refine ⟨by rw [HF.out.2] <;> rfl, a, ?_⟩
    rw [HN.out]
    exact HK9.out
   ·have HY := Lib.hid (putE_yes HF.out.2)
    have P6 := box_put (box_put (box_put (box_put (HX2.out.box K.out.box) 6 (.int .i64 L7.base)) 7 (.slice a7.cA L7.cells.length a7.cc)) 8 (.slice a7.sA L7.seats.length a7.sc)) 9 (.slice a7.eA L7.ents.length a7.ec)
    simp only [List.setIfInBounds_toArray, List.set_cons_zero, List.set_cons_succ] at P6
    have HK9 := Lib.hid (K.out.relog (R' := ⟨R.me, R.of, R.mode, R.view, R.normal, R.commit, L7, R.votes, R.cell, R.nonce⟩) HX2.out F8.out (chg_set (chg_set (chg_set (chg_set (Chg.refl w8 [p]) (p := ⟨p, 6, none⟩) (by simp) (.int .i64 L7.base)) (p := ⟨p, 7, none⟩) (by simp) (.slice a7.cA L7.cells.length a7.cc)) (p := ⟨p, 8, none⟩) (by simp) (.slice a7.sA L7.seats.length a7.sc)) (p := ⟨p, 9, none⟩) (by simp) (.slice a7.eA L7.ents.length a7.ec)) P6 rfl)
    clear P6
    (go_wp2_with (with_reducible refine wl_stop 35 ?_); refine stop_load (E8.out) rfl Tryz.underlying40 (by kernel_rfl) ?_; simp only [Act.put, List.setIfInBounds_toArray, List.set_cons_zero, List.set_cons_succ])
    go_wp2
    go_ret
    refine ⟨by rw [HF.out.2] <;> rfl, a7, ?_⟩
    rw [HY.out, HF.out.1]
    exact HK9.out
end
end Go.Proofs.YtkenlhdiehaemaaGreat
