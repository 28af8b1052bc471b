/- MsgFits of the program and of the reference agree. -/
import Derived.Test.YtkmkchfjnhnacaaGreatPk19
import Derived.Test.YtkmkchfjnhnacaaGreatPk18
import Derived.Test.YtkmkchfjnhnacaaGreatPk17
import Derived.Test.YtkmkchfjnhnacaaGreatPk6
import Derived.Deep.QuietTactic
import Derived.Test.YtkmkchfjnhnacaaGreatPk5
namespace Go.Proofs.YtkmkchfjnhnacaaGreat
open Go.ChangeShapes Go.WideShapes Go.ChangeAt Go.RowKit Go.Sort
set_option linter.unusedVariables false
set_option linter.unusedSimpArgs false
structure RpHO (w : World) (B T : Nat) (a : LAd) (A : Option Addr) (c : Nat) (ps : List VtE) (r : Rp) (k : Int) : Prop where
 l : LgO w B T a (r.log.mk' k r.log.base)
 v : VsO w B T A c (VtE.mks (k + r.log.mN) ps)
theorem RpHO.rd {w : World} {B T : Nat} {a : LAd} {A : Option Addr} {c : Nat} {ps : List VtE} {r : Rp} {k : Int} (h : RpHO w B T a A c ps r k) : RpH w a A c ps r k := ⟨h.l.rd, h.v.rd⟩
theorem RpHO.kept {w w' : World} {B T : Nat} {a : LAd} {A : Option Addr} {c : Nat} {ps : List VtE} {r : Rp} {k : Int} (h : RpHO w B T a A c ps r k) (hx : Ext w w') : RpHO w' B T a A c ps r k := ⟨h.l.kept hx, h.v.kept hx⟩
theorem RpHO.chg {w w' : World} {B T : Nat} {a : LAd} {A : Option Addr} {c : Nat} {ps : List VtE} {r : Rp} {k : Int} {S : List Nat} (h : RpHO w B T a A c ps r k) (hg : Chg w w' S) (hne : ∀ x, B ≤ x → x < T → x ∉ S) : RpHO w' B T a A c ps r k :=
 ⟨h.l.chg hg (fun x hx => hne x (h.l.low x hx) (h.l.top x hx)), h.v.chg hg (fun x hx => hne x (h.v.low x hx).1 (h.v.top x hx))⟩
theorem rpK_less {ps qs : List VtE} {r : Rp} (h : ps.map Prod.snd = qs.map Prod.snd) (hn : rpN ps r ≤ 1048576) : rpK 1 qs r ≤ 20000000 := by
 have hl : qs.length = ps.length := by simpa using (congrArg List.length h).symm
 have h1 := Ks_bound (1 + r.log.mN) qs qs.length (Nat.le_refl _)
 have h2 := mN_lgN r.log
 have h3 := vsN_congr h ps.length
 unfold rpK
 unfold rpN at hn
 rw [hl] at h1 ⊢
 rw [← h3] at h1
 omega
theorem OKs_bound (k : Int) (os : List OtE) (hs : ∀ p ∈ os, p.2.msg.log.small) : ∀ j, j ≤ os.length → OtE.Ks k os j ≤ k + 10485775 * j
 | 0, _ => by simp [OtE.Ks]
 | j + 1, hj => by
  have ih := OKs_bound k os hs j (by omega)
  have h1 := OtE.Ks_next k (ps := os) (j := j) (by omega)
  have h2 := Lg.mN_small _ (hs _ (List.getElem_mem (show j < os.length by omega)))
  have h4 : (os[j]'(by omega)).2.mN = 15 + (os[j]'(by omega)).2.msg.log.mN := rfl
  rw [h1, h4]
  omega
structure RoS (ps : List VtE) (R : Rp) (O : List Ot) : Prop where
 log : R.log.small
 vs : ∀ qs : List VtE, qs.map Prod.snd = R.votes → LgS qs ∧ qs.length ≤ 1048576 ∧ rpK 1 qs R ≤ 20000000
 os : ∀ o ∈ O, o.msg.log.small
 len : O.length ≤ 80
theorem RoS.outs {ps : List VtE} {R : Rp} {O : List Ot} (h : RoS ps R O) {os : List OtE} (he : os.map Prod.snd = O) : (∀ p ∈ os, p.2.msg.log.small) ∧ os.length ≤ 1048576 ∧ ∀ k : Int, k ≤ 20000000 → OtE.Ks k os os.length ≤ 1000000000 := by
 have h1 : ∀ p ∈ os, p.2.msg.log.small := fun p hp => h.os _ (by rw [← he]; exact List.mem_map_of_mem hp)
 have h2 : os.length ≤ 80 := by have := h.len; rw [← he, List.length_map] at this; exact this
 refine ⟨h1, by omega, fun k hk => ?_⟩
 have := OKs_bound k os h1 os.length (Nat.le_refl _)
 omega
theorem RoS.same {ps : List VtE} {r : Rp} {O : List Ot} (he : ps.map Prod.snd = r.votes) (hn : rpN ps r ≤ 1048576) (hlog : r.log.small) (hvs : LgS ps) {R : Rp} (h1 : R.log = r.log) (h2 : R.votes = r.votes) (h3 : ∀ o ∈ O, o.msg.log.small) (h4 : O.length ≤ 80) : RoS ps R O := by
 refine ⟨by rw [h1]; exact hlog, fun qs hq => ?_, h3, h4⟩
 rw [h2] at hq
 refine ⟨LgS.congr (he.trans hq.symm) hvs, ?_, ?_⟩
 ·have := congrArg List.length (he.trans hq.symm)
  simp at this
  unfold rpN at hn
  omega
 ·have := rpK_less (he.trans hq.symm) hn
  unfold rpK at this ⊢
  rw [h1]
  exact this
theorem RoS.nil {ps : List VtE} {R : Rp} {O : List Ot} (h1 : R.log = Lg.none) (h2 : R.votes = []) (h3 : O = []) : RoS ps R O := by
 subst h3
 refine ⟨by rw [h1]; exact ⟨by decide, by decide, by decide⟩, fun qs hq => ?_, by simp, by simp⟩
 rw [h2] at hq
 obtain rfl : qs = [] := by simpa using hq
 refine ⟨fun p hp => (List.not_mem_nil hp).elim, Nat.zero_le _, ?_⟩
 unfold rpK
 rw [h1]
 decide
def sHearB (r : Rp) (m : Mg) (kind : Int) : Bool := sFits m && ((m.kind == kind) && ((kind == 1) || (decide (m.frm < r.of) && (m.frm != r.me))))
set_option maxRecDepth 100000 in
set_option maxHeartbeats 8000000 in
theorem c_l6Hears (a : LAd) (A : Option Addr) (c : Nat) (ps : List VtE) (r : Rp) (am : LAd) (m : Mg) (kind : Int) (w : World) (hr : RpR w a A c ps r) (hs : r.log.small) (hn : ps.length ≤ 1048576) (hv : LgS ps) (hm : LgR w am m.log) (hms : m.log.small) :
  Calls Tryz.prog 153 #[Rp.val a A ps.length c r, Mg.val am m, .int .i64 kind] w fun e w' => e = .returned (.bool (rpOk r && sHearB r m kind)) ∧ Ext w w' := by
 have X0 : Ext w ((w.alloc (Rp.obj a A ps.length c r)).alloc (Mg.obj am m)) := ext_to (ext_alloc _ _) _
 have hcon := c_sReplicaOk a A c ps r _ (hr.keep X0) hs hn hv
 have HFt := Hd (fun W (h : Ext w W) => c_sMsgFits am m W hms (hm.keep h))
 have D1 := Hd (hOld (o := Mg.obj am m) (hNew (w := w) (o := Rp.obj a A ps.length c r) rfl))
 have D2 := Hd (hNew (w := w.alloc (Rp.obj a A ps.length c r)) (o := Mg.obj am m) (k := w.heap.size + 1) (by simp))
 have HX0 := Hd X0
 obtain ⟨ff, hff⟩ : ∃ ff, sFits m = ff := ⟨_, rfl⟩
 have hfc := fun W (h : Ext w W) => HFt.out W h
 rw [hff] at hfc
 have HFc := Hd hfc
 obtain ⟨V, hV⟩ : ∃ V, (rpOk r && sHearB r m kind) = V := ⟨_, rfl⟩
 have HV := Hd (show V = (rpOk r && (ff && ((m.kind == kind) && ((kind == 1) || (decide (m.frm < r.of) && (m.frm != r.me)))))) by rw [← hV, ← hff]; rfl)
 rw [hV]
 clear X0 hr hv hs hm HFt hff hfc hV
 cases q : rpOk r
 ·rw [q] at hcon HV
  have HC := Hd hcon
  clear q hcon
  go_enter Tryz.func153, Tryz.ntmps153
  (go_wp2_with (with_reducible refine wl_stop 7 ?_); refine stop_load (D1.out) rfl Tryz.underlying33 (by kernel_rfl) ?_; simp only [Act.put, Sa, Sz, Ss])
  go_wp2_with fail
  refine HC.out.mono ?_
  rintro e w1 ⟨rfl, x1⟩
  have X1 := Hd (Ext.trans HX0.out x1)
  clear x1
  go_wp2
  go_ret
  exact ⟨ret_bool (by rw [HV.out]; rfl), X1.out⟩
 ·rw [q] at hcon HV
  have HC := Hd hcon
  clear q hcon
  go_enter Tryz.func153, Tryz.ntmps153
  (go_wp2_with (with_reducible refine wl_stop 7 ?_); refine stop_load (D1.out) rfl Tryz.underlying33 (by kernel_rfl) ?_; simp only [Act.put, Sa, Sz, Ss])
  go_wp2_with fail
  refine HC.out.mono ?_
  rintro e w1 ⟨rfl, x1⟩
  have E1 := Hd (x1.box D1.out)
  have E2 := Hd (x1.box D2.out)
  have X1 := Hd (Ext.trans HX0.out x1)
  clear x1 D1 D2
  (go_wp2_with (with_reducible refine wl_stop 11 ?_); refine stop_loadG (E2.out) rfl rfl Tryz.underlying45 (by kernel_rfl) ?_; simp only [Act.put, Sa, Sz, Ss])
  go_wp2_with fail
  refine (HFc.out _ X1.out).mono ?_
  rintro e w2 ⟨rfl, x2⟩
  have X2 := Hd (Ext.trans X1.out x2)
  have d1 := bx_cell (x2.box E1.out)
  have d2 := bx_cell (x2.box E2.out)
  have z1 := bx_lt (x2.box E1.out)
  have z2 := bx_lt (x2.box E2.out)
  clear x2 E1 E2 X1 HFc
  cases ff
  ·go_wp2
   go_ret
   exact ⟨ret_bool (by rw [HV.out]; rfl), X2.out⟩
  ·go_wp2
   all_goals
    go_ret
    refine ⟨ret_bool ?_, X2.out⟩
    rw [HV.out]
    (first | (simp [*]; done) | (simp_all; done) | (simp_all; omega))
def RoT (w : World) (R : Rp) (O : List Ot) (V : Value) : Prop := ∃ a A c qs Ao co os, V = .tuple #[Rp.val a A (List.length qs) c R, .slice Ao (List.length os) co] ∧ RpR w a A c qs R ∧ OsR w Ao co os ∧ List.map Prod.snd os = O ∧
 ∀ (w' : World) (p : Nat) (cs : Array Value), w.heap[p]? = some (.cells cs 33 (0, 0)) → Chg w w' [p] → RpR w' a A c qs R ∧ OsR w' Ao co os
def LgV8 (B : Nat) (l : Lg) (v : Value) (W : World) : Prop := ∃ a, v = Lg.val a l ∧ LgF W B a l
theorem LgV8.mono (B : Nat) (l : Lg) (p : Nat) (obj : Obj) (hp : p < B) : Rm.Mono (relS p obj B hp) (LgV8 B l) := fun v w w' ⟨a, h, hf⟩ hx => ⟨a, h, hf.chg1 hx.1 hp⟩
def MgV (m : Mg) (v : Value) (w : World) : Prop := ∃ a, v = Mg.val a m ∧ LgR w a m.log
theorem MgV.mono (m : Mg) : Mono (MgV m) := fun v w w' ⟨a, h, hr⟩ hx => ⟨a, h, hr.keep hx⟩
def RoV (R : Rp) (O : List Ot) (v : Value) (w : World) : Prop := RoT w R O v
theorem RoV.mono (R : Rp) (O : List Ot) : Mono (RoV R O) := fun v w w' ⟨a, A, c, qs, Ao, co, os, h1, h2, h3, h4, h5⟩ hx => ⟨a, A, c, qs, Ao, co, os, h1, h2.keep hx, h3.keep hx, h4, fun w2 p cs hp hc => by
 by_cases hlt : p < w.heap.size
 ·exact h5 w2 p cs ((hx.block p hlt).symm.trans hp) ((chg_ext [p] hx).trans hc)
 ·have hx2 : Ext w w2 := ext_chg hx hc (fun g hg => by rw [Mi] at hg; omega)
  exact ⟨h2.keep hx2, h3.keep hx2⟩⟩
theorem vsF_mks (A : Option Addr) (k : Int) (ps : List VtE) : vsF A (VtE.mks k ps) = vsF A ps := by
 have h : (VtE.mks k ps).map Prod.fst = ps.map Prod.fst := List.ext_getElem (by simp [VtE.mks_length]) (fun i h1 h2 => by
  rw [List.length_map] at h2
  simp only [List.getElem_map]
  rw [VtE.mks_at k h2])
 have e : ∀ l : List VtE, l.flatMap (fun p => p.1.fp) = (l.map Prod.fst).flatMap LAd.fp := fun l => by rw [List.flatMap_map]
 unfold vsF
 rw [e, e, h]
theorem RpHO.chgN {w w' : World} {B T : Nat} {a : LAd} {A : Option Addr} {c : Nat} {ps : List VtE} {r : Rp} {k : Int} {S : List Nat} (h : RpHO w B T a A c ps r k) (hg : Chg w w' S) (hne : ∀ x ∈ a.fp ++ vsF A ps, x ∉ S) : RpHO w' B T a A c ps r k :=
 ⟨h.l.chg hg (fun x hx => hne x (List.mem_append_left _ hx)), h.v.chg hg (fun x hx => hne x (List.mem_append_right _ (by rw [vsF_mks] at hx; exact hx)))⟩
theorem own_one {α : Type} {enc : α → List Value} {e : TypeId} {sz : Nat} {w : World} {p B : Nat} {cs : Array Value} {x : α} (h : w.heap[p]? = some (.cells cs e (0, 0))) (hB : B ≤ p) (hc : cs.toList = enc x) (hl : (enc x).length = sz) : Ow enc e sz w B (.slice (some ⟨p, 0, none⟩) 1 1) [x] := by
 have hs : cs.size = 1 * sz := by rw [← Array.length_toList, hc, hl, Nat.one_mul]
 refine ⟨by simpa using hl, .inr ⟨p, 1, cs, rfl, hB, h, Nat.le_refl _, by unfold maxLen; omega, hs, ?_⟩⟩
 rw [List.take_of_length_le (by rw [Array.length_toList, hs]; exact Nat.le_refl _), hc]
 simp
theorem c_l6Live (a : LAd) (A : Option Addr) (n c : Nat) (r : Rp) (w : World) : Calls Tryz.prog 103 #[Rp.val a A n c r] w fun e w' => e = .returned (.bool (liveB r)) ∧ Ext w w' := by
 have X0 := ext_alloc w (Rp.obj a A n c r)
 go_enter Tryz.func103, Tryz.ntmps103
 go_wp2
 all_goals
  go_ret
  exact ⟨ret_bool (by simp_all [liveB]), ext_alloc _ _⟩
theorem c_sPrimaryOf (view n : Int) (w : World) (h : inB view 0 1000000000 = true) (h2 : ofB n = true) : Calls Tryz.prog 127 #[.int .i64 view, .int .i64 n] w fun e w' => e = .returned (.int .i64 (view % n)) ∧ Ext w w' := by
 have hv := (inB_yes _ _ _).1 h
 have ho := ofB_b h2
 have ho' : n ≠ 0 := by omega
 have ho2 : (n == 0) = false := by simpa using ho'
 have HC := Hd (fun W => h ▸ c_l1Whole view W)
 have HD := Hd (fun W => h2 ▸ c_l6Of n W)
 clear h h2
 go_enter Tryz.func127, Tryz.ntmps127
 go_wp2_with fail
 refine (HC.out _).mono ?_
 rintro e w1 ⟨rfl, x1⟩
 go_wp2_with fail
 refine (HD.out _).mono ?_
 rintro e w2 ⟨rfl, x2⟩
 go_wp2
 go_ret
 exact ⟨ret_int (by first | rfl | (simp; done) | omega), Ext.trans x1 x2⟩
theorem c_l6Leads (a : LAd) (A : Option Addr) (n c : Nat) (r : Rp) (w : World) (h : inB r.view 0 1000000000 = true) (h2 : ofB r.of = true) : Calls Tryz.prog 114 #[Rp.val a A n c r] w fun e w' => e = .returned (.bool (leadsB r)) ∧ Ext w w' := by
 have X0 := ext_alloc w (Rp.obj a A n c r)
 have HB := Hd (hNew (w := w) (o := Rp.obj a A n c r) rfl)
 have HH := Hd h
 have HH2 := Hd h2
 clear h h2
 go_enter Tryz.func114, Tryz.ntmps114
 go_wp2
 (refine Rm.wp_region_mix' (R := relE (w.alloc (Rp.obj a A n c r)).heap.size) (fun _ _ _ => True) (fun _ _ _ _ _ hq => hq) 8 (by first | exact Nat.le_refl _ | omega | (simp; omega)) (by kernel_rfl) (by kernel_rfl) ?_; simp only [Tc, Tz, Dc, Dz])
 ((iterate 1 (refine Rm.wpMix_plain rfl rfl ?_; go_big_quiet_step (fail); refine wpQuiet_nil ?_)); (refine Rm.wpMix_load1 (fun W9' h9 => show W9'.cell? _ = some (.int .i64 r.view) from bx_cell (Ext.box h9 HB.out) 3) rfl rfl rfl Tryz.underlying3 rfl ?_; simp only [Act.put, Sa, Sz, Ss]); (iterate 1 (refine Rm.wpMix_plain rfl rfl ?_; go_big_quiet_step (fail); refine wpQuiet_nil ?_)); (refine Rm.wpMix_load1 (fun W9' h9 => show W9'.cell? _ = some (.int .i64 r.of) from bx_cell (Ext.box h9 HB.out) 1) rfl rfl rfl Tryz.underlying3 rfl ?_; simp only [Act.put, Sa, Sz, Ss]))
 (refine Rm.wpMix_det rfl rfl rfl (enters Tryz.func127 (by kernel_rfl) rfl) (fun W9' h9 => c_sPrimaryOf r.view r.of W9' HH.out HH2.out) rfl ?_; simp only [Act.put, Sa, Sz, Ss])
 ((iterate 1 (refine Rm.wpMix_plain rfl rfl ?_; go_big_quiet_step (fail); refine wpQuiet_nil ?_)); (refine Rm.wpMix_load1 (fun W9' h9 => show W9'.cell? _ = some (.int .i64 r.me) from bx_cell (Ext.box h9 HB.out) 0) rfl rfl rfl Tryz.underlying3 rfl ?_; simp only [Act.put, Sa, Sz, Ss]); (iterate 1 (refine Rm.wpMix_plain rfl rfl ?_; go_big_quiet_step (fail); refine wpQuiet_nil ?_)))
 refine Rm.wpMix_nil ?_
 rintro W1 hW1
 have x1 : Ext (w.alloc (Rp.obj a A n c r)) W1 := hW1
 go_wp2
 go_ret
 exact ⟨ret_bool (by unfold leadsB; exact Bool.eq_iff_iff.2 (by simp only [beq_iff_eq]; exact eq_comm)), Ext.trans X0 x1⟩
structure OsK (w : World) (B : Nat) (A : Option Addr) (c : Nat) (os : List OtE) : Prop where
 row : Ow OtE.enc 47 18 w B (.slice A os.length c) os
 logs : OsF w B os
section
variable {w w' : World} {B : Nat} {A : Option Addr} {c : Nat} {os : List OtE}
theorem OsK.keep (h : OsK w B A c os) (hx : Ext w w') : OsK w' B A c os := ⟨h.row.kept hx, fun q hq => (h.logs q hq).keep hx⟩
theorem OsK.rd (h : OsK w B A c os) : OsR w A c os := ⟨(Ow.rdF OtE.len h.row).1, fun q hq => (h.logs q hq).rd⟩
theorem OsK.boxed {p : Nat} {cs : Array Value} {t : TypeId} (h : OsK w B A c os) (hb : w.heap[p]? = some (.cells cs t (0, 0))) (h1 : t ≠ 101) (h2 : t ≠ 103) (h3 : t ≠ 70) (h4 : t ≠ 47) (hg : Chg w w' [p]) : OsK w' B A c os :=
 ⟨h.row.chg hg (fun k hk hm => by rw [Mi] at hm; subst hm; exact box_apart hb h.row h4 hk), fun q hq => (h.logs q hq).boxed hb h1 h2 h3 hg⟩
theorem OsK.nil {p : Nat} (h : w.heap[p]? = some (.cells #[] 47 (0, 0))) (hB : B ≤ p) : OsK w B (some ⟨p, 0, none⟩) 0 [] := ⟨own_empty h hB, fun q hq => (List.not_mem_nil hq).elim⟩
theorem OsK.one {p : Nat} {a : LAd} {o : Ot} (h : w.heap[p]? = some (.cells (OtE.cells a o) 47 (0, 0))) (hB : B ≤ p) (hl : LgF w B a o.msg.log) : OsK w B (some ⟨p, 0, none⟩) 1 [(a, o)] :=
 ⟨own_one h hB rfl (OtE.len _), fun q hq => by rw [Mi] at hq; subst hq; exact hl⟩
theorem none_lgF (w : World) (B : Nat) : LgF w B LAd.none Lg.none := ⟨RdF.nil _ _ _ _ _, RdF.nil _ _ _ _ _, RdF.nil _ _ _ _ _⟩
theorem RoT.of {a : LAd} {A' : Option Addr} {c' : Nat} {qs : List VtE} {R : Rp} {B' : Nat} {O : List Ot} (h : RpF w B' a A' c' qs R) (k : OsK w B A c os) (e : List.map Prod.snd os = O) : RoT w R O (.tuple #[Rp.val a A' (List.length qs) c' R, .slice A (List.length os) c]) :=
 ⟨a, A', c', qs, A, c, os, rfl, h.rd, k.rd, e, fun w2 p cs hp hc => ⟨(h.boxed hp hc).rd, (k.boxed hp (by decide) (by decide) (by decide) (by decide) hc).rd⟩⟩
end
theorem c_l6Ask (a : LAd) (A : Option Addr) (n c : Nat) (r : Rp) (view op to : Int) (w : World) : Calls Tryz.prog 159 #[Rp.val a A n c r, .int .i64 view, .int .i64 op, .int .i64 to] w fun e w' => (∃ p, e = .returned (.slice (some ⟨p, 0, none⟩) 1 1) ∧ w.heap.size ≤ p ∧ OsK w' w.heap.size (some ⟨p, 0, none⟩) 1 [(LAd.none, ⟨to, askM2 r view op⟩)]) ∧ Ext w w' := by
 have X0 := ext_alloc w (Rp.obj a A n c r)
 go_enter Tryz.func159, Tryz.ntmps159
 go_wp2
 go_ret
 exact ⟨⟨_, rfl, by simp, OsK.one (hNew (by simp)) (by simp) (none_lgF _ _)⟩, ext_to X0 _⟩
theorem c_l1Max (a b : Int) (w : World) : Calls Tryz.prog 79 #[.int .i64 a, .int .i64 b] w fun e w' => e = .returned (.int .i64 (max a b)) ∧ Ext w w' := by
 go_enter Tryz.func79, Tryz.ntmps79
 go_wp2
 all_goals
  go_ret
  exact ⟨ret_int (by omega), ext_refl _⟩
theorem c_l1Min (a b : Int) (w : World) : Calls Tryz.prog 83 #[.int .i64 a, .int .i64 b] w fun e w' => e = .returned (.int .i64 (min a b)) ∧ Ext w w' := by
 go_enter Tryz.func83, Tryz.ntmps83
 go_wp2
 all_goals
  go_ret
  exact ⟨ret_int (by omega), ext_refl _⟩
theorem lg_whole {w w' : World} {p : Nat} {a : LAd} {l : Lg} (hb : w.heap[p]? = some (.cells (Lg.cs a l) 30 (0, 0))) (hx : Ext w w') : ∀ j v, (Lg.cs a l).toList[j]? = some v → w'.cell? ⟨p, 0 + j, none⟩ = some v := cells_mid (cs := Lg.cs a l) (hx.box hb) [] [] rfl rfl
theorem RpF.beside {w w' : World} {B B' : Nat} {a : LAd} {A A' : Option Addr} {n c c' : Nat} {ps : List VtE} {r : Rp} {os : List OtE} (h : RpF w B a A c ps r) (k : Ow OtE.enc 47 18 w B' (.slice A' n c') os) (hg : Chg w w' (blk A')) : RpF w' B a A c ps r :=
 ⟨h.l.besideO k hg, h.v.chg VtE.len hg (fun hl x hx => (h.v.2 hl).apart k (by decide) x hx), fun q hq => (h.vl q hq).besideO k hg, h.e⟩
theorem OsK.less {w : World} {B B' : Nat} {A : Option Addr} {c : Nat} {os : List OtE} (h : OsK w B A c os) (hB : B' ≤ B) : OsK w B' A c os := ⟨h.row.less hB, fun q hq => (h.logs q hq).less hB⟩
theorem OsK.chg1 {w w' : World} {B g : Nat} {A : Option Addr} {c : Nat} {os : List OtE} (h : OsK w B A c os) (hg : Chg w w' [g]) (hlt : g < B) : OsK w' B A c os :=
 ⟨h.row.chg hg (fun k hk hm => by rw [Mi] at hm; have := (h.row.inB k hk).1; omega), fun q hq => (h.logs q hq).chg1 hg hlt⟩
def AskV (B : Nat) (o : Ot) (v : Value) (W : World) : Prop := ∃ p, v = .slice (some ⟨p, 0, none⟩) 1 1 ∧ OsK W B (some ⟨p, 0, none⟩) 1 [(LAd.none, o)]
theorem AskV.mono (B : Nat) (o : Ot) (p : Nat) (obj : Obj) (hp : p < B) : Rm.Mono (relS p obj B hp) (AskV B o) := fun v w w' ⟨g, h, hk⟩ hx => ⟨g, h, hk.chg1 hx.1 hp⟩
set_option maxRecDepth 100000 in
set_option maxHeartbeats 4000000 in
theorem c_l7Take (a : LAd) (A : Option Addr) (n c : Nat) (R : Rp) (view : Int) (al : LAd) (l : Lg) (commit : Int) (w : World) (hl : LgR w al l) (hs : l.small) (hok : logOk l = true) :
  Calls Tryz.prog 162 #[Rp.val a A n c R, .int .i64 view, Lg.val al l, .int .i64 commit] w fun e w' => (∃ a' g, e = .returned (Rp.val a' (some ⟨g, 0, none⟩) 0 0 (R.lead view l (max commit R.commit))) ∧ RpF w' w.heap.size a' (some ⟨g, 0, none⟩) 0 [] (R.lead view l (max commit R.commit))) ∧ Ext w w' := by
 have HL := Hd hl
 have HS := Hd hs
 have HO := Hd hok
 obtain ⟨R1, hR1⟩ : ∃ R1 : Rp, R1 = ⟨R.me, R.of, 1, view, view, R.commit, R.log, R.votes, view, R.nonce⟩ := ⟨_, rfl⟩
 have X0 : Ext w (((w.alloc (Rp.obj a A n c ⟨R.me, R.of, 1, view, view, R.commit, R.log, R.votes, view, R.nonce⟩)).alloc (.cells (Lg.cs al l) 30)).alloc Rp.zobj) := ext_to (ext_to (ext_alloc _ _) _) _
 have D1 := Hd (hOld (o := Rp.zobj) (hOld (o := .cells (Lg.cs al l) 30) (hNew (w := w) (o := Rp.obj a A n c ⟨R.me, R.of, 1, view, view, R.commit, R.log, R.votes, view, R.nonce⟩) rfl)))
 have D2 := Hd (hOld (o := Rp.zobj) (hNew (w := w.alloc (Rp.obj a A n c ⟨R.me, R.of, 1, view, view, R.commit, R.log, R.votes, view, R.nonce⟩)) (o := .cells (Lg.cs al l) 30) (k := w.heap.size + 1) (by simp)))
 have D3 := Hd (hNew (w := (w.alloc (Rp.obj a A n c ⟨R.me, R.of, 1, view, view, R.commit, R.log, R.votes, view, R.nonce⟩)).alloc (.cells (Lg.cs al l) 30)) (o := Rp.zobj) (k := w.heap.size + 1 + 1) (by simp))
 have HX0 := Hd X0
 clear hl hs hok X0 hR1 R1
 go_enter Tryz.func162, Tryz.ntmps162
 (go_wp2_with (with_reducible refine wl_stop 16 ?_); refine stop_load (D2.out) rfl Tryz.underlying30 (by kernel_rfl) ?_; simp only [Act.put, Sa, Sz, Ss])
 go_wp2_with fail
 refine (c_l3Copy al l HS.out _ (HL.out.keep HX0.out)).mono ?_
 rintro e w4 ⟨a4, rfl, f4, x4⟩
 have E1 := x4.box D1.out
 have b1 := bx_cell E1
 have g1 := bx_frozen E1
 have z1 := bx_lt E1
 have P4 := box_put (box_put (box_put (box_put E1 6 (.int .i64 l.base)) 7 (.slice a4.cA l.cells.length a4.cc)) 8 (.slice a4.sA l.seats.length a4.sc)) 9 (.slice a4.eA l.ents.length a4.ec)
 simp only [Sa, Sz, Ss] at P4
 have c4 := chg_set (chg_set (chg_set (chg_set (Chg.refl w4 [w.heap.size]) (p := ⟨w.heap.size, 6, none⟩) (by simp) (.int .i64 l.base)) (p := ⟨w.heap.size, 7, none⟩) (by simp) (.slice a4.cA l.cells.length a4.cc)) (p := ⟨w.heap.size, 8, none⟩) (by simp) (.slice a4.sA l.seats.length a4.sc)) (p := ⟨w.heap.size, 9, none⟩) (by simp) (.slice a4.eA l.ents.length a4.ec)
 have HP4 := Hd P4
 have HF4 := Hd ((f4.less (B' := w.heap.size + 1 + 1 + 1) (by simp)).chg c4 (fun k hk => by rw [Mi] at hk; omega))
 have HB4 := Hd (box_out' (x4.box D2.out) c4 (by simp))
 have HZ4 := Hd (box_out' (x4.box D3.out) c4 (by simp; omega))
 have HX4 := Hd (chg_new (Ext.trans HX0.out x4) c4 (Nat.le_refl _))
 clear E1 P4 c4 f4 x4 D1 D2 D3 HX0
 go_wp2
 refine code_go (F := fun W => W.heap[w.heap.size]? = some (Rp.obj a4 A n c ⟨R.me, R.of, 1, view, view, R.commit, l, R.votes, view, R.nonce⟩) ∧ LgF W (w.heap.size + 1 + 1 + 1) a4 l ∧ W.heap[w.heap.size + 1]? = some (.cells (Lg.cs al l) 30) ∧ W.heap[w.heap.size + 1 + 1]? = some Rp.zobj ∧ Ext w W) ⟨HP4.out, HF4.out, HB4.out, HZ4.out, HX4.out⟩ ?_
 intro W5 ⟨e5, f5, b5, z5, x5⟩
 have E5 := Hd e5
 have F5 := Hd f5
 have B5 := Hd b5
 have Z5 := Hd z5
 have X5 := Hd x5
 have hz5 := bx_lt z5
 clear e5 f5 b5 z5 x5 HP4 HF4 HB4 HZ4 HX4 b1 g1 z1
 (refine Rm.wp_region_mix' (R := relE W5.heap.size) (fun _ _ _ => True) (fun _ _ _ _ _ hq => hq) 8 (by first | exact Nat.le_refl _ | omega | (simp; omega)) (by kernel_rfl) (by kernel_rfl) ?_; simp only [Tc, Tz, Dc, Dz])
 ((iterate 2 (refine Rm.wpMix_plain rfl rfl ?_; go_big_quiet_step (fail); refine wpQuiet_nil ?_)))
 (refine Rm.wpMix_load1 (fun W9' h9 => show W9'.cell? _ = some (.int .i64 R.commit) from bx_cell (Ext.box h9 E5.out) 5) rfl rfl rfl Tryz.underlying3 rfl ?_; simp only [Act.put, Sa, Sz, Ss])
 (refine Rm.wpMix_det rfl rfl rfl (enters Tryz.func79 (by kernel_rfl) rfl) (fun W9' h9 => c_l1Max commit R.commit W9') rfl ?_; simp only [Act.put, Sa, Sz, Ss])
 (refine Rm.wpMix_loadAgg (fun W9' h9 => lg_whole B5.out h9) rfl rfl rfl Tryz.underlying30 (by kernel_rfl) ?_; simp only [Act.put, Sa, Sz, Ss])
 (refine Rm.wpMix_det rfl rfl rfl (enters Tryz.func36 (by kernel_rfl) rfl) (fun W9' h9 => c_sLogEnd al l HS.out.1 HS.out.2.1 HS.out.2.2 W9' (HL.out.keep (Ext.trans X5.out h9)) HO.out) rfl ?_; simp only [Act.put, Sa, Sz, Ss])
 (refine Rm.wpMix_det rfl rfl rfl (enters Tryz.func83 (by kernel_rfl) rfl) (fun W9' h9 => c_l1Min (max commit R.commit) l.fin W9') rfl ?_; simp only [Act.put, Sa, Sz, Ss])
 (iterate 1 (refine Rm.wpMix_plain rfl rfl ?_; go_big_quiet_step (fail); refine wpQuiet_nil ?_))
 refine Rm.wpMix_nil ?_
 rintro W6 hW
 have x6 : Ext W5 W6 := hW
 have E6 := x6.box E5.out
 have b6 := bx_cell E6
 have g6 := bx_frozen E6
 have z6 := bx_lt E6
 have P6 := box_put (box_put E6 5 (.int .i64 (min (max commit R.commit) l.fin))) 10 (.slice (some ⟨W6.heap.size, 0, none⟩) 0 0)
 simp only [Sa, Sz, Ss] at P6
 have c6 := chg_set (chg_set (Chg.refl W6 [w.heap.size]) (p := ⟨w.heap.size, 5, none⟩) (by simp) (.int .i64 (min (max commit R.commit) l.fin))) (p := ⟨w.heap.size, 10, none⟩) (by simp) (.slice (some ⟨W6.heap.size, 0, none⟩) 0 0)
 have HP6 := Hd (hOld (o := .cells #[] 53) P6)
 have HF6 := Hd (((F5.out.keep x6).chg c6 (fun k hk => by rw [Mi] at hk; omega)).keep (ext_alloc _ (.cells #[] 53)))
 have HZ6 := Hd (hOld (o := .cells #[] 53) (box_out' (x6.box Z5.out) c6 (by simp; omega)))
 have HX6 := Hd (Ext.trans (chg_new (Ext.trans X5.out x6) c6 (Nat.le_refl _)) (ext_alloc _ (.cells #[] 53)))
 clear E6 P6 c6 x6 hW E5 F5 B5 Z5 X5
 go_wp2_with (with_reducible refine wl_stop 29 ?_)
 refine stop_go (F := fun W => W.heap[w.heap.size]? = some (Rp.obj a4 (some ⟨W6.heap.size, 0, none⟩) 0 0 (R.lead view l (max commit R.commit))) ∧ LgF W (w.heap.size + 1 + 1 + 1) a4 l ∧ W.heap[w.heap.size + 1 + 1]? = some Rp.zobj ∧ Ext w W) ⟨HP6.out, HF6.out, HZ6.out, HX6.out⟩ ?_
 intro W7 ⟨e7, f7, z7, x7⟩
 have E7 := Hd e7
 have F7 := Hd f7
 have Z7 := Hd z7
 have X7 := Hd x7
 clear e7 f7 z7 x7 HP6 HF6 HZ6 HX6 b6 g6 z6
 (go_wp2_with (with_reducible refine wl_stop 29 ?_); refine stop_load (E7.out) rfl Tryz.underlying33 (by kernel_rfl) ?_; simp only [Act.put, Sa, Sz, Ss])
 (go_wp2_with (with_reducible refine wl_stopS 33 ?_); refine stop_store ((w.heap.size + 1 + 1)) (Rp.cs a4 (some ⟨W6.heap.size, 0, none⟩) 0 0 (R.lead view l (max commit R.commit))) rfl rfl (Z7.out) (by kernel_rfl) rfl (by simp [Value.oneCell']) ?_)
 intro W9 e9 k9
 have HE9 := Hd e9
 have HX9 := Hd (chg_new X7.out k9 (by omega))
 have HF9 := Hd ((F7.out.chg k9 (fun k hk => by rw [Mi] at hk; omega)).less (B' := w.heap.size) (by omega))
 clear e9 k9
 go_wp2
 exact bodyPost_ret (results_box Tryz.results162 rfl Tryz.underlying33 (by kernel_rfl) HE9.out) rfl ⟨⟨a4, W6.heap.size, rfl, HF9.out, ⟨⟨Nat.le_refl _, by unfold maxLen; omega, fun h => absurd h (by simp)⟩, fun h => absurd h (by simp)⟩, fun p hp => (List.not_mem_nil hp).elim, rfl⟩, HX9.out⟩
def half2 (r : Rp) : Int := Int.tdiv (r.of - 1) 2
theorem half2_nn {r : Rp} (h : 0 ≤ r.of) : 0 ≤ half2 r := by
 unfold half2
 by_cases h : r.of = 0
 ·rw [h]; decide
 ·exact Int.tdiv_nonneg (by omega) (by omega)
theorem e_l6Half (a : LAd) (A : Option Addr) (n c : Nat) (r : Rp) (w : World) (h0 : 0 ≤ r.of) (h1 : r.of ≤ 100) : Calls Tryz.prog 161 #[Rp.val a A n c r] w fun e w' => e = .returned (.int .i64 (half2 r)) ∧ Ext w w' := by
 have X0 := ext_alloc w (Rp.obj a A n c r)
 go_enter Tryz.func161, Tryz.ntmps161
 go_wp2
 go_ret
 exact ⟨rfl, X0⟩
end Go.Proofs.YtkmkchfjnhnacaaGreat
