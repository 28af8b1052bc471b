/- What a replica does when it hears, in plain words. -/
import Derived.Test.YtkenlhdiehaemaaGreatPk38
import Derived.Lib.MinMax
import Derived.Test.YtkenlhdiehaemaaGreatPk14
namespace Go.Proofs.YtkenlhdiehaemaaGreat
open Go.ChangeShapes Go.WideShapes Go.ChangeAt Go.RowKit Go.Sort
set_option linter.unusedVariables false
set_option linter.unusedSimpArgs false
abbrev Lg.cs (a : LAd) (l : Lg) : Array Value := #[.int .i64 l.base, .slice a.cA l.cells.length a.cc, .slice a.sA l.seats.length a.sc, .slice a.eA l.ents.length a.ec]
def liveB (r : Rp) : Bool := (r.mode == 1) || (r.mode == 2)
def leadsB (r : Rp) : Bool := r.me == r.view % r.of
theorem logOk_facts {l : Lg} (h : logOk l = true) : 0 ≤ l.base ∧ l.base ≤ 1000000000 ∧ l.ents.length ≤ 60 ∧ l.fin ≤ 1000000000 := by
 have h1 := of_decide_eq_true h
 have h2 := (inB_yes _ _ _).1 h1.1
 have h3 := (inB_yes _ _ _).1 h1.2.2.2.1
 exact ⟨h2.1, h2.2, h1.2.2.1, h3.2⟩
structure RpGood (r : Rp) : Prop where
 of : r.of = 1 ∨ r.of = 3 ∨ r.of = 5
 me0 : 0 ≤ r.me
 me1 : r.me < r.of
 view0 : 0 ≤ r.view
 view1 : r.view ≤ 1000000000
 lok : logOk r.log = true
 base0 : 0 ≤ r.log.base
 base1 : r.log.base ≤ 1000000000
 ents : r.log.ents.length ≤ 60
 fin : r.log.fin ≤ 1000000000
 c0 : r.log.base ≤ r.commit
 c1 : r.commit ≤ r.log.fin
 votes : r.votes.length ≤ 20
theorem rpOk_good {r : Rp} (h : rpOk r = true) : RpGood r := by
 unfold rpOk at h
 simp only [Bool.and_eq_true, decide_eq_true_eq, inB_yes] at h
 obtain ⟨⟨⟨⟨⟨⟨⟨⟨⟨h1, h2⟩, h3⟩, h4⟩, h5⟩, h6⟩, h7⟩, h8⟩, h9⟩, h10⟩ := h
 have ho : r.of = 1 ∨ r.of = 3 ∨ r.of = 5 := by simp [ofB] at h1; omega
 obtain ⟨k1, k2, k3⟩ := hasNum_ok h7
 obtain ⟨g1, g2, g3, g4⟩ := logOk_facts k1
 exact ⟨ho, h2.1, by omega, h3.1, h3.2, k1, g1, g2, g3, g4, k2, k3, h8⟩
theorem hear_facts {r : Rp} {m : Mg} {kind : Int} (h : (rpOk r && hearB r m kind) = true) : rpOk r = true ∧ iFits m = true ∧ m.kind = kind := by
 unfold hearB at h
 simp only [Bool.and_eq_true, beq_iff_eq] at h
 exact ⟨h.1, h.2.1, h.2.2.1⟩
set_option maxHeartbeats 1000000 in
theorem c_isPrimary (p : Nat) (a : LAd) (A : Option Addr) (n c : Nat) (r : Rp) (O : Value) (w : World) (hb : w.heap[p]? = some (Kp.obj a A n c r O)) (ho : r.of = 1 ∨ r.of = 3 ∨ r.of = 5) (h0 : 0 ≤ r.view) : Calls Tryz.prog 91 #[.pointer (some ⟨p, 0, none⟩)] w fun e w' => e = .returned (.bool (leadsB r)) ∧ Ext w w' := by
 have HB := Hd hb
 have ho' : r.of ≠ 0 := by omega
 have ho2 : (r.of == 0) = false := by simpa using ho'
 clear hb ho
 go_enter Tryz.func91, Tryz.ntmps91
 go_wp2
 (refine Rm.wp_region_mix' (R := relE w.heap.size) (fun _ _ _ => True) (fun _ _ _ _ _ hq => hq) 18 (by first | exact Nat.le_refl _ | omega | (simp; omega)) (by kernel_rfl) (by kernel_rfl) ?_; simp only [Tc, Tz, Dc, Dz])
 ((iterate 1 (refine Rm.wpMix_plain rfl rfl ?_; go_big_quiet_step (fail); refine wpQuiet_nil ?_)); (refine Rm.wpMix_nilp rfl rfl rfl ?_; simp only [Act.put, Sa, Sz, Ss]); (iterate 2 (refine Rm.wpMix_plain rfl rfl ?_; go_big_quiet_step (fail); refine wpQuiet_nil ?_)); (refine Rm.wpMix_load1 (fun W9' h9 => show W9'.cell? _ = some (.int .i64 r.me) from bx_cell (Ext.box h9 HB.out) 0) rfl rfl rfl Tryz.underlying3 rfl ?_; simp only [Act.put, Sa, Sz, Ss]); (iterate 1 (refine Rm.wpMix_plain rfl rfl ?_; go_big_quiet_step (fail); refine wpQuiet_nil ?_)); (refine Rm.wpMix_nilp rfl rfl rfl ?_; simp only [Act.put, Sa, Sz, Ss]); (iterate 2 (refine Rm.wpMix_plain rfl rfl ?_; go_big_quiet_step (fail); refine wpQuiet_nil ?_)); (refine Rm.wpMix_load1 (fun W9' h9 => show W9'.cell? _ = some (.int .i64 r.view) from bx_cell (Ext.box h9 HB.out) 3) rfl rfl rfl Tryz.underlying3 rfl ?_; simp only [Act.put, Sa, Sz, Ss]); (iterate 1 (refine Rm.wpMix_plain rfl rfl ?_; go_big_quiet_step (fail); refine wpQuiet_nil ?_)); (refine Rm.wpMix_nilp rfl rfl rfl ?_; simp only [Act.put, Sa, Sz, Ss]); (iterate 2 (refine Rm.wpMix_plain rfl rfl ?_; go_big_quiet_step (fail); refine wpQuiet_nil ?_)); (refine Rm.wpMix_load1 (fun W9' h9 => show W9'.cell? _ = some (.int .i64 r.of) from bx_cell (Ext.box h9 HB.out) 1) rfl rfl rfl Tryz.underlying3 rfl ?_; simp only [Act.put, Sa, Sz, Ss]))
 ((iterate 3 (refine Rm.wpMix_plain rfl rfl ?_; go_big_quiet_step (fail); refine wpQuiet_nil ?_)))
 refine Rm.wpMix_nil ?_
 rintro W1 hW1
 have x1 : Ext w W1 := hW1
 go_wp2
 go_ret
 exact ⟨rfl, x1⟩
set_option maxHeartbeats 1000000 in
theorem c_half (p : Nat) (a : LAd) (A : Option Addr) (n c : Nat) (r : Rp) (O : Value) (w : World) (hb : w.heap[p]? = some (Kp.obj a A n c r O)) (ho : r.of = 1 ∨ r.of = 3 ∨ r.of = 5) : Calls Tryz.prog 158 #[.pointer (some ⟨p, 0, none⟩)] w fun e w' => e = .returned (.int .i64 ((r.of - 1) / 2)) ∧ Ext w w' := by
 have d := bx_cell hb
 have z := bx_lt hb
 have h1 : 1 ≤ r.of ∧ r.of ≤ 5 := by omega
 clear hb ho
 go_enter Tryz.func158, Tryz.ntmps158
 go_wp2
 go_ret
 exact ⟨rfl, ext_refl _⟩
theorem kp_log {w w' : World} {p : Nat} {a : LAd} {A : Option Addr} {n c : Nat} {r : Rp} {O : Value} (hb : w.heap[p]? = some (Kp.obj a A n c r O)) (hx : Ext w w') : ∀ j v, (Lg.cs a r.log).toList[j]? = some v → w'.cell? ⟨p, 6 + j, none⟩ = some v :=
 cells_mid (cs := Lg.cs a r.log) (hx.box hb) [.int .i64 r.me, .int .i64 r.of, .int .i64 r.mode, .int .i64 r.view, .int .i64 r.normal, .int .i64 r.commit] [.slice A n c, .int .i64 r.cell, .int .i64 r.nonce, O] rfl rfl
section
variable {W0 w : World} {p : Nat} {a : LAd} {A : Option Addr} {c : Nat} {qs : List VtE} {R : Rp} {Ao : Option Addr} {co : Nat} {os : List OtE}
theorem none_small : Lg.none.small := ⟨by simp [Lg.none], by simp [Lg.none], by simp [Lg.none]⟩
theorem none_rd (w : World) : LgR w LAd.none Lg.none := ⟨⟨Nat.le_refl _, by unfold maxLen; decide, fun h => absurd h (by decide)⟩, ⟨Nat.le_refl _, by unfold maxLen; decide, fun h => absurd h (by decide)⟩, ⟨Nat.le_refl _, by unfold maxLen; decide, fun h => absurd h (by decide)⟩⟩
end
def VsOk (ps : List VtE) : Prop := ∀ p ∈ ps, logOk p.2.log = true
instance (ps : List VtE) : Decidable (VsOk ps) := inferInstanceAs (Decidable (∀ p ∈ ps, _))
def OkTo (ps : List VtE) (k : Nat) : Prop := ∀ j (h : j < ps.length), j < k → logOk ps[j].2.log = true
theorem OkTo.next {ps : List VtE} {k : Nat} (h : OkTo ps k) (hk : k < ps.length) (hs : logOk ps[k].2.log = true) : OkTo ps (k + 1) := fun j hj hjk => by
 by_cases he : j = k
 ·subst he; exact hs
 ·exact h j hj (by omega)
theorem OkTo.all {ps : List VtE} (h : OkTo ps ps.length) : VsOk ps := fun p hp => by
 obtain ⟨k, hk, rfl⟩ := List.mem_iff_getElem.1 hp
 exact h k hk hk
def Rp.votesTo (r : Rp) (l : List Vt) : Rp := ⟨r.me, r.of, r.mode, r.view, r.normal, r.commit, r.log, l, r.cell, r.nonce⟩
def Rp.voted (r : Rp) (v : Vt) : Rp := if r.votes.length < 20 then r.votesTo (r.votes ++ [v]) else r
def isV (kind who : Int) (v : Vt) : Bool := v.kind == kind && v.frm == who
def findV (kind who : Int) (l : List Vt) : Int := idxOf (isV kind who) l
def Rp.turned (r : Rp) (view : Int) : Rp := ⟨r.me, r.of, 2, view, r.normal, r.commit, r.log, [], view, r.nonce⟩
theorem VsOk.map {ps qs : List VtE} (h : ps.map Prod.snd = qs.map Prod.snd) (k : VsOk ps) : VsOk qs := fun q hq => by
 have h1 : q.2 ∈ ps.map Prod.snd := by rw [h]; exact List.mem_map_of_mem hq
 obtain ⟨p, hp, e⟩ := List.mem_map.1 h1
 rw [← e]
 exact k p hp
theorem logOk_small {l : Lg} (h : logOk l = true) : l.small := by
 have h1 := of_decide_eq_true h
 have h2 := of_decide_eq_true (show decide (ImageOk l.cells l.seats) = true from h1.2.1)
 have h3 := h1.2.2.1
 have h4 := h2.1
 have h5 := h2.2.1
 exact ⟨by omega, by omega, by omega⟩
structure RpT (r : Rp) : Prop where
 of : r.of = 1 ∨ r.of = 3 ∨ r.of = 5
 me0 : 0 ≤ r.me
 me1 : r.me < r.of
 view0 : 0 ≤ r.view
 view1 : r.view ≤ 1000000000
 cell : r.cell = r.view
 lok : logOk r.log = true
 c0 : r.log.base ≤ r.commit
 c1 : r.commit ≤ r.log.fin
 votes : r.votes.length ≤ 20
 vok : ∀ v ∈ r.votes, logOk v.log = true ∧ v.log.base ≤ v.commit ∧ v.commit ≤ v.log.fin
theorem vtOk_log {o : Int} {v : Vt} (h : vtOk o v = true) : logOk v.log = true ∧ v.log.base ≤ v.commit ∧ v.commit ≤ v.log.fin := by
 unfold vtOk at h
 simp only [Bool.and_eq_true] at h
 exact hasNum_ok h.2
theorem rpOk_T {r : Rp} (h : rpOk r = true) (hl : liveB r = true) : RpT r := by
 have g := rpOk_good h
 unfold rpOk at h
 simp only [Bool.and_eq_true] at h
 obtain ⟨⟨_, h9⟩, h10⟩ := h
 refine ⟨g.of, g.me0, g.me1, g.view0, g.view1, ?_, g.lok, g.c0, g.c1, g.votes, fun v hv => vtOk_log (List.all_eq_true.1 h9 v hv)⟩
 unfold rpTail at h10
 unfold liveB at hl
 simp only [Bool.or_eq_true, Bool.and_eq_true, beq_iff_eq, decide_eq_true_eq] at h10 hl
 omega
theorem RpT.votesTo {r : Rp} (h : RpT r) {l : List Vt} (h1 : l.length ≤ 20) (h2 : ∀ v ∈ l, logOk v.log = true ∧ v.log.base ≤ v.commit ∧ v.commit ≤ v.log.fin) : RpT (r.votesTo l) := ⟨h.of, h.me0, h.me1, h.view0, h.view1, h.cell, h.lok, h.c0, h.c1, h1, h2⟩
theorem RpT.voted {r : Rp} (h : RpT r) {v : Vt} (hv : logOk v.log = true ∧ v.log.base ≤ v.commit ∧ v.commit ≤ v.log.fin) : RpT (r.voted v) := by
 unfold Rp.voted
 split
 ·refine h.votesTo (by simp; omega) (fun u hu => ?_)
  rcases List.mem_append.1 hu with hu | hu
  ·exact h.vok u hu
  ·rw [Mi] at hu; subst hu; exact hv
 ·exact h
theorem RpT.turned {r : Rp} (h : RpT r) {v : Int} (h0 : 0 ≤ v) (h1 : v ≤ 1000000000) : RpT (r.turned v) := ⟨h.of, h.me0, h.me1, h0, h1, rfl, h.lok, h.c0, h.c1, by simp [Rp.turned], by simp [Rp.turned]⟩
end Go.Proofs.YtkenlhdiehaemaaGreat
