/- What a replica does when it hears, in plain words. -/
import Derived.Test.YtkenlhdiehaemaaGreatH3
import Derived.Lib.MinMax
namespace Go.Proofs.YtkenlhdiehaemaaGreat
open Go.ChangeShapes Go.WideShapes Go.ChangeAt Go.RowKit Go.Sort
set_option linter.unusedVariables false
set_option linter.unusedSimpArgs false

abbrev Lg.cs (a : LAd) (l : Lg) : Array Value := #[.int .i64 l.base, .slice a.cA l.cells.length a.cc, .slice a.sA l.seats.length a.sc, .slice a.eA l.ents.length a.ec]
def liveB (r : Rp) : Bool := (r.mode == 1) || (r.mode == 2)
def leadsB (r : Rp) : Bool := r.me == r.view % r.of
def askM2 (r : Rp) (view op : Int) : Mg := ⟨10, r.me, view, op, 0, 0, 0, 0, 0, 0, 0, 0, 0, Lg.none⟩
def okM (r : Rp) : Mg := ⟨3, r.me, r.view, r.log.fin, 0, 0, 0, 0, 0, 0, 0, 0, 0, Lg.none⟩
def Rp.upTo (r : Rp) (n : Int) : Rp := ⟨r.me, r.of, r.mode, r.view, r.normal, max r.commit (min n r.log.fin), r.log, r.votes, r.cell, r.nonce⟩
def Rp.lead (r : Rp) (view : Int) (l : Lg) (commit : Int) : Rp := ⟨r.me, r.of, 1, view, view, min commit l.fin, l, [], view, r.nonce⟩
/-- a message of the primary of the own view comes to one that is not it -/
def followB (r : Rp) (m : Mg) : Bool := (m.view == r.view) && ((r.mode == 1) && (!(leadsB r) && (m.frm == r.view % r.of)))
def commitR (r : Rp) (m : Mg) : Rp := if (liveB r && followB r m) = true then r.upTo m.commit else r
def followO (r : Rp) (m : Mg) : List Ot := if (liveB r && decide (r.view < m.view)) = true then [⟨m.frm, askM2 r m.view r.commit⟩] else []
def commitO (r : Rp) (m : Mg) : List Ot := followO r m ++ if (liveB r && (followB r m && decide (r.log.fin < m.commit))) = true then [⟨m.frm, askM2 r r.view r.log.fin⟩] else []
def startB (r : Rp) (m : Mg) : Bool := liveB r && ((m.frm == m.view % r.of) && (decide (r.view < m.view) || ((m.view == r.view) && (r.mode == 2))))
def startR (r : Rp) (m : Mg) : Rp := if startB r m = true then r.lead m.view m.log (max m.commit r.commit) else r
def startO (r : Rp) (m : Mg) : List Ot := if startB r m = true then [⟨m.frm, okM (r.lead m.view m.log (max m.commit r.commit))⟩] else []
def stateB (r : Rp) (m : Mg) : Bool := liveB r && (decide (r.view < m.view) || ((m.view == r.view) && ((r.mode == 1) && (!(leadsB r) && decide (r.log.fin < m.log.fin)))))
def stateR2 (r : Rp) (m : Mg) : Rp := if stateB r m = true then r.lead m.view m.log (max m.commit r.commit) else r
def stateO2 (r : Rp) (m : Mg) : List Ot := if (stateB r m && (m.frm == m.view % r.of)) = true then [⟨m.frm, okM (r.lead m.view m.log (max m.commit r.commit))⟩] else []

theorem logOk_facts {l : Lg} (h : logOk l = true) : 0 ≤ l.base ∧ l.base ≤ 1000000000 ∧ l.ents.length ≤ 60 ∧ l.fin ≤ 1000000000 := by
  have h1 := of_decide_eq_true h
  have h2 := (inB_yes _ _ _).1 h1.1
  have h3 := (inB_yes _ _ _).1 h1.2.2.2.1
  exact ⟨h2.1, h2.2, h1.2.2.1, h3.2⟩
/-- what a right replica is -/
structure RpGood (r : Rp) : Prop where
  of : r.of = 1 ∨ r.of = 3 ∨ r.of = 5
  me0 : 0 ≤ r.me
  me1 : r.me < r.of
  view0 : 0 ≤ r.view
  view1 : r.view ≤ 1000000000
  lok : logOk r.log = true
  base0 : 0 ≤ r.log.base
  base1 : r.log.base ≤ 1000000000
  ents : r.log.ents.length ≤ 60
  fin : r.log.fin ≤ 1000000000
  c0 : r.log.base ≤ r.commit
  c1 : r.commit ≤ r.log.fin
  votes : r.votes.length ≤ 20
theorem rpOk_good {r : Rp} (h : rpOk r = true) : RpGood r := by
  unfold rpOk at h
  simp only [Bool.and_eq_true, decide_eq_true_eq, inB_yes] at h
  obtain ⟨⟨⟨⟨⟨⟨⟨⟨⟨h1, h2⟩, h3⟩, h4⟩, h5⟩, h6⟩, h7⟩, h8⟩, h9⟩, h10⟩ := h
  have ho : r.of = 1 ∨ r.of = 3 ∨ r.of = 5 := by simp [ofB] at h1; omega
  obtain ⟨k1, k2, k3⟩ := hasNum_ok h7
  obtain ⟨g1, g2, g3, g4⟩ := logOk_facts k1
  exact ⟨ho, h2.1, by omega, h3.1, h3.2, k1, g1, g2, g3, g4, k2, k3, h8⟩
theorem hear_facts {r : Rp} {m : Mg} {kind : Int} (h : (rpOk r && hearB r m kind) = true) : rpOk r = true ∧ iFits m = true ∧ m.kind = kind := by
  unfold hearB at h
  simp only [Bool.and_eq_true, beq_iff_eq] at h
  exact ⟨h.1, h.2.1, h.2.2.1⟩
theorem fits_view {m : Mg} (h : iFits m = true) (h86 : sHas (iForm m.kind) 86 = true) : 0 ≤ m.view ∧ m.view ≤ 1000000000 := by
  unfold iFits at h
  simp only [Bool.and_eq_true, decide_eq_true_eq] at h
  have h1 : iFld m (iForm m.kind) 1 = true := h.1.1.2 1 (by omega)
  unfold iFld at h1
  rw [show iLet 1 = 86 from by decide, h86] at h1
  simp only [fOne, Bool.true_and, Bool.not_true, Bool.false_and, Bool.or_false] at h1
  exact (inB_yes _ _ _).1 (by simpa [fOk, iVal] using h1)
theorem fits_log {m : Mg} (h : iFits m = true) (h76 : sHas (iForm m.kind) 76 = true) : logOk m.log = true ∧ m.log.base ≤ m.commit ∧ m.commit ≤ m.log.fin := by
  unfold iFits at h
  simp only [Bool.and_eq_true] at h
  have h1 := h.2
  unfold iLog at h1
  rw [if_pos h76, Bool.and_eq_true] at h1
  exact hasNum_ok h1.1
end Go.Proofs.YtkenlhdiehaemaaGreat

/- The keeper's small functions. -/
namespace Go.Proofs.YtkenlhdiehaemaaGreat
open Go.ChangeShapes Go.WideShapes Go.ChangeAt Go.RowKit Go.Sort
set_option linter.unusedVariables false
set_option linter.unusedSimpArgs false

theorem c_awake (p : Nat) (a : LAd) (A : Option Addr) (n c : Nat) (r : Rp) (O : Value) (w : World) (hb : w.heap[p]? = some (Kp.obj a A n c r O)) : Calls Tryz.prog 87 #[.pointer (some ⟨p, 0, none⟩)] w fun e w' => e = .returned (.bool (liveB r)) ∧ Ext w w' := by
  have d := bx_cell hb
  have z := bx_lt hb
  clear hb
  go_enter Tryz.func87, Tryz.ntmps87
  go_wp2
  all_goals
    go_ret
    exact ⟨ret_bool (by simp_all [liveB]), ext_refl _⟩
set_option maxHeartbeats 1000000 in
theorem c_isPrimary (p : Nat) (a : LAd) (A : Option Addr) (n c : Nat) (r : Rp) (O : Value) (w : World) (hb : w.heap[p]? = some (Kp.obj a A n c r O)) (ho : r.of = 1 ∨ r.of = 3 ∨ r.of = 5) (h0 : 0 ≤ r.view) : Calls Tryz.prog 91 #[.pointer (some ⟨p, 0, none⟩)] w fun e w' => e = .returned (.bool (leadsB r)) ∧ Ext w w' := by
  have HB := Lib.hid hb
  have ho' : r.of ≠ 0 := by omega
  have ho2 : (r.of == 0) = false := by simpa using ho'
  clear hb ho
  go_enter Tryz.func91, Tryz.ntmps91
  go_wp2
  (refine Rm.wp_region_mix' (R := relE w.heap.size) (fun _ _ _ => True) (fun _ _ _ _ _ hq => hq) 18 (by first | exact Nat.le_refl _ | omega | (simp; omega)) (by kernel_rfl) (by kernel_rfl) ?_; simp only [List.take_succ_cons, List.take_zero, List.drop_succ_cons, List.drop_zero])
  ((iterate 1 (refine Rm.wpMix_plain rfl rfl ?_; go_big_quiet_step (fail); refine wpQuiet_nil ?_)); (refine Rm.wpMix_nilp rfl rfl rfl ?_; simp only [Act.put, List.setIfInBounds_toArray, List.set_cons_zero, List.set_cons_succ]); (iterate 2 (refine Rm.wpMix_plain rfl rfl ?_; go_big_quiet_step (fail); refine wpQuiet_nil ?_)); (refine Rm.wpMix_load1 (fun W9' h9 => show W9'.cell? _ = some (.int .i64 r.me) from bx_cell (Ext.box h9 HB.out) 0) rfl rfl rfl Tryz.underlying3 rfl ?_; simp only [Act.put, List.setIfInBounds_toArray, List.set_cons_zero, List.set_cons_succ]); (iterate 1 (refine Rm.wpMix_plain rfl rfl ?_; go_big_quiet_step (fail); refine wpQuiet_nil ?_)); (refine Rm.wpMix_nilp rfl rfl rfl ?_; simp only [Act.put, List.setIfInBounds_toArray, List.set_cons_zero, List.set_cons_succ]); (iterate 2 (refine Rm.wpMix_plain rfl rfl ?_; go_big_quiet_step (fail); refine wpQuiet_nil ?_)); (refine Rm.wpMix_load1 (fun W9' h9 => show W9'.cell? _ = some (.int .i64 r.view) from bx_cell (Ext.box h9 HB.out) 3) rfl rfl rfl Tryz.underlying3 rfl ?_; simp only [Act.put, List.setIfInBounds_toArray, List.set_cons_zero, List.set_cons_succ]); (iterate 1 (refine Rm.wpMix_plain rfl rfl ?_; go_big_quiet_step (fail); refine wpQuiet_nil ?_)); (refine Rm.wpMix_nilp rfl rfl rfl ?_; simp only [Act.put, List.setIfInBounds_toArray, List.set_cons_zero, List.set_cons_succ]); (iterate 2 (refine Rm.wpMix_plain rfl rfl ?_; go_big_quiet_step (fail); refine wpQuiet_nil ?_)); (refine Rm.wpMix_load1 (fun W9' h9 => show W9'.cell? _ = some (.int .i64 r.of) from bx_cell (Ext.box h9 HB.out) 1) rfl rfl rfl Tryz.underlying3 rfl ?_; simp only [Act.put, List.setIfInBounds_toArray, List.set_cons_zero, List.set_cons_succ]))
  ((iterate 3 (refine Rm.wpMix_plain rfl rfl ?_; go_big_quiet_step (fail); refine wpQuiet_nil ?_)))
  refine Rm.wpMix_nil ?_
  rintro W1 hW1
  have x1 : Ext w W1 := hW1
  go_wp2
  go_ret
  exact ⟨rfl, x1⟩
set_option maxHeartbeats 1000000 in
theorem c_half (p : Nat) (a : LAd) (A : Option Addr) (n c : Nat) (r : Rp) (O : Value) (w : World) (hb : w.heap[p]? = some (Kp.obj a A n c r O)) (ho : r.of = 1 ∨ r.of = 3 ∨ r.of = 5) : Calls Tryz.prog 158 #[.pointer (some ⟨p, 0, none⟩)] w fun e w' => e = .returned (.int .i64 ((r.of - 1) / 2)) ∧ Ext w w' := by
  have d := bx_cell hb
  have z := bx_lt hb
  have h1 : 1 ≤ r.of ∧ r.of ≤ 5 := by omega
  clear hb ho
  go_enter Tryz.func158, Tryz.ntmps158
  go_wp2
  go_ret
  exact ⟨rfl, ext_refl _⟩
/-- the log's cells of the keeper's box -/
theorem kp_log {w w' : World} {p : Nat} {a : LAd} {A : Option Addr} {n c : Nat} {r : Rp} {O : Value} (hb : w.heap[p]? = some (Kp.obj a A n c r O)) (hx : Ext w w') : ∀ j v, (Lg.cs a r.log).toList[j]? = some v → w'.cell? ⟨p, 6 + j, none⟩ = some v :=
  cells_mid (cs := Lg.cs a r.log) (hx.box hb) [.int .i64 r.me, .int .i64 r.of, .int .i64 r.mode, .int .i64 r.view, .int .i64 r.normal, .int .i64 r.commit] [.slice A n c, .int .i64 r.cell, .int .i64 r.nonce, O] rfl rfl
theorem mg_log {w w' : World} {p : Nat} {a : LAd} {m : Mg} (hb : w.heap[p]? = some (Mg.obj a m)) (hx : Ext w w') : ∀ j v, (Lg.cs a m.log).toList[j]? = some v → w'.cell? ⟨p, 13 + j, none⟩ = some v :=
  cells_mid (cs := Lg.cs a m.log) (hx.box hb) [.int .i64 m.kind, .int .i64 m.frm, .int .i64 m.view, .int .i64 m.op, .int .i64 m.commit, .int .i64 m.normal, .int .i64 m.nonce, .int .i64 m.client, .int .i64 m.req, .int .i64 m.answer, .int .i64 m.ck, .int .i64 m.cx, .int .i64 m.cv] [] rfl rfl
section
variable {W0 w : World} {p : Nat} {a : LAd} {A : Option Addr} {c : Nat} {qs : List VtE} {R : Rp} {Ao : Option Addr} {co : Nat} {os : List OtE}
set_option maxHeartbeats 2000000 in
theorem c_upTo (hk : KZ W0 w p a A c qs R Ao co os) (n : Int) (h0 : 0 ≤ R.log.base) (h1 : R.log.base ≤ 1000000000) (h2 : R.log.ents.length ≤ 60) :
    Calls Tryz.prog 78 #[.pointer (some ⟨p, 0, none⟩), .int .i64 n] w fun e w' => e = .returned (.tuple #[]) ∧ KZ W0 w' p a A c qs (R.upTo n) Ao co os := by
  have HK := Lib.hid hk
  clear hk
  go_enter Tryz.func78, Tryz.ntmps78
  (refine Rm.wp_region_mix' (R := relE w.heap.size) (fun _ _ _ => True) (fun _ _ _ _ _ hq => hq) 18 (by first | exact Nat.le_refl _ | omega | (simp; omega)) (by kernel_rfl) (by kernel_rfl) ?_; simp only [List.take_succ_cons, List.take_zero, List.drop_succ_cons, List.drop_zero])
  ((iterate 2 (refine Rm.wpMix_plain rfl rfl ?_; go_big_quiet_step (fail); refine wpQuiet_nil ?_)); (refine Rm.wpMix_nilp rfl rfl rfl ?_; simp only [Act.put, List.setIfInBounds_toArray, List.set_cons_zero, List.set_cons_succ]); (iterate 2 (refine Rm.wpMix_plain rfl rfl ?_; go_big_quiet_step (fail); refine wpQuiet_nil ?_)); (refine Rm.wpMix_load1 (fun W9' h9 => show W9'.cell? _ = some (.int .i64 R.commit) from bx_cell (Ext.box h9 HK.out.box) 5) rfl rfl rfl Tryz.underlying3 rfl ?_; simp only [Act.put, List.setIfInBounds_toArray, List.set_cons_zero, List.set_cons_succ]); (iterate 2 (refine Rm.wpMix_plain rfl rfl ?_; go_big_quiet_step (fail); refine wpQuiet_nil ?_)); (refine Rm.wpMix_nilp rfl rfl rfl ?_; simp only [Act.put, List.setIfInBounds_toArray, List.set_cons_zero, List.set_cons_succ]); (iterate 2 (refine Rm.wpMix_plain rfl rfl ?_; go_big_quiet_step (fail); refine wpQuiet_nil ?_)))
  (refine Rm.wpMix_loadAgg (fun W9' h9 => kp_log HK.out.box h9) rfl rfl rfl Tryz.underlying40 (by kernel_rfl) ?_; simp only [Act.put, List.setIfInBounds_toArray, List.set_cons_zero, List.set_cons_succ])
  (refine Rm.wpMix_det rfl rfl rfl (enters Tryz.func76 (by kernel_rfl) rfl) (fun W9' h9 => c_end a R.log W9' (by omega) (by omega) (by omega)) rfl ?_; simp only [Act.put, List.setIfInBounds_toArray, List.set_cons_zero, List.set_cons_succ])
  ((iterate 2 (refine Rm.wpMix_plain rfl rfl ?_; go_big_quiet_step (fail); refine wpQuiet_nil ?_)); (refine Rm.wpMix_nilp rfl rfl rfl ?_; simp only [Act.put, List.setIfInBounds_toArray, List.set_cons_zero, List.set_cons_succ]); (iterate 2 (refine Rm.wpMix_plain rfl rfl ?_; go_big_quiet_step (fail); refine wpQuiet_nil ?_)))
  refine Rm.wpMix_nil ?_
  rintro W1 hW1
  have x1 : Ext w W1 := hW1
  have K1 := Lib.hid (HK.out.keep x1)
  have d4 := bx_cell K1.out.box
  have g4 := bx_frozen K1.out.box
  have z4 := bx_lt K1.out.box
  have P1 := box_put K1.out.box 5 (.int .i64 (max R.commit (min n R.log.fin)))
  simp only [List.setIfInBounds_toArray, List.set_cons_zero, List.set_cons_succ] at P1
  have c1 := chg_set (Chg.refl W1 [p]) (p := ⟨p, 5, none⟩) (by simp) (.int .i64 (max R.commit (min n R.log.fin)))
  have HF := Lib.hid (K1.out.put (R' := R.upTo n) c1 P1 rfl rfl)
  clear c1 P1 x1 hW1
  go_wp2
  exact bodyPost_end (v := .tuple #[]) (by simp [results, Tryz.results78, go_sem]) rfl ⟨rfl, HF.out⟩
theorem none_small : Lg.none.small := ⟨by simp [Lg.none], by simp [Lg.none], by simp [Lg.none]⟩
theorem none_rd (w : World) : LgR w LAd.none Lg.none := ⟨⟨Nat.le_refl _, by unfold maxLen; decide, fun h => absurd h (by decide)⟩, ⟨Nat.le_refl _, by unfold maxLen; decide, fun h => absurd h (by decide)⟩, ⟨Nat.le_refl _, by unfold maxLen; decide, fun h => absurd h (by decide)⟩⟩
set_option maxHeartbeats 2000000 in
theorem c_askState (hk : KZ W0 w p a A c qs R Ao co os) (to view op : Int) (hos : os.length ≤ 100000) :
    Calls Tryz.prog 77 #[.pointer (some ⟨p, 0, none⟩), .int .i64 to, .int .i64 view, .int .i64 op] w fun e w' => e = .returned (.tuple #[]) ∧ ∃ A' c' a', KZ W0 w' p a A c qs R A' c' (os ++ [(a', ⟨to, askM2 R view op⟩)]) := by
  have HK := Lib.hid hk
  have d := bx_cell hk.box
  have z := bx_lt hk.box
  clear hk
  go_enter Tryz.func77, Tryz.ntmps77
  go_wp2_with fail
  refine (c_sendZ W0 p a A c qs R os Ao co to LAd.none (askM2 R view op) w HK.out (none_rd _) (show Lg.none.small from none_small) hos).mono ?_
  rintro e w2 ⟨rfl, A2, c2, a2, hk2, cg⟩
  have HK2 := Lib.hid hk2
  clear hk2 cg d z
  go_wp2
  exact bodyPost_end (v := .tuple #[]) (by simp [results, Tryz.results77, go_sem]) rfl ⟨rfl, A2, c2, a2, HK2.out⟩
set_option maxHeartbeats 2000000 in
theorem c_ok (hk : KZ W0 w p a A c qs R Ao co os) (to : Int) (hos : os.length ≤ 100000) (h0 : 0 ≤ R.log.base) (h1 : R.log.base ≤ 1000000000) (h2 : R.log.ents.length ≤ 60) :
    Calls Tryz.prog 89 #[.pointer (some ⟨p, 0, none⟩), .int .i64 to] w fun e w' => e = .returned (.tuple #[]) ∧ ∃ A' c' a', KZ W0 w' p a A c qs R A' c' (os ++ [(a', ⟨to, okM R⟩)]) := by
  have HK := Lib.hid hk
  clear hk
  go_enter Tryz.func89, Tryz.ntmps89
  (refine Rm.wp_region_mix' (R := relE w.heap.size) (fun _ _ _ => True) (fun _ _ _ _ _ hq => hq) 18 (by first | exact Nat.le_refl _ | omega | (simp; omega)) (by kernel_rfl) (by kernel_rfl) ?_; simp only [List.take_succ_cons, List.take_zero, List.drop_succ_cons, List.drop_zero])
  ((iterate 3 (refine Rm.wpMix_plain rfl rfl ?_; go_big_quiet_step (fail); refine wpQuiet_nil ?_)); (refine Rm.wpMix_nilp rfl rfl rfl ?_; simp only [Act.put, List.setIfInBounds_toArray, List.set_cons_zero, List.set_cons_succ]); (iterate 2 (refine Rm.wpMix_plain rfl rfl ?_; go_big_quiet_step (fail); refine wpQuiet_nil ?_)); (refine Rm.wpMix_load1 (fun W9' h9 => show W9'.cell? _ = some (.int .i64 R.me) from bx_cell (Ext.box h9 HK.out.box) 0) rfl rfl rfl Tryz.underlying3 rfl ?_; simp only [Act.put, List.setIfInBounds_toArray, List.set_cons_zero, List.set_cons_succ]); (iterate 1 (refine Rm.wpMix_plain rfl rfl ?_; go_big_quiet_step (fail); refine wpQuiet_nil ?_)); (refine Rm.wpMix_nilp rfl rfl rfl ?_; simp only [Act.put, List.setIfInBounds_toArray, List.set_cons_zero, List.set_cons_succ]); (iterate 2 (refine Rm.wpMix_plain rfl rfl ?_; go_big_quiet_step (fail); refine wpQuiet_nil ?_)); (refine Rm.wpMix_load1 (fun W9' h9 => show W9'.cell? _ = some (.int .i64 R.view) from bx_cell (Ext.box h9 HK.out.box) 3) rfl rfl rfl Tryz.underlying3 rfl ?_; simp only [Act.put, List.setIfInBounds_toArray, List.set_cons_zero, List.set_cons_succ]); (iterate 1 (refine Rm.wpMix_plain rfl rfl ?_; go_big_quiet_step (fail); refine wpQuiet_nil ?_)); (refine Rm.wpMix_nilp rfl rfl rfl ?_; simp only [Act.put, List.setIfInBounds_toArray, List.set_cons_zero, List.set_cons_succ]); (iterate 2 (refine Rm.wpMix_plain rfl rfl ?_; go_big_quiet_step (fail); refine wpQuiet_nil ?_)))
  (refine Rm.wpMix_loadAgg (fun W9' h9 => kp_log HK.out.box h9) rfl rfl rfl Tryz.underlying40 (by kernel_rfl) ?_; simp only [Act.put, List.setIfInBounds_toArray, List.set_cons_zero, List.set_cons_succ])
  (refine Rm.wpMix_det rfl rfl rfl (enters Tryz.func76 (by kernel_rfl) rfl) (fun W9' h9 => c_end a R.log W9' (by omega) (by omega) (by omega)) rfl ?_; simp only [Act.put, List.setIfInBounds_toArray, List.set_cons_zero, List.set_cons_succ])
  refine Rm.wpMix_nil ?_
  rintro W1 hW1
  have x1 : Ext w W1 := hW1
  have K1 := Lib.hid (HK.out.keep x1)
  clear x1 hW1
  go_wp2_with fail
  refine (c_sendZ W0 p a A c qs R os Ao co to LAd.none (okM R) W1 K1.out (none_rd _) (show Lg.none.small from none_small) hos).mono ?_
  rintro e w2 ⟨rfl, A2, c2, a2, hk2, cg⟩
  have HK2 := Lib.hid hk2
  clear hk2 cg
  go_wp2
  exact bodyPost_end (v := .tuple #[]) (by simp [results, Tryz.results89, go_sem]) rfl ⟨rfl, A2, c2, a2, HK2.out⟩
theorem KZ.hear {w' : World} {al : LAd} {l : Lg} (hk : KZ W0 w p a A c qs R Ao co os) (hl : LgR W0 al l) (hg : Chg w w' [p]) : LgR w' al l := hl.keep (chg_new hk.x hg hk.low)
set_option maxRecDepth 100000 in
set_option maxHeartbeats 4000000 in
theorem c_lead (hk : KZ W0 w p a A c qs R Ao co os) (view : Int) (al : LAd) (l : Lg) (commit : Int) (hl : ∀ W, Chg w W [p] → LgR W al l) (hs : l.small) (h0 : 0 ≤ l.base) (h1 : l.base ≤ 1000000000) (h2 : l.ents.length ≤ 60) :
    Calls Tryz.prog 88 #[.pointer (some ⟨p, 0, none⟩), .int .i64 view, Lg.val al l, .int .i64 commit] w fun e w' => e = .returned (.tuple #[]) ∧ ∃ a', KZ W0 w' p a' none 0 [] (R.lead view l commit) Ao co os := by
  have B0 := hk.box
  have hlt := bx_lt B0
  have d := bx_cell B0
  have g := bx_frozen B0
  have P0 := box_put (box_put (box_put (box_put B0 2 (.int .i64 1)) 3 (.int .i64 view)) 4 (.int .i64 view)) 11 (.int .i64 view)
  simp only [List.setIfInBounds_toArray, List.set_cons_zero, List.set_cons_succ] at P0
  have c0 := chg_set (chg_set (chg_set (chg_set (Chg.refl w [p]) (p := ⟨p, 2, none⟩) (by simp) (.int .i64 1)) (p := ⟨p, 3, none⟩) (by simp) (.int .i64 view)) (p := ⟨p, 4, none⟩) (by simp) (.int .i64 view)) (p := ⟨p, 11, none⟩) (by simp) (.int .i64 view)
  have HP0 := Lib.hid ((hk.put (R' := ⟨R.me, R.of, 1, view, view, R.commit, R.log, R.votes, view, R.nonce⟩) c0 P0 rfl rfl).keep (ext_alloc _ (.cells (Lg.cs al l) 40)))
  have HB0 := Lib.hid (hNew (w := (((w.setCell ⟨p, 2, none⟩ (.int .i64 1)).setCell ⟨p, 3, none⟩ (.int .i64 view)).setCell ⟨p, 4, none⟩ (.int .i64 view)).setCell ⟨p, 11, none⟩ (.int .i64 view)) (o := .cells (Lg.cs al l) 40) (k := w.heap.size) (by simp))
  have HL0 := Lib.hid (hl _ (c0.trans (chg_ext [p] (ext_alloc _ (.cells (Lg.cs al l) 40)))))
  clear hk hl B0 P0 c0
  go_enter Tryz.func88, Tryz.ntmps88
  go_wp2_with (with_reducible refine wl_stop 28 ?_)
  refine stop_go (F := fun W => KZ W0 W p a A c qs ⟨R.me, R.of, 1, view, view, R.commit, R.log, R.votes, view, R.nonce⟩ Ao co os ∧ W.heap[w.heap.size]? = some (.cells (Lg.cs al l) 40) ∧ LgR W al l) ⟨HP0.out, HB0.out, HL0.out⟩ ?_
  intro W3 ⟨k3, b3, l3⟩
  have K3 := Lib.hid k3
  have B3 := Lib.hid b3
  have L3 := Lib.hid l3
  clear k3 b3 l3 d g HP0 HB0 HL0
  (go_wp2_with (with_reducible refine wl_stop 28 ?_); refine stop_load (B3.out) rfl Tryz.underlying40 (by kernel_rfl) ?_; simp only [Act.put, List.setIfInBounds_toArray, List.set_cons_zero, List.set_cons_succ])
  go_wp2_with fail
  refine (c_copyLog al l hs _ L3.out).mono ?_
  rintro e w4 ⟨a', rfl, o4, x4⟩
  have O4 := Lib.hid o4
  have X4 := Lib.hid x4
  have D4 := x4.box K3.out.box
  have d4 := bx_cell D4
  have g4 := bx_frozen D4
  have z4 := bx_lt D4
  have P4 := box_put (box_put (box_put (box_put D4 6 (.int .i64 l.base)) 7 (.slice a'.cA l.cells.length a'.cc)) 8 (.slice a'.sA l.seats.length a'.sc)) 9 (.slice a'.eA l.ents.length a'.ec)
  simp only [List.setIfInBounds_toArray, List.set_cons_zero, List.set_cons_succ] at P4
  have c4 := chg_set (chg_set (chg_set (chg_set (Chg.refl w4 [p]) (p := ⟨p, 6, none⟩) (by simp) (.int .i64 l.base)) (p := ⟨p, 7, none⟩) (by simp) (.slice a'.cA l.cells.length a'.cc)) (p := ⟨p, 8, none⟩) (by simp) (.slice a'.sA l.seats.length a'.sc)) (p := ⟨p, 9, none⟩) (by simp) (.slice a'.eA l.ents.length a'.ec)
  have HP4 := Lib.hid P4
  have HC4 := Lib.hid c4
  have HB4 := Lib.hid (box_out' (x4.box B3.out) c4 (by simp; omega))
  clear o4 x4 D4 P4 c4 B3 L3
  go_wp2_with (with_reducible refine wl_stop 35 ?_)
  refine stop_go (F := fun W => W.heap[p]? = some (Kp.obj a' A qs.length c ⟨R.me, R.of, 1, view, view, R.commit, l, R.votes, view, R.nonce⟩ (.slice Ao os.length co)) ∧ Chg w4 W [p] ∧ W.heap[w.heap.size]? = some (.cells (Lg.cs al l) 40)) ⟨HP4.out, HC4.out, HB4.out⟩ ?_
  intro W5 ⟨k5, c5, b5⟩
  have K5 := Lib.hid k5
  have C5 := Lib.hid c5
  have B5 := Lib.hid b5
  clear k5 c5 b5 d4 g4 z4 HP4 HC4 HB4
  (go_wp2_with (with_reducible refine wl_stop 35 ?_); refine stop_load (B5.out) rfl Tryz.underlying40 (by kernel_rfl) ?_; simp only [Act.put, List.setIfInBounds_toArray, List.set_cons_zero, List.set_cons_succ])
  go_wp2_with fail
  refine (c_end al l _ (by omega) (by omega) (by omega)).mono ?_
  rintro e w6 ⟨rfl, x6⟩
  have D6 := x6.box K5.out
  have d6 := bx_cell D6
  have g6 := bx_frozen D6
  have z6 := bx_lt D6
  have P6 := box_put (box_put D6 5 (.int .i64 (min commit l.fin))) 10 (.slice none 0 0)
  simp only [List.setIfInBounds_toArray, List.set_cons_zero, List.set_cons_succ] at P6
  have c6 := (C5.out.trans (chg_ext [p] x6)).trans (chg_set (chg_set (Chg.refl w6 [p]) (p := ⟨p, 5, none⟩) (by simp) (.int .i64 (min commit l.fin))) (p := ⟨p, 10, none⟩) (by simp) (.slice none 0 0))
  have HF := Lib.hid (K3.out.led (R' := R.lead view l commit) X4.out O4.out c6 P6 rfl)
  clear D6 P6 c6 x6 K3 X4 O4 C5 K5 B5
  go_wp2
  exact bodyPost_end (v := .tuple #[]) (by simp [results, Tryz.results88, go_sem]) rfl ⟨rfl, a', HF.out⟩
end
end Go.Proofs.YtkenlhdiehaemaaGreat
