/- MsgFits of the program and of the reference agree. -/
import Derived.Test.YtkenlhdiehaemaaGreatPk27
import Derived.Test.YtkenlhdiehaemaaGreatPk26
import Derived.Lib.MinMax
namespace Go.Proofs.YtkenlhdiehaemaaGreat
open Go.ChangeShapes Go.WideShapes Go.ChangeAt Go.RowKit Go.Sort
set_option linter.unusedVariables false
set_option linter.unusedSimpArgs false
def iAll (m : Mg) (f : ByteArray) : Bool := iFld m f 0 && (iFld m f 1 && (iFld m f 2 && (iFld m f 3 && (iFld m f 4 && (iFld m f 5 && (iFld m f 6 && (iFld m f 7 && iFld m f 8)))))))
theorem iTo_all (m : Mg) (f : ByteArray) : decide (iTo m f 9) = iAll m f := by
 rw [Bool.eq_iff_iff, decide_eq_true_iff]
 simp only [iAll, Bool.and_eq_true]
 constructor
 ·intro h
  exact ⟨h 0 (by omega), h 1 (by omega), h 2 (by omega), h 3 (by omega), h 4 (by omega), h 5 (by omega), h 6 (by omega), h 7 (by omega), h 8 (by omega)⟩
 ·rintro ⟨h0, h1, h2, h3, h4, h5, h6, h7, h8⟩ j hj
  have h9 : j = 0 ∨ j = 1 ∨ j = 2 ∨ j = 3 ∨ j = 4 ∨ j = 5 ∨ j = 6 ∨ j = 7 ∨ j = 8 := by omega
  rcases h9 with rfl | rfl | rfl | rfl | rfl | rfl | rfl | rfl | rfl <;> assumption
def iBits (f : ByteArray) : List Bool := [sHas f 70, sHas f 86, sHas f 79, sHas f 67, sHas f 78, sHas f 110, sHas f 99, sHas f 114, sHas f 65, sHas f 120, sHas f 76, f.toList.isEmpty]
def sBits (f : ByteArray) : List Bool := [sHas f 102, sHas f 118, sHas f 111, sHas f 99, sHas f 110, sHas f 107, sHas f 67, sHas f 82, sHas f 65, sHas f 100, sHas f 108, f.toList.isEmpty]
set_option maxRecDepth 100000 in
theorem bits_eq (k : Int) : iBits (iForm k) = sBits (sForm k) ∧ (sHas (sForm k) 108 = false → sHas (sForm k) 110 = false) := by
 unfold iForm sForm
 repeat' split
 all_goals (first | contradiction | decide +kernel)
theorem iLets : iLet 0 = 70 ∧ iLet 1 = 86 ∧ iLet 2 = 79 ∧ iLet 3 = 67 ∧ iLet 4 = 78 ∧ iLet 5 = 110 ∧ iLet 6 = 99 ∧ iLet 7 = 114 ∧ iLet 8 = 65 := by decide
theorem fOne_num (h : Bool) (b x lo hi : Int) (he : fOk b x = inB x lo hi) : fOne h b x = numOk h x lo hi := by unfold fOne numOk; rw [he]
theorem fits_eq (m : Mg) : iFits m = sFits m := by
 obtain ⟨hb, hn⟩ := bits_eq m.kind
 unfold iFits sFits
 rw [iTo_all]
 generalize iForm m.kind = F at *
 generalize sForm m.kind = S at *
 simp only [iBits, sBits, List.cons.injEq, and_true] at hb
 obtain ⟨e1, e2, e3, e4, e5, e6, e7, e8, e9, e10, e11, e12⟩ := hb
 obtain ⟨l0, l1, l2, l3, l4, l5, l6, l7, l8⟩ := iLets
 simp only [iAll, iFld, l0, l1, l2, l3, l4, l5, l6, l7, l8, iVal, e1, e2, e3, e4, e5, e6, e7, e8, e9, e12, sN]
 rw [fOne_num _ 70 m.frm 0 4 (by simp [fOk]), fOne_num _ 86 m.view 0 1000000000 (by simp [fOk]), fOne_num _ 79 m.op 0 1000000000 (by simp [fOk]), fOne_num _ 67 m.commit 0 1000000000 (by simp [fOk]), fOne_num _ 78 m.normal 0 1000000000 (by simp [fOk]), fOne_num _ 110 m.nonce 0 1000000000 (by simp [fOk]), fOne_num _ 99 m.client 0 1000000000 (by simp [fOk]), fOne_num _ 114 m.req 1 1000000000 (by simp [fOk]), fOne_num _ 65 m.answer (-1) 1000000000 (by simp [fOk])]
 have hc : iCmd m F = sCmd m S := by unfold iCmd sCmd; rw [e10]
 rw [hc]
 have hkey : numOk (sHas S 118) m.view 0 1000000000 = true → numOk (sHas S 110) m.normal 0 1000000000 = true → sHas S 108 = false → decide (m.normal ≤ m.view) = true := by
  intro hv hm hl
  rw [hn hl] at hm
  simp only [numOk, Bool.false_and, Bool.not_false, Bool.true_and, Bool.false_or, beq_iff_eq] at hm
  have h0 : 0 ≤ m.view := by
   unfold numOk inB at hv
   cases hs : sHas S 118 <;> simp [hs] at hv <;> omega
  simp
  omega
 unfold iLog sLog
 rw [e11]
 generalize numOk (sHas S 102) m.frm 0 4 = b1 at *
 generalize numOk (sHas S 118) m.view 0 1000000000 = b2 at *
 generalize numOk (sHas S 111) m.op 0 1000000000 = b3 at *
 generalize numOk (sHas S 99) m.commit 0 1000000000 = b4 at *
 generalize numOk (sHas S 110) m.normal 0 1000000000 = b5 at *
 generalize numOk (sHas S 107) m.nonce 0 1000000000 = b6 at *
 generalize numOk (sHas S 67) m.client 0 1000000000 = b7 at *
 generalize numOk (sHas S 82) m.req 1 1000000000 = b8 at *
 generalize numOk (sHas S 65) m.answer (-1) 1000000000 = b9 at *
 generalize decide (m.normal ≤ m.view) = d at *
 generalize hasNum m.log m.commit = x at *
 generalize isZ m.log = y at *
 generalize sCmd m S = c at *
 generalize S.toList.isEmpty = z at *
 cases hl : sHas S 108
 ·have hk := fun a b => hkey a b hl
  rw [Bool.eq_iff_iff]
  simp only [Bool.and_eq_true, Bool.false_eq_true, if_false]
  constructor
  ·rintro ⟨⟨⟨h0, h1, h2, h3, h4, h5, h6, h7, h8, h9⟩, h10⟩, h11⟩
   exact ⟨h0, h1, h8, h9, h2, h3, h4, h5, h6, h7, ⟨h10, hk h2 h5⟩, h11⟩
  ·rintro ⟨h0, h1, h8, h9, h2, h3, h4, h5, h6, h7, ⟨h10, _⟩, h11⟩
   exact ⟨⟨⟨h0, h1, h2, h3, h4, h5, h6, h7, h8, h9⟩, h10⟩, h11⟩
 ·rw [Bool.eq_iff_iff]
  simp only [Bool.and_eq_true, if_true]
  constructor
  ·rintro ⟨⟨⟨h0, h1, h2, h3, h4, h5, h6, h7, h8, h9⟩, h10⟩, h11, h12⟩
   exact ⟨h0, h1, h8, h9, h2, h3, h4, h5, h6, h7, ⟨h10, h12⟩, h11⟩
  ·rintro ⟨h0, h1, h8, h9, h2, h3, h4, h5, h6, h7, ⟨h10, h12⟩, h11⟩
   exact ⟨⟨⟨h0, h1, h2, h3, h4, h5, h6, h7, h8, h9⟩, h10⟩, h11, h12⟩
end Go.Proofs.YtkenlhdiehaemaaGreat
namespace Go.Proofs.YtkenlhdiehaemaaGreat
open Go.ChangeShapes Go.WideShapes Go.ChangeAt Go.RowKit Go.Sort
set_option linter.unusedVariables false
set_option linter.unusedSimpArgs false
abbrev Lg.cs (a : LAd) (l : Lg) : Array Value := #[.int .i64 l.base, .slice a.cA l.cells.length a.cc, .slice a.sA l.seats.length a.sc, .slice a.eA l.ents.length a.ec]
def liveB (r : Rp) : Bool := (r.mode == 1) || (r.mode == 2)
def leadsB (r : Rp) : Bool := r.me == r.view % r.of
def askM2 (r : Rp) (view op : Int) : Mg := ⟨10, r.me, view, op, 0, 0, 0, 0, 0, 0, 0, 0, 0, Lg.none⟩
def okM (r : Rp) : Mg := ⟨3, r.me, r.view, r.log.fin, 0, 0, 0, 0, 0, 0, 0, 0, 0, Lg.none⟩
def Rp.upTo (r : Rp) (n : Int) : Rp := ⟨r.me, r.of, r.mode, r.view, r.normal, max r.commit (min n r.log.fin), r.log, r.votes, r.cell, r.nonce⟩
def followB (r : Rp) (m : Mg) : Bool := (m.view == r.view) && ((r.mode == 1) && (!(leadsB r) && (m.frm == r.view % r.of)))
def followO (r : Rp) (m : Mg) : List Ot := if (liveB r && decide (r.view < m.view)) = true then [⟨m.frm, askM2 r m.view r.commit⟩] else []
theorem logOk_facts {l : Lg} (h : logOk l = true) : 0 ≤ l.base ∧ l.base ≤ 1000000000 ∧ l.ents.length ≤ 60 ∧ l.fin ≤ 1000000000 := by
 have h1 := of_decide_eq_true h
 have h2 := (inB_yes _ _ _).1 h1.1
 have h3 := (inB_yes _ _ _).1 h1.2.2.2.1
 exact ⟨h2.1, h2.2, h1.2.2.1, h3.2⟩
structure RpGood (r : Rp) : Prop where
 of : r.of = 1 ∨ r.of = 3 ∨ r.of = 5
 me0 : 0 ≤ r.me
 me1 : r.me < r.of
 view0 : 0 ≤ r.view
 view1 : r.view ≤ 1000000000
 lok : logOk r.log = true
 base0 : 0 ≤ r.log.base
 base1 : r.log.base ≤ 1000000000
 ents : r.log.ents.length ≤ 60
 fin : r.log.fin ≤ 1000000000
 c0 : r.log.base ≤ r.commit
 c1 : r.commit ≤ r.log.fin
 votes : r.votes.length ≤ 20
theorem rpOk_good {r : Rp} (h : rpOk r = true) : RpGood r := by
 unfold rpOk at h
 simp only [Bool.and_eq_true, decide_eq_true_eq, inB_yes] at h
 obtain ⟨⟨⟨⟨⟨⟨⟨⟨⟨h1, h2⟩, h3⟩, h4⟩, h5⟩, h6⟩, h7⟩, h8⟩, h9⟩, h10⟩ := h
 have ho : r.of = 1 ∨ r.of = 3 ∨ r.of = 5 := by simp [ofB] at h1; omega
 obtain ⟨k1, k2, k3⟩ := hasNum_ok h7
 obtain ⟨g1, g2, g3, g4⟩ := logOk_facts k1
 exact ⟨ho, h2.1, by omega, h3.1, h3.2, k1, g1, g2, g3, g4, k2, k3, h8⟩
theorem hear_facts {r : Rp} {m : Mg} {kind : Int} (h : (rpOk r && hearB r m kind) = true) : rpOk r = true ∧ iFits m = true ∧ m.kind = kind := by
 unfold hearB at h
 simp only [Bool.and_eq_true, beq_iff_eq] at h
 exact ⟨h.1, h.2.1, h.2.2.1⟩
end Go.Proofs.YtkenlhdiehaemaaGreat
namespace Go.Proofs.YtkenlhdiehaemaaGreat
open Go.ChangeShapes Go.WideShapes Go.ChangeAt Go.RowKit Go.Sort
set_option linter.unusedVariables false
set_option linter.unusedSimpArgs false
theorem c_awake (p : Nat) (a : LAd) (A : Option Addr) (n c : Nat) (r : Rp) (O : Value) (w : World) (hb : w.heap[p]? = some (Kp.obj a A n c r O)) : Calls Tryz.prog 87 #[.pointer (some ⟨p, 0, none⟩)] w fun e w' => e = .returned (.bool (liveB r)) ∧ Ext w w' := by
 have d := bx_cell hb
 have z := bx_lt hb
 clear hb
 go_enter Tryz.func87, Tryz.ntmps87
 go_wp2
 all_goals
  go_ret
  exact ⟨ret_bool (by simp_all [liveB]), ext_refl _⟩
set_option maxHeartbeats 1000000 in
theorem c_isPrimary (p : Nat) (a : LAd) (A : Option Addr) (n c : Nat) (r : Rp) (O : Value) (w : World) (hb : w.heap[p]? = some (Kp.obj a A n c r O)) (ho : r.of = 1 ∨ r.of = 3 ∨ r.of = 5) (h0 : 0 ≤ r.view) : Calls Tryz.prog 91 #[.pointer (some ⟨p, 0, none⟩)] w fun e w' => e = .returned (.bool (leadsB r)) ∧ Ext w w' := by
 have HB := Lib.hid hb
 have ho' : r.of ≠ 0 := by omega
 have ho2 : (r.of == 0) = false := by simpa using ho'
 clear hb ho
 go_enter Tryz.func91, Tryz.ntmps91
 go_wp2
 (refine Rm.wp_region_mix' (R := relE w.heap.size) (fun _ _ _ => True) (fun _ _ _ _ _ hq => hq) 18 (by first | exact Nat.le_refl _ | omega | (simp; omega)) (by kernel_rfl) (by kernel_rfl) ?_; simp only [List.take_succ_cons, List.take_zero, List.drop_succ_cons, List.drop_zero])
 ((iterate 1 (refine Rm.wpMix_plain rfl rfl ?_; go_big_quiet_step (fail); refine wpQuiet_nil ?_)); (refine Rm.wpMix_nilp rfl rfl rfl ?_; simp only [Act.put, List.setIfInBounds_toArray, List.set_cons_zero, List.set_cons_succ]); (iterate 2 (refine Rm.wpMix_plain rfl rfl ?_; go_big_quiet_step (fail); refine wpQuiet_nil ?_)); (refine Rm.wpMix_load1 (fun W9' h9 => show W9'.cell? _ = some (.int .i64 r.me) from bx_cell (Ext.box h9 HB.out) 0) rfl rfl rfl Tryz.underlying3 rfl ?_; simp only [Act.put, List.setIfInBounds_toArray, List.set_cons_zero, List.set_cons_succ]); (iterate 1 (refine Rm.wpMix_plain rfl rfl ?_; go_big_quiet_step (fail); refine wpQuiet_nil ?_)); (refine Rm.wpMix_nilp rfl rfl rfl ?_; simp only [Act.put, List.setIfInBounds_toArray, List.set_cons_zero, List.set_cons_succ]); (iterate 2 (refine Rm.wpMix_plain rfl rfl ?_; go_big_quiet_step (fail); refine wpQuiet_nil ?_)); (refine Rm.wpMix_load1 (fun W9' h9 => show W9'.cell? _ = some (.int .i64 r.view) from bx_cell (Ext.box h9 HB.out) 3) rfl rfl rfl Tryz.underlying3 rfl ?_; simp only [Act.put, List.setIfInBounds_toArray, List.set_cons_zero, List.set_cons_succ]); (iterate 1 (refine Rm.wpMix_plain rfl rfl ?_; go_big_quiet_step (fail); refine wpQuiet_nil ?_)); (refine Rm.wpMix_nilp rfl rfl rfl ?_; simp only [Act.put, List.setIfInBounds_toArray, List.set_cons_zero, List.set_cons_succ]); (iterate 2 (refine Rm.wpMix_plain rfl rfl ?_; go_big_quiet_step (fail); refine wpQuiet_nil ?_)); (refine Rm.wpMix_load1 (fun W9' h9 => show W9'.cell? _ = some (.int .i64 r.of) from bx_cell (Ext.box h9 HB.out) 1) rfl rfl rfl Tryz.underlying3 rfl ?_; simp only [Act.put, List.setIfInBounds_toArray, List.set_cons_zero, List.set_cons_succ]))
 ((iterate 3 (refine Rm.wpMix_plain rfl rfl ?_; go_big_quiet_step (fail); refine wpQuiet_nil ?_)))
 refine Rm.wpMix_nil ?_
 rintro W1 hW1
 have x1 : Ext w W1 := hW1
 go_wp2
 go_ret
 exact ⟨rfl, x1⟩
theorem kp_log {w w' : World} {p : Nat} {a : LAd} {A : Option Addr} {n c : Nat} {r : Rp} {O : Value} (hb : w.heap[p]? = some (Kp.obj a A n c r O)) (hx : Ext w w') : ∀ j v, (Lg.cs a r.log).toList[j]? = some v → w'.cell? ⟨p, 6 + j, none⟩ = some v :=
 cells_mid (cs := Lg.cs a r.log) (hx.box hb) [.int .i64 r.me, .int .i64 r.of, .int .i64 r.mode, .int .i64 r.view, .int .i64 r.normal, .int .i64 r.commit] [.slice A n c, .int .i64 r.cell, .int .i64 r.nonce, O] rfl rfl
section
variable {W0 w : World} {p : Nat} {a : LAd} {A : Option Addr} {c : Nat} {qs : List VtE} {R : Rp} {Ao : Option Addr} {co : Nat} {os : List OtE}
set_option maxHeartbeats 2000000 in
theorem c_upTo (hk : KZ W0 w p a A c qs R Ao co os) (n : Int) (h0 : 0 ≤ R.log.base) (h1 : R.log.base ≤ 1000000000) (h2 : R.log.ents.length ≤ 60) :
  Calls Tryz.prog 78 #[.pointer (some ⟨p, 0, none⟩), .int .i64 n] w fun e w' => e = .returned (.tuple #[]) ∧ KZ W0 w' p a A c qs (R.upTo n) Ao co os := by
 have HK := Lib.hid hk
 clear hk
 go_enter Tryz.func78, Tryz.ntmps78
 (refine Rm.wp_region_mix' (R := relE w.heap.size) (fun _ _ _ => True) (fun _ _ _ _ _ hq => hq) 18 (by first | exact Nat.le_refl _ | omega | (simp; omega)) (by kernel_rfl) (by kernel_rfl) ?_; simp only [List.take_succ_cons, List.take_zero, List.drop_succ_cons, List.drop_zero])
 ((iterate 2 (refine Rm.wpMix_plain rfl rfl ?_; go_big_quiet_step (fail); refine wpQuiet_nil ?_)); (refine Rm.wpMix_nilp rfl rfl rfl ?_; simp only [Act.put, List.setIfInBounds_toArray, List.set_cons_zero, List.set_cons_succ]); (iterate 2 (refine Rm.wpMix_plain rfl rfl ?_; go_big_quiet_step (fail); refine wpQuiet_nil ?_)); (refine Rm.wpMix_load1 (fun W9' h9 => show W9'.cell? _ = some (.int .i64 R.commit) from bx_cell (Ext.box h9 HK.out.box) 5) rfl rfl rfl Tryz.underlying3 rfl ?_; simp only [Act.put, List.setIfInBounds_toArray, List.set_cons_zero, List.set_cons_succ]); (iterate 2 (refine Rm.wpMix_plain rfl rfl ?_; go_big_quiet_step (fail); refine wpQuiet_nil ?_)); (refine Rm.wpMix_nilp rfl rfl rfl ?_; simp only [Act.put, List.setIfInBounds_toArray, List.set_cons_zero, List.set_cons_succ]); (iterate 2 (refine Rm.wpMix_plain rfl rfl ?_; go_big_quiet_step (fail); refine wpQuiet_nil ?_)))
 (refine Rm.wpMix_loadAgg (fun W9' h9 => kp_log HK.out.box h9) rfl rfl rfl Tryz.underlying40 (by kernel_rfl) ?_; simp only [Act.put, List.setIfInBounds_toArray, List.set_cons_zero, List.set_cons_succ])
 (refine Rm.wpMix_det rfl rfl rfl (enters Tryz.func76 (by kernel_rfl) rfl) (fun W9' h9 => c_end a R.log W9' (by omega) (by omega) (by omega)) rfl ?_; simp only [Act.put, List.setIfInBounds_toArray, List.set_cons_zero, List.set_cons_succ])
 ((iterate 2 (refine Rm.wpMix_plain rfl rfl ?_; go_big_quiet_step (fail); refine wpQuiet_nil ?_)); (refine Rm.wpMix_nilp rfl rfl rfl ?_; simp only [Act.put, List.setIfInBounds_toArray, List.set_cons_zero, List.set_cons_succ]); (iterate 2 (refine Rm.wpMix_plain rfl rfl ?_; go_big_quiet_step (fail); refine wpQuiet_nil ?_)))
 refine Rm.wpMix_nil ?_
 rintro W1 hW1
 have x1 : Ext w W1 := hW1
 have K1 := Lib.hid (HK.out.keep x1)
 have d4 := bx_cell K1.out.box
 have g4 := bx_frozen K1.out.box
 have z4 := bx_lt K1.out.box
 have P1 := box_put K1.out.box 5 (.int .i64 (max R.commit (min n R.log.fin)))
 simp only [List.setIfInBounds_toArray, List.set_cons_zero, List.set_cons_succ] at P1
 have c1 := chg_set (Chg.refl W1 [p]) (p := ⟨p, 5, none⟩) (by simp) (.int .i64 (max R.commit (min n R.log.fin)))
 have HF := Lib.hid (K1.out.put (R' := R.upTo n) c1 P1 rfl rfl)
 clear c1 P1 x1 hW1
 go_wp2
 exact bodyPost_end (v := .tuple #[]) (by simp [results, Tryz.results78, go_sem]) rfl ⟨rfl, HF.out⟩
theorem none_small : Lg.none.small := ⟨by simp [Lg.none], by simp [Lg.none], by simp [Lg.none]⟩
theorem none_rd (w : World) : LgR w LAd.none Lg.none := ⟨⟨Nat.le_refl _, by unfold maxLen; decide, fun h => absurd h (by decide)⟩, ⟨Nat.le_refl _, by unfold maxLen; decide, fun h => absurd h (by decide)⟩, ⟨Nat.le_refl _, by unfold maxLen; decide, fun h => absurd h (by decide)⟩⟩
set_option maxHeartbeats 2000000 in
theorem c_askState (hk : KZ W0 w p a A c qs R Ao co os) (to view op : Int) (hos : os.length ≤ 100000) :
  Calls Tryz.prog 77 #[.pointer (some ⟨p, 0, none⟩), .int .i64 to, .int .i64 view, .int .i64 op] w fun e w' => e = .returned (.tuple #[]) ∧ ∃ A' c' a', KZ W0 w' p a A c qs R A' c' (os ++ [(a', ⟨to, askM2 R view op⟩)]) := by
 have HK := Lib.hid hk
 have d := bx_cell hk.box
 have z := bx_lt hk.box
 clear hk
 go_enter Tryz.func77, Tryz.ntmps77
 go_wp2_with fail
 refine (c_sendZ W0 p a A c qs R os Ao co to LAd.none (askM2 R view op) w HK.out (none_rd _) (show Lg.none.small from none_small) hos).mono ?_
 rintro e w2 ⟨rfl, A2, c2, a2, hk2, cg⟩
 have HK2 := Lib.hid hk2
 clear hk2 cg d z
 go_wp2
 exact bodyPost_end (v := .tuple #[]) (by simp [results, Tryz.results77, go_sem]) rfl ⟨rfl, A2, c2, a2, HK2.out⟩
set_option maxHeartbeats 2000000 in
theorem c_ok (hk : KZ W0 w p a A c qs R Ao co os) (to : Int) (hos : os.length ≤ 100000) (h0 : 0 ≤ R.log.base) (h1 : R.log.base ≤ 1000000000) (h2 : R.log.ents.length ≤ 60) :
  Calls Tryz.prog 89 #[.pointer (some ⟨p, 0, none⟩), .int .i64 to] w fun e w' => e = .returned (.tuple #[]) ∧ ∃ A' c' a', KZ W0 w' p a A c qs R A' c' (os ++ [(a', ⟨to, okM R⟩)]) := by
 have HK := Lib.hid hk
 clear hk
 go_enter Tryz.func89, Tryz.ntmps89
 (refine Rm.wp_region_mix' (R := relE w.heap.size) (fun _ _ _ => True) (fun _ _ _ _ _ hq => hq) 18 (by first | exact Nat.le_refl _ | omega | (simp; omega)) (by kernel_rfl) (by kernel_rfl) ?_; simp only [List.take_succ_cons, List.take_zero, List.drop_succ_cons, List.drop_zero])
 ((iterate 3 (refine Rm.wpMix_plain rfl rfl ?_; go_big_quiet_step (fail); refine wpQuiet_nil ?_)); (refine Rm.wpMix_nilp rfl rfl rfl ?_; simp only [Act.put, List.setIfInBounds_toArray, List.set_cons_zero, List.set_cons_succ]); (iterate 2 (refine Rm.wpMix_plain rfl rfl ?_; go_big_quiet_step (fail); refine wpQuiet_nil ?_)); (refine Rm.wpMix_load1 (fun W9' h9 => show W9'.cell? _ = some (.int .i64 R.me) from bx_cell (Ext.box h9 HK.out.box) 0) rfl rfl rfl Tryz.underlying3 rfl ?_; simp only [Act.put, List.setIfInBounds_toArray, List.set_cons_zero, List.set_cons_succ]); (iterate 1 (refine Rm.wpMix_plain rfl rfl ?_; go_big_quiet_step (fail); refine wpQuiet_nil ?_)); (refine Rm.wpMix_nilp rfl rfl rfl ?_; simp only [Act.put, List.setIfInBounds_toArray, List.set_cons_zero, List.set_cons_succ]); (iterate 2 (refine Rm.wpMix_plain rfl rfl ?_; go_big_quiet_step (fail); refine wpQuiet_nil ?_)); (refine Rm.wpMix_load1 (fun W9' h9 => show W9'.cell? _ = some (.int .i64 R.view) from bx_cell (Ext.box h9 HK.out.box) 3) rfl rfl rfl Tryz.underlying3 rfl ?_; simp only [Act.put, List.setIfInBounds_toArray, List.set_cons_zero, List.set_cons_succ]); (iterate 1 (refine Rm.wpMix_plain rfl rfl ?_; go_big_quiet_step (fail); refine wpQuiet_nil ?_)); (refine Rm.wpMix_nilp rfl rfl rfl ?_; simp only [Act.put, List.setIfInBounds_toArray, List.set_cons_zero, List.set_cons_succ]); (iterate 2 (refine Rm.wpMix_plain rfl rfl ?_; go_big_quiet_step (fail); refine wpQuiet_nil ?_)))
 (refine Rm.wpMix_loadAgg (fun W9' h9 => kp_log HK.out.box h9) rfl rfl rfl Tryz.underlying40 (by kernel_rfl) ?_; simp only [Act.put, List.setIfInBounds_toArray, List.set_cons_zero, List.set_cons_succ])
 (refine Rm.wpMix_det rfl rfl rfl (enters Tryz.func76 (by kernel_rfl) rfl) (fun W9' h9 => c_end a R.log W9' (by omega) (by omega) (by omega)) rfl ?_; simp only [Act.put, List.setIfInBounds_toArray, List.set_cons_zero, List.set_cons_succ])
 refine Rm.wpMix_nil ?_
 rintro W1 hW1
 have x1 : Ext w W1 := hW1
 have K1 := Lib.hid (HK.out.keep x1)
 clear x1 hW1
 go_wp2_with fail
 refine (c_sendZ W0 p a A c qs R os Ao co to LAd.none (okM R) W1 K1.out (none_rd _) (show Lg.none.small from none_small) hos).mono ?_
 rintro e w2 ⟨rfl, A2, c2, a2, hk2, cg⟩
 have HK2 := Lib.hid hk2
 clear hk2 cg
 go_wp2
 exact bodyPost_end (v := .tuple #[]) (by simp [results, Tryz.results89, go_sem]) rfl ⟨rfl, A2, c2, a2, HK2.out⟩
end
end Go.Proofs.YtkenlhdiehaemaaGreat
