/- The keeper, with all that it holds its own. -/
import Derived.Test.YtkenlhdiehaemaaGreatPk23
import Derived.Test.YtkenlhdiehaemaaGreatPk20
import Derived.Test.YtkenlhdiehaemaaGreatPk21
namespace Go.Proofs.YtkenlhdiehaemaaGreat
open Go.ChangeShapes Go.WideShapes Go.ChangeAt Go.RowKit Go.Sort
set_option linter.unusedVariables false
set_option linter.unusedSimpArgs false
theorem RpO.chgN {w w' : World} {B T : Nat} {a : LAd} {A : Option Addr} {c : Nat} {ps : List VtE} {r : Rp} {S : List Nat} (h : RpO w B T a A c ps r) (hg : Chg w w' S) (hne : ∀ k ∈ a.fp ++ vsF A ps, k ∉ S) : RpO w' B T a A c ps r :=
 ⟨h.l.chg hg (fun k hk => hne k (List.mem_append_left _ hk)), h.v.chg hg (fun k hk => hne k (List.mem_append_right _ hk)), h.e, h.d⟩
theorem RpO.apartO {w : World} {B B' T : Nat} {a : LAd} {A : Option Addr} {c : Nat} {ps : List VtE} {r : Rp} {Ao : Option Addr} {n co : Nat} {os : List OtE} (h : RpO w B T a A c ps r) (k : Ow OtE.enc 100 18 w B' (.slice Ao n co) os) : ∀ x ∈ a.fp ++ vsF A ps, x ∉ blk Ao := fun x hx => by
 rcases List.mem_append.1 hx with hx | hx
 ·exact lg_apartO h.l k x hx
 ·rcases List.mem_append.1 hx with hx | hx
  ·exact h.v.r.apart k (by decide) x hx
  ·obtain ⟨q, hq, hx⟩ := List.mem_flatMap.1 hx
   exact lg_apartO (h.v.l q hq) k x hx
theorem RpO.apartB {w : World} {B T : Nat} {a : LAd} {A : Option Addr} {c : Nat} {ps : List VtE} {r : Rp} {p : Nat} {cs : Array Value} {t : TypeId} (h : RpO w B T a A c ps r) (hb : w.heap[p]? = some (.cells cs t (0, 0))) (h1 : t ≠ 146) (h2 : t ≠ 149) (h3 : t ≠ 119) (h4 : t ≠ 110) : p ∉ a.fp ++ vsF A ps := fun hx => by
 rcases List.mem_append.1 hx with hx | hx
 ·exact lg_box_apart hb h.l h1 h2 h3 hx
 ·rcases List.mem_append.1 hx with hx | hx
  ·exact box_apart hb h.v.r h4 hx
  ·obtain ⟨q, hq, hx⟩ := List.mem_flatMap.1 hx
   exact lg_box_apart hb (h.v.l q hq) h1 h2 h3 hx
structure KZ (W0 w : World) (p : Nat) (a : LAd) (A : Option Addr) (c : Nat) (qs : List VtE) (R : Rp) (Ao : Option Addr) (co : Nat) (os : List OtE) : Prop where
 box : w.heap[p]? = some (Kp.obj a A qs.length c R (.slice Ao os.length co))
 x : Ext W0 w
 low : W0.heap.size ≤ p
 rp : RpO w W0.heap.size w.heap.size a A c qs R
 row : Ow OtE.enc 100 18 w W0.heap.size (.slice Ao os.length co) os
 logs : OsQ w W0.heap.size os
 d : ∀ x ∈ a.fp ++ vsF A qs, ∀ q ∈ os, x ∉ q.1.fp
def KO (W0 w : World) (p : Nat) (R : Rp) (O : List Ot) : Prop := ∃ a A c qs Ao co os, KZ W0 w p a A c qs R Ao co os ∧ os.map Prod.snd = O
def RoY (w : World) (B : Nat) (R : Rp) (O : List Ot) (V : Value) : Prop := ∃ a A c qs Ao co os, V = .tuple #[Rp.val a A (List.length qs) c R, .slice Ao (List.length os) co] ∧ RpO w B w.heap.size a A c qs R ∧ OsO w B w.heap.size Ao co os ∧ List.map Prod.snd os = O ∧ ∀ x ∈ a.fp ++ vsF A qs, x ∉ OtE.fps Ao os
section
variable {W0 w w' : World} {p : Nat} {a : LAd} {A : Option Addr} {c : Nat} {qs : List VtE} {R R' : Rp} {Ao : Option Addr} {co : Nat} {os : List OtE}
theorem KZ.keep (h : KZ W0 w p a A c qs R Ao co os) (hx : Ext w w') : KZ W0 w' p a A c qs R Ao co os :=
 ⟨hx.box h.box, Ext.trans h.x hx, h.low, (h.rp.kept hx).wide (Nat.le_refl _) hx.size, h.row.kept hx, h.logs.kept hx, h.d⟩
theorem KO.keep {O : List Ot} (h : KO W0 w p R O) (hx : Ext w w') : KO W0 w' p R O := by
 obtain ⟨a, A, c, qs, Ao, co, os, h, e⟩ := h
 exact ⟨a, A, c, qs, Ao, co, os, h.keep hx, e⟩
theorem KZ.pB (h : KZ W0 w p a A c qs R Ao co os) : p ∉ a.fp ++ vsF A qs := h.rp.apartB h.box (by decide) (by decide) (by decide) (by decide)
theorem KZ.pO (h : KZ W0 w p a A c qs R Ao co os) : p ∉ blk Ao := box_apart h.box h.row (by decide)
theorem KZ.pL (h : KZ W0 w p a A c qs R Ao co os) : ∀ q ∈ os, p ∉ q.1.fp := fun q hq => lg_box_apart h.box (h.logs.l q hq) (by decide) (by decide) (by decide)
theorem KZ.put (h : KZ W0 w p a A c qs R Ao co os) (hg : Chg w w' [p]) (hb : w'.heap[p]? = some (Kp.obj a A qs.length c R' (.slice Ao os.length co))) (hl : R'.log = R.log) (hv : R'.votes = R.votes) : KZ W0 w' p a A c qs R' Ao co os := by
 have hr := (h.rp.chgN hg (fun k hk hm => by rw [List.mem_singleton] at hm; subst hm; exact h.pB hk)).wide (Nat.le_refl _) hg.size
 refine ⟨hb, chg_new h.x hg h.low, h.low, ⟨by rw [hl]; exact hr.l, hr.v, by rw [hv]; exact hr.e, hr.d⟩, h.row.chg hg (fun k hk hm => by rw [List.mem_singleton] at hm; subst hm; exact h.pO hk), h.logs.chg hg (fun q hq k hk hm => by rw [List.mem_singleton] at hm; subst hm; exact h.pL q hq hk), h.d⟩
theorem KZ.sent {A' : Option Addr} {c' : Nat} {a' : LAd} {v : Ot} {w1 : World} (h : KZ W0 w p a A c qs R Ao co os) (hx : Ext w w1) (ho : LgO w1 w.heap.size w1.heap.size a' v.msg.log) (hg : Chg w1 w' (p :: blk Ao)) (hb : w'.heap[p]? = some (Kp.obj a A qs.length c R (.slice A' (os ++ [(a', v)]).length c')))
  (hrow : Ow OtE.enc 100 18 w' W0.heap.size (.slice A' (os ++ [(a', v)]).length c') (os ++ [(a', v)])) : KZ W0 w' p a A c qs R A' c' (os ++ [(a', v)]) := by
 have h1 := h.keep hx
 have hlo := h1.logs.l
 have hst : OsQ w1 W0.heap.size (os ++ [(a', v)]) := h.logs.step h.x.size ho hx
 have hne : ∀ q ∈ os ++ [(a', v)], ∀ k ∈ q.1.fp, k ∉ p :: blk Ao := fun q hq k hk hm => by
  rcases List.mem_cons.1 hm with e | hm
  ·subst e
   exact lg_box_apart h1.box (hst.l q hq) (by decide) (by decide) (by decide) hk
  ·exact lg_apartO (hst.l q hq) h1.row k hk hm
 refine ⟨hb, ext_chg h1.x hg (fun g hg => ?_), h.low, (h1.rp.chgN hg (fun k hk hm => ?_)).wide (Nat.le_refl _) hg.size, hrow, hst.chg hg hne, fun x hx q hq hm => ?_⟩
 ·rcases List.mem_cons.1 hg with e | hg
  ·rw [e]; exact h.low
  ·exact (h1.row.inB g hg).1
 ·rcases List.mem_cons.1 hm with e | hm
  ·rw [e] at hk; exact h1.pB hk
  ·exact h1.rp.apartO h1.row k hk hm
 ·rcases List.mem_append.1 hq with hq | hq
  ·exact h.d x hx q hq hm
  ·rw [List.mem_singleton] at hq
   subst hq
   have h2 := (h.rp.fpIn x hx).2
   have h3 := ho.low x hm
   omega
theorem KZ.oso (h : KZ W0 w p a A c qs R Ao co os) : OsO w W0.heap.size w.heap.size Ao co os := h.logs.own h.row
theorem KZ.dd (h : KZ W0 w p a A c qs R Ao co os) : ∀ x ∈ a.fp ++ vsF A qs, x ∉ OtE.fps Ao os := fun x hx hm => by
 rcases List.mem_append.1 hm with hm | hm
 ·exact h.rp.apartO h.row x hx hm
 ·obtain ⟨q, hq, hm⟩ := List.mem_flatMap.1 hm
  exact h.d x hx q hq hm
end
set_option maxRecDepth 100000 in
set_option maxHeartbeats 4000000 in
theorem c_sendZ (W0 : World) (p : Nat) (a : LAd) (A : Option Addr) (c : Nat) (ps : List VtE) (r : Rp) (os : List OtE) (Ao : Option Addr) (co : Nat) (to : Int) (am : LAd) (m : Mg) (w : World) (hk : KZ W0 w p a A c ps r Ao co os) (hm : LgR w am m.log) (hs : m.log.small) (hos : os.length ≤ 100000) :
  Calls Tryz.prog 105 #[.pointer (some ⟨p, 0, none⟩), .int .i64 to, Mg.val am m] w fun e w' => e = .returned (.tuple #[]) ∧ ∃ A' c' a', KZ W0 w' p a A c ps r A' c' (os ++ [(a', ⟨to, m⟩)]) ∧ Chg w w' (p :: blk Ao) := by
 obtain ⟨i0, hi, hz0, hz1, hz2⟩ := info_parts Tryz.infoOt
 have X0 := ext_alloc w (Mg.obj am m)
 have HC := Lib.hid (c_copyLog am m.log hs _ (hm.keep X0))
 have HK := Lib.hid hk
 have hsz := hk.x.size
 clear hm hs hk
 go_enter Tryz.func105, Tryz.ntmps105
 go_wp2_with fail
 refine HC.out.mono ?_
 rintro e w1 ⟨a', rfl, o1, x1⟩
 have B1 := x1.box (hNew (w := w) (o := Mg.obj am m) rfl)
 have b1 := bx_cell B1
 have f1 := bx_frozen B1
 have z1 := bx_lt B1
 have P1 := box_put (box_put (box_put (box_put B1 13 (.int .i64 m.log.base)) 14 (.slice a'.cA m.log.cells.length a'.cc)) 15 (.slice a'.sA m.log.seats.length a'.sc)) 16 (.slice a'.eA m.log.ents.length a'.ec)
 simp only [List.setIfInBounds_toArray, List.set_cons_zero, List.set_cons_succ] at P1
 have hcs := chg_set (chg_set (chg_set (chg_set (Chg.refl w1 [w.heap.size]) (p := ⟨w.heap.size, 13, none⟩) (by simp) (.int .i64 m.log.base)) (p := ⟨w.heap.size, 14, none⟩) (by simp) (.slice a'.cA m.log.cells.length a'.cc)) (p := ⟨w.heap.size, 15, none⟩) (by simp) (.slice a'.sA m.log.seats.length a'.sc)) (p := ⟨w.heap.size, 16, none⟩) (by simp) (.slice a'.eA m.log.ents.length a'.ec)
 simp only [sz_alloc] at o1
 have HO := Lib.hid (o1.chg1 hcs (by omega))
 have HP1 := Lib.hid P1
 have HX1 := Lib.hid (chg_new (Ext.trans X0 x1) hcs (Nat.le_refl _))
 have HS := Lib.hid hcs.size
 clear B1 P1 hcs o1 x1 X0 HC
 go_wp2
 refine code_go (F := fun W => W.heap[w.heap.size]? = some (Mg.obj a' m) ∧ LgO W (w.heap.size + 1) W.heap.size a' m.log ∧ Ext w W) ⟨HP1.out, HO.out.wide (Nat.le_refl _) (by exact HS.out), HX1.out⟩ ?_
 intro W2 ⟨E2, O2, X2⟩
 clear b1 f1 z1 HP1 HO HX1 HS
 have D2 := Lib.hid (X2.box HK.out.box)
 have M2 := Lib.hid (cells_mid (cs := Mg.cs a' m) E2 [] [] rfl rfl)
 have HO2 := Lib.hid O2
 have HX2 := Lib.hid X2
 have hlt2 := bx_lt E2
 clear E2 O2
 (refine Rm.wp_region_mix' (R := relE W2.heap.size) (fun _ _ _ => True) (fun _ _ _ _ _ hq => hq) 9 (by first | exact Nat.le_refl _ | omega | (simp; omega)) (by kernel_rfl) (by kernel_rfl) ?_; simp only [List.take_succ_cons, List.take_zero, List.drop_succ_cons, List.drop_zero])
 (iterate 2 (refine Rm.wpMix_plain rfl rfl ?_; go_big_quiet_step (fail); refine wpQuiet_nil ?_))
 (refine Rm.wpMix_nilp rfl rfl rfl ?_; simp only [Act.put, List.setIfInBounds_toArray, List.set_cons_zero, List.set_cons_succ])
 (iterate 1 (refine Rm.wpMix_plain rfl rfl ?_; go_big_quiet_step (fail); refine wpQuiet_nil ?_))
 (refine Rm.wpMix_load1 (fun W hW => bx_cell (Ext.box hW D2.out) 13) rfl rfl rfl Tryz.underlying55 rfl ?_; simp only [Act.put, List.setIfInBounds_toArray, List.set_cons_zero, List.set_cons_succ])
 (iterate 1 (refine Rm.wpMix_plain rfl rfl ?_; go_big_quiet_step (fail); refine wpQuiet_nil ?_))
 (refine Rm.wpMix_loadAgg (fun W hW j v hj => (Below.cell hW (p := ⟨w.heap.size, 0 + j, none⟩) hlt2).trans (M2.out j v hj)) rfl rfl rfl Tryz.underlying60 (by kernel_rfl) ?_; simp only [Act.put, List.setIfInBounds_toArray, List.set_cons_zero, List.set_cons_succ])
 (iterate 1 (refine Rm.wpMix_plain rfl rfl ?_; go_big_quiet_step (fail); refine wpQuiet_nil ?_))
 (refine Rm.wpMix_alloc (.cells (OtE.cells a' ⟨to, m⟩) 100) rfl (fun W => by kernel_rfl) ?_; intro p1 hp1 hps1 hpi1; simp only [layVal, Act.put, List.setIfInBounds_toArray, List.set_cons_zero, List.set_cons_succ])
 refine Rm.wpMix_nil ?_
 rintro W3 ⟨X3, E3⟩
 have X3' : Ext W2 W3 := X3
 have hB3 : W0.heap.size ≤ W3.heap.size := by have := X2.size; have := X3'.size; omega
 have HXw := Lib.hid (Ext.trans X2 X3')
 have HK3 := Lib.hid (HK.out.keep HXw.out)
 have HO3 := Lib.hid ((HO2.out.kept X3').wide (Nat.le_succ _) X3'.size)
 have HE3 := Lib.hid E3
 clear X3 X3' E3 hp1 hps1 hpi1 M2 HO2 HX2 D2 hlt2 X2
 go_wp2_with (at_builtin; refine wl_app (enc := OtE.enc) rfl _ _ 55 rfl W0.heap.size 100 i0 Ot.zero 18 192 Tryz.underlying55 hi hz0 hz1 hz2 rfl (by decide) OtE.len OtE.one (.slice Ao os.length co) os rfl HK3.out.row (some ⟨p1, 0, none⟩) 1 [(a', (⟨to, m⟩ : Ot))] 1 rfl rfl (Rd.one HE3.out rfl) ?c1 ?c2 ?c3 ?_)
 case c1 => unfold maxLen; simp; omega
 case c2 => simp; omega
 case c3 => exact hB3
 intro v' w4 ho4 hg4
 obtain ⟨A', c', rfl⟩ := ho4.form
 have c4 := chg_grown hg4
 have D4 := box_out' HK3.out.box c4 HK3.out.pO
 have d4 := bx_cell D4
 have g4 := bx_frozen D4
 have z4 := bx_lt D4
 have P4 := box_put D4 13 (.slice A' (os.length + 1) c')
 simp only [List.setIfInBounds_toArray, List.set_cons_zero, List.set_cons_succ] at P4
 have hl1 : (os ++ [(a', (⟨to, m⟩ : Ot))]).length = os.length + 1 := by simp
 rw [hl1] at ho4
 have c5 := chg_set (Chg.refl w4 [p]) (p := ⟨p, 13, none⟩) (by simp) (.slice A' (os.length + 1) c')
 have hpb := box_apart D4 ho4 (by decide)
 have c45 := (c4.more (fun k hk => List.mem_cons_of_mem p hk)).trans (c5.more (fun k hk => by rw [List.mem_singleton] at hk; subst hk; exact List.mem_cons_self))
 have HF := Lib.hid (HK.out.sent HXw.out HO3.out c45 (by rw [hl1]; exact P4) (by rw [hl1]; exact ho4.chg c5 (fun k hk hm => by rw [List.mem_singleton] at hm; subst hm; exact hpb hk)))
 have HCg := Lib.hid ((chg_ext (p :: blk Ao) HXw.out).trans c45)
 clear c4 c5 c45 P4 ho4 hg4 D4 hpb hl1
 go_wp2
 exact bodyPost_end (v := .tuple #[]) (by simp [results, Tryz.results105, go_sem]) rfl ⟨rfl, A', c', a', HF.out, HCg.out⟩
end Go.Proofs.YtkenlhdiehaemaaGreat
namespace Go.Proofs.YtkenlhdiehaemaaGreat
open Go.ChangeShapes Go.WideShapes Go.ChangeAt Go.RowKit Go.Sort
set_option linter.unusedVariables false
set_option linter.unusedSimpArgs false
def sHas (s : ByteArray) (b : Int) : Bool := (List.range s.size).any (fun i => if h : i < s.size then (s[i].toNat : Int) == b else false)
def sTo (s : ByteArray) (b : Int) (k : Nat) : Prop := ∀ j (h : j < s.size), j < k → ((s[j].toNat : Int) == b) = false
theorem sTo.next {s : ByteArray} {b : Int} {k : Nat} (h : sTo s b k) (hk : k < s.size) (hs : ((s[k].toNat : Int) == b) = false) : sTo s b (k + 1) := fun j hj hjk => by
 by_cases he : j = k
 ·subst he; exact hs
 ·exact h j hj (by omega)
theorem sHas_yes {s : ByteArray} {b : Int} {k : Nat} (hk : k < s.size) (hs : ((s[k].toNat : Int) == b) = true) : sHas s b = true := by
 unfold sHas
 rw [List.any_eq_true]
 exact ⟨k, by simpa using hk, by rw [dif_pos hk]; exact hs⟩
theorem sHas_no {s : ByteArray} {b : Int} (h : sTo s b s.size) : sHas s b = false := by
 unfold sHas
 rw [List.any_eq_false]
 intro j hj
 have hj' : j < s.size := by simpa using hj
 rw [dif_pos hj', h j hj' hj']
 simp
theorem c_l4In (s : ByteArray) (b : Int) (hs : s.size ≤ 100) (w : World) : Calls Tryz.prog 184 #[.string s, .int .u8 b] w fun e w' => e = .returned (.bool (sHas s b)) ∧ Ext w w' := by
 go_enter Tryz.func184, Tryz.ntmps184
 go_wp2
 go_loopw [5] (fun i wr => ∃ k : Nat, k ≤ s.size ∧ i = .int .i64 k ∧ sTo s b k ∧ Ext w wr) (fun i _ => s.size - (intOf i).toNat)
 case atStart => exact ⟨0, Nat.zero_le _, rfl, fun j hj hjk => absurd hjk (by omega), ext_refl _⟩
 case round =>
  obtain ⟨k, hk, rfl, ht, X⟩ := hrel
  have HT := Lib.hid ht
  clear ht
  by_cases hlt : k < s.size
  ·cases q : ((s[k].toNat : Int) == b)
   ·have HN := Lib.hid (HT.out.next hlt q)
    go_wp2
    go_roundw
    case rel => exact ⟨k + 1, by omega, by go_num, HN.out, X⟩
    case measure => simp [intOf] <;> omega
   ·have HN := Lib.hid (sHas_yes hlt q)
    go_wp2
    go_ret
    exact ⟨ret_bool HN.out.symm, X⟩
  ·obtain rfl : k = s.size := by omega
   have HN := Lib.hid (sHas_no HT.out)
   go_wp2
   go_ret
   exact ⟨ret_bool HN.out.symm, X⟩
theorem c_has (s : ByteArray) (b : Int) (hs : s.size ≤ 100) (w : World) : Calls Tryz.prog 148 #[.string s, .int .u8 b] w fun e w' => e = .returned (.bool (sHas s b)) ∧ Ext w w' := by
 go_enter Tryz.func148, Tryz.ntmps148
 go_wp2
 go_loopw [8] (fun i wr => ∃ k : Nat, k ≤ s.size ∧ i = .int .i64 k ∧ sTo s b k ∧ Ext w wr) (fun i _ => s.size - (intOf i).toNat)
 case atStart => exact ⟨0, Nat.zero_le _, rfl, fun j hj hjk => absurd hjk (by omega), ext_refl _⟩
 case round =>
  obtain ⟨k, hk, rfl, ht, X⟩ := hrel
  have HT := Lib.hid ht
  clear ht
  by_cases hlt : k < s.size
  ·cases q : ((s[k].toNat : Int) == b)
   ·have HN := Lib.hid (HT.out.next hlt q)
    go_wp2
    go_roundw
    case rel => exact ⟨k + 1, by omega, by go_num, HN.out, X⟩
    case measure => simp [intOf] <;> omega
   ·have HN := Lib.hid (sHas_yes hlt q)
    go_wp2
    go_ret
    exact ⟨ret_bool HN.out.symm, X⟩
  ·obtain rfl : k = s.size := by omega
   have HN := Lib.hid (sHas_no HT.out)
   go_wp2
   go_ret
   exact ⟨ret_bool HN.out.symm, X⟩
def numOk (h : Bool) (x lo hi : Int) : Bool := h && inB x lo hi || !h && x == 0
theorem c_l4Num (h : Bool) (x lo hi : Int) (w : World) : Calls Tryz.prog 183 #[.bool h, .int .i64 x, .int .i64 lo, .int .i64 hi] w fun e w' => e = .returned (.bool (numOk h x lo hi)) ∧ Ext w w' := by
 cases h
 ·go_enter Tryz.func183, Tryz.ntmps183
  go_wp2
  all_goals
   go_ret
   exact ⟨ret_bool (by first | (simp [numOk, *]; done) | (simp_all [numOk]; done)), ext_refl _⟩
 ·go_enter Tryz.func183, Tryz.ntmps183
  go_wp2_with (go_at_call 121; refine (c_l1In _ _ _ _).mono ?_; rintro e w1 ⟨rfl, hx⟩; obtain ⟨hc1, hf1, hs1⟩ := hx.rules; (try simp at hs1))
  all_goals
   go_ret
   refine ⟨ret_bool ?_, ?_⟩
   ·(first | (simp [numOk, *]; done) | (simp_all [numOk]; done))
   ·(repeat (first | with_reducible exact ext_refl _ | with_reducible refine ext_to ?_ _ | with_reducible refine ext_set ?_ (by first | (simp; done) | (simp; omega) | omega) _ | with_reducible refine ext_drew ?_ | with_reducible refine Ext.trans ?_ (by assumption)))
def sForm (k : Int) : ByteArray := if k = 1 then ⟨#[67, 82, 100]⟩ else if k = 2 then ⟨#[102, 118, 111, 99, 67, 82, 100]⟩ else if k = 3 ∨ k = 10 then ⟨#[102, 118, 111]⟩ else if k = 4 then ⟨#[102, 118, 99]⟩ else if k = 5 then ⟨#[102, 118]⟩ else if k = 6 then ⟨#[102, 118, 110, 99, 108]⟩ else if k = 7 ∨ k = 11 then ⟨#[102, 118, 99, 108]⟩ else if k = 8 then ⟨#[102, 107]⟩ else if k = 9 then ⟨#[102, 118, 107, 99, 108]⟩ else if k = 12 then ⟨#[118, 67, 82, 65]⟩ else ⟨#[]⟩
def iForm (k : Int) : ByteArray := if k = 1 then ⟨#[99, 114, 120]⟩ else if k = 2 then ⟨#[70, 86, 79, 67, 99, 114, 120]⟩ else if k = 3 ∨ k = 10 then ⟨#[70, 86, 79]⟩ else if k = 4 then ⟨#[70, 86, 67]⟩ else if k = 5 then ⟨#[70, 86]⟩ else if k = 6 then ⟨#[70, 86, 78, 67, 76]⟩ else if k = 7 ∨ k = 11 then ⟨#[70, 86, 67, 76]⟩ else if k = 8 then ⟨#[70, 110]⟩ else if k = 9 then ⟨#[70, 86, 110, 67, 76]⟩ else if k = 12 then ⟨#[86, 99, 114, 65]⟩ else ⟨#[]⟩
theorem c_l4Has (k : Int) (w : World) : Calls Tryz.prog 182 #[.int .i64 k] w fun e w' => e = .returned (.string (sForm k)) ∧ Ext w w' := by
 go_enter Tryz.func182, Tryz.ntmps182
 go_wp2
 all_goals
  go_ret
  refine ⟨?_, ext_refl _⟩
  (first | (simp [sForm, *]; done) | (simp_all [sForm]; done))
theorem c_fields (k : Int) (w : World) : Calls Tryz.prog 149 #[.int .i64 k] w fun e w' => e = .returned (.string (iForm k)) ∧ Ext w w' := by
 go_enter Tryz.func149, Tryz.ntmps149
 go_wp2
 all_goals
  go_ret
  refine ⟨?_, ext_refl _⟩
  (first | (simp [iForm, *]; done) | (simp_all [iForm]; done))
def fOk (b n : Int) : Bool := if b = 70 then inB n 0 4 else if b = 114 then inB n 1 1000000000 else if b = 65 then inB n (-1) 1000000000 else inB n 0 1000000000
theorem c_fieldOk (b n : Int) (w : World) : Calls Tryz.prog 189 #[.int .u8 b, .int .i64 n] w fun e w' => e = .returned (.bool (fOk b n)) ∧ Ext w w' := by
 go_enter Tryz.func189, Tryz.ntmps189
 go_wp2_with (first | (go_at_call 132; refine (c_from _ _ _ _).mono ?_; rintro e w1 ⟨rfl, hx⟩; obtain ⟨hc1, hf1, hs1⟩ := hx.rules; (try simp at hs1)) | (go_at_call 209; refine (c_isReq _ _).mono ?_; rintro e w1 ⟨rfl, hx⟩; obtain ⟨hc1, hf1, hs1⟩ := hx.rules; (try simp at hs1)) | (go_at_call 210; refine (c_isAnswer _ _).mono ?_; rintro e w1 ⟨rfl, hx⟩; obtain ⟨hc1, hf1, hs1⟩ := hx.rules; (try simp at hs1)) | (go_at_call 133; refine (c_isWhole _ _).mono ?_; rintro e w1 ⟨rfl, hx⟩; obtain ⟨hc1, hf1, hs1⟩ := hx.rules; (try simp at hs1)))
 all_goals
  go_ret
  refine ⟨ret_bool ?_, ?_⟩
  ·(first | (simp [fOk, *]; done) | (simp_all [fOk]; done))
  ·(repeat (first | with_reducible exact ext_refl _ | with_reducible refine ext_to ?_ _ | with_reducible refine ext_set ?_ (by first | (simp; done) | (simp; omega) | omega) _ | with_reducible refine ext_drew ?_ | with_reducible refine Ext.trans ?_ (by assumption)))
def nOff (b : Int) : Nat := if b = 70 then 1 else if b = 86 then 2 else if b = 79 then 3 else if b = 67 then 4 else if b = 78 then 5 else if b = 110 then 6 else if b = 99 then 7 else if b = 114 then 8 else 9
end Go.Proofs.YtkenlhdiehaemaaGreat
