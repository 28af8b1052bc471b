/- The laws' own functions on images, logs, votes: how great they are, and made anew. -/
import Derived.Test.YtpghedeghoegmaaPk1
import Derived.Test.YtpghedeghoegmaaPk2
namespace Go.Proofs.Ytpghedeghoegmaa
open Go.ChangeShapes Go.WideShapes Go.ChangeAt Go.RowKit Go.Sort
set_option linter.unusedVariables false
set_option linter.unusedSimpArgs false
def Lg.small (l : Lg) : Prop := l.cells.length ≤ 1048576 ∧ l.seats.length ≤ 1048576 ∧ l.ents.length ≤ 1048576
abbrev VtE.val (a : LAd) (v : Vt) : Value := .agg #[.int .i64 v.kind, .int .i64 v.frm, .int .i64 v.view, .int .i64 v.normal, .int .i64 v.op, .int .i64 v.commit, .int .i64 v.log.base, .slice a.cA v.log.cells.length a.cc, .slice a.sA v.log.seats.length a.sc, .slice a.eA v.log.ents.length a.ec]
abbrev Vt.zero : Value := .agg #[.int .i64 0, .int .i64 0, .int .i64 0, .int .i64 0, .int .i64 0, .int .i64 0, .int .i64 0, .slice none 0 0, .slice none 0 0, .slice none 0 0]
structure VsP (w : World) (B g : Nat) (ps : List VtE) : Prop where
 l : ∀ p ∈ ps, LgO w B w.heap.size p.1 p.2.log
 nd : (g :: ps.flatMap (fun p => p.1.fp)).Nodup
 gl : g < w.heap.size
theorem VsP.step {w w' : World} {B g : Nat} {ps : List VtE} {a : LAd} {v : Vt} (h : VsP w B g ps) (hB : B ≤ w.heap.size) (ho : LgO w' w.heap.size w'.heap.size a v.log) (hx : Ext w w') : VsP w' B g (ps ++ [(a, v)]) := by
 have hs := hx.size
 refine ⟨fun p hp => ?_, ?_, by have := h.gl; omega⟩
 ·rcases List.mem_append.1 hp with hp | hp
  ·exact ((h.l p hp).kept hx).wide (Nat.le_refl _) hs
  ·rw [Mi] at hp
   subst hp
   exact ho.wide hB (Nat.le_refl _)
 ·have hn := h.nd
  simp only [List.flatMap_append, List.flatMap_cons, List.flatMap_nil, List.append_nil]
  rw [← List.cons_append, List.nodup_append]
  refine ⟨hn, ho.nd, fun x hx1 y hy he => ?_⟩
  subst he
  have lo := ho.low x hy
  rcases List.mem_cons.1 hx1 with rfl | hx1
  ·have := h.gl; omega
  ·obtain ⟨p, hp, hxp⟩ := List.mem_flatMap.1 hx1
   have := (h.l p hp).lt x hxp
   omega
theorem VsP.set {w : World} {B g : Nat} {ps : List VtE} (h : VsP w B g ps) (hg : ∀ p ∈ ps, g ∉ p.1.fp) (o : Nat) (u : Value) : VsP (w.setCell ⟨g, o, none⟩ u) B g ps := by
 have hx : Chg w (w.setCell ⟨g, o, none⟩ u) [g] := ⟨rfl, rfl, rfl, Nat.le_of_eq (World.size_setCell ..).symm, fun k _ hn => Below.heap_setCell _ _ _ _ (fun he => hn (by simp [he]))⟩
 refine ⟨fun p hp => ?_, h.nd, by simpa using h.gl⟩
 rw [World.size_setCell]
 exact (h.l p hp).chg hx (fun k hk hm => by rw [Mi] at hm; exact hg p hp (hm ▸ hk))
theorem VsP.apart {w : World} {B g : Nat} {ps : List VtE} (h : VsP w B g ps) : ∀ p ∈ ps, g ∉ p.1.fp := fun p hp hg => by
 have := h.nd
 rw [List.nodup_cons] at this
 exact this.1 (List.mem_flatMap.2 ⟨p, hp, hg⟩)
def VsS (ps qs : List VtE) (k : Nat) : Prop := qs.map Prod.snd = (ps.take k).map Prod.snd
theorem VsS.length {ps qs : List VtE} {k : Nat} (h : VsS ps qs k) (hk : k ≤ ps.length) : qs.length = k := by
 have := congrArg List.length h
 simp at this
 omega
theorem VsS.next {ps qs : List VtE} {k : Nat} (h : VsS ps qs k) (hk : k < ps.length) (a : LAd) : VsS ps (qs ++ [(a, ps[k].2)]) (k + 1) := by
 unfold VsS at h ⊢
 rw [List.map_append, h, List.take_succ_eq_append_getElem hk, List.map_append]
 rfl
def Lg.mk' (k : Int) (b : Int) (l : Lg) : Lg := ⟨b, marksCel k l.cells.length, marksSea (k + 2 * l.cells.length) l.seats.length, marksEnt (k + 2 * l.cells.length + 3 * l.seats.length) l.ents.length⟩
def Lg.mN (l : Lg) : Int := 2 * l.cells.length + 3 * l.seats.length + 5 * l.ents.length
abbrev Lg.val (a : LAd) (l : Lg) : Value := .agg #[.int .i64 l.base, .slice a.cA l.cells.length a.cc, .slice a.sA l.seats.length a.sc, .slice a.eA l.ents.length a.ec]
abbrev Lg.obj (a : LAd) (l : Lg) : Obj := .cells #[.int .i64 l.base, .slice a.cA l.cells.length a.cc, .slice a.sA l.seats.length a.sc, .slice a.eA l.ents.length a.ec] 44
set_option maxHeartbeats 2000000 in
theorem c_idxEnt (g : Nat) (lb : Array Value) (p : Ent → Bool) (eg : ∀ args w, (callFunc g args).run Try.prog w = .ok (.enter g args) w) (A : Option Addr) (c : Nat) (l : List Ent) (w : World) (ha : Rd Ent.enc 5 w A c l) (hn : l.length ≤ 1099511627776)
  (hp : ∀ W, Ext w W → ∀ k (hk : k < l.length), Calls Try.prog g (#[.agg #[.int .i64 l[k].client, .int .i64 l[k].req, .int .i64 l[k].kind, .int .i64 l[k].key, .int .i64 l[k].value]] ++ lb) W fun e w' => e = .returned (.bool (p l[k])) ∧ Ext W w') :
  Calls Try.prog 132 #[.slice A l.length c, .func (.func g) #[] lb] w fun e w' => e = .returned (.int .i64 (idxOf p l)) ∧ Ext w w' := by
 have HP := Hd hp
 clear hp
 go_enter Try.func132, Try.ntmps132
 go_wp2
 go_loopw [8] (fun i wr => ∃ k : Nat, k ≤ l.length ∧ i = .int .i64 k ∧ (∀ j (hj : j < l.length), j < k → p l[j] = false) ∧ Ext w wr) (fun i _ => l.length - (intOf i).toNat)
 case atStart => exact ⟨0, Nat.zero_le _, rfl, fun j hj h => absurd h (by omega), ext_refl _⟩
 case round =>
  obtain ⟨k, hk, rfl, ht, hx0⟩ := hrel
  have HT := Hd ht
  clear ht
  by_cases hlt : k < l.length
  ·have hcall := HP.out wr hx0 k hlt
   obtain ⟨ab, ao, rfl, hab, a0, a1, a2, a3, a4⟩ := (ha.keep hx0).atEnt hlt
   cases hq : p l[k]
   ·rw [hq] at hcall
    have HQ := Hd hq
    clear hq HP
    go_wp2_with fail
    refine hcall.mono ?_
    rintro e w1 ⟨rfl, hx⟩
    clear hcall
    go_wp2
    go_roundw
    case rel => exact ⟨k + 1, by omega, by go_num, no_next HT.out (fun _ => HQ.out), Ext.trans hx0 hx⟩
    case measure => simp [intOf] <;> omega
   ·rw [hq] at hcall
    have HQ := Hd hq
    clear hq HP
    go_wp2_with fail
    refine hcall.mono ?_
    rintro e w1 ⟨rfl, hx⟩
    clear hcall
    go_wp2
    go_ret
    exact ⟨ret_int (idx_hit hlt HQ.out HT.out).symm, Ext.trans hx0 hx⟩
  ·have HV := Hd (idx_miss (p := p) (l := l) (fun j hj => HT.out j hj (by omega)))
   go_wp2
   go_ret
   exact ⟨ret_int HV.out.symm, hx0⟩
theorem c_anyEnt (g : Nat) (lb : Array Value) (p : Ent → Bool) (eg : ∀ args w, (callFunc g args).run Try.prog w = .ok (.enter g args) w) (A : Option Addr) (c : Nat) (l : List Ent) (w : World) (ha : Rd Ent.enc 5 w A c l) (hn : l.length ≤ 1099511627776)
  (hp : ∀ W, Ext w W → ∀ k (hk : k < l.length), Calls Try.prog g (#[.agg #[.int .i64 l[k].client, .int .i64 l[k].req, .int .i64 l[k].kind, .int .i64 l[k].key, .int .i64 l[k].value]] ++ lb) W fun e w' => e = .returned (.bool (p l[k])) ∧ Ext W w') :
  Calls Try.prog 114 #[.slice A l.length c, .func (.func g) #[] lb] w fun e w' => e = .returned (.bool (l.any p)) ∧ Ext w w' := by
 have hcon := c_idxEnt g lb p eg A c l w ha hn hp
 rw [← idxOf_any]
 obtain ⟨z, hz⟩ : ∃ z, idxOf p l = z := ⟨_, rfl⟩
 rw [hz] at hcon ⊢
 clear hz hp
 go_enter Try.func114, Try.ntmps114
 go_wp2_with fail
 refine hcon.mono ?_
 rintro e w1 ⟨rfl, x1⟩
 go_wp2
 go_ret
 exact ⟨rfl, x1⟩
def LogOk (l : Lg) : Prop := inB l.base 0 1000000000 = true ∧ imageOk l.cells l.seats = true ∧ l.ents.length ≤ 60 ∧ inB (l.base + l.ents.length) 0 1000000000 = true ∧ ∀ e ∈ l.ents, e.ok = true
instance (l : Lg) : Decidable (LogOk l) := inferInstanceAs (Decidable (_ ∧ _))
def logOk (l : Lg) : Bool := decide (LogOk l)
theorem logOk_1 {l : Lg} (h : inB l.base 0 1000000000 = false) : logOk l = false := decide_eq_false fun hp => by have := hp.1; rw [h] at this; cases this
theorem logOk_2 {l : Lg} (h : imageOk l.cells l.seats = false) : logOk l = false := decide_eq_false fun hp => by have := hp.2.1; rw [h] at this; cases this
theorem logOk_3 {l : Lg} (h : ¬ l.ents.length ≤ 60) : logOk l = false := decide_eq_false fun hp => h hp.2.2.1
theorem logOk_4 {l : Lg} (h : inB (l.base + l.ents.length) 0 1000000000 = false) : logOk l = false := decide_eq_false fun hp => by have := hp.2.2.2.1; rw [h] at this; cases this
theorem logOk_5 {l : Lg} {k : Nat} (hk : k < l.ents.length) (h : l.ents[k].ok = false) : logOk l = false := decide_eq_false fun hp => by have := hp.2.2.2.2 _ (List.getElem_mem hk); rw [h] at this; cases this
theorem logOk_any {l : Lg} (h1 : inB l.base 0 1000000000 = true) (h2 : imageOk l.cells l.seats = true) (h3 : l.ents.length ≤ 60) (h4 : inB (l.base + l.ents.length) 0 1000000000 = true) : logOk l = !l.ents.any (fun e => !e.ok) := by
 unfold logOk
 rw [Bool.eq_iff_iff, decide_eq_true_eq]
 simp only [Bool.not_eq_true', List.any_eq_false, Bool.not_eq_true, Bool.not_eq_false']
 exact ⟨fun h e he => by simpa using h.2.2.2.2 e he, fun h => ⟨h1, h2, h3, h4, fun e he => by simpa using h e he⟩⟩
theorem logOk_any' {l : Lg} (h : l.ents.any (fun e => !e.ok) = true) : logOk l = false := decide_eq_false fun hp => by
 rw [List.any_eq_true] at h
 obtain ⟨e, he, hn⟩ := h
 have := hp.2.2.2.2 e he
 rw [this] at hn
 cases hn
def ETo (l : List Ent) (k : Nat) : Prop := ∀ j (h : j < l.length), j < k → l[j].ok = true
theorem ETo.next {l : List Ent} {k : Nat} (h : ETo l k) (hk : k < l.length) (hs : l[k].ok = true) : ETo l (k + 1) := fun j hj hjk => by
 by_cases he : j = k
 ·subst he; exact hs
 ·exact h j hj (by omega)
theorem ETo.all {l : List Ent} (h : ETo l l.length) : ∀ e ∈ l, e.ok = true := fun e he => by
 obtain ⟨k, hk, rfl⟩ := List.mem_iff_getElem.1 he
 exact h k hk hk
set_option maxRecDepth 100000 in
set_option maxHeartbeats 8000000 in
theorem c_sLogOk (a : LAd) (l : Lg) (s1 : l.cells.length ≤ 1048576) (s2 : l.seats.length ≤ 1048576) (s3 : l.ents.length ≤ 1048576) (w : World) (hr : LgR w a l) :
  Calls Try.prog 60 #[Lg.val a l] w fun e w' => e = .returned (.bool (logOk l)) ∧ Ext w w' := by
 have X0 := ext_alloc w (Lg.obj a l)
 cases q1 : inB l.base 0 1000000000
 ·have HN := Hd (logOk_1 q1)
  go_enter Try.func60, Try.ntmps60
  go_wp2_with fail
  refine (c_l1Whole _ _).mono ?_
  rintro e w1 ⟨rfl, x1⟩
  go_wp2
  go_ret
  exact ⟨ret_bool HN.out.symm, Ext.trans X0 x1⟩
 have hI := fun W (h : Ext (w.alloc (Lg.obj a l)) W) => c_sImageOk a.cA a.cc l.cells a.sA a.sc l.seats W (hr.1.keep (Ext.trans X0 h)) (hr.2.1.keep (Ext.trans X0 h)) (by omega) (by omega)
 cases q2 : imageOk l.cells l.seats
 ·have HN := Hd (logOk_2 q2)
  rw [q2] at hI
  have HI := Hd hI
  clear hI q2
  go_enter Try.func60, Try.ntmps60
  go_wp2_with fail
  refine (c_l1Whole _ _).mono ?_
  rintro e w1 ⟨rfl, x1⟩
  have b1 := bx_cell (x1.box (hNew (w := w) (o := Lg.obj a l) rfl))
  go_wp2_with fail
  refine (HI.out _ x1).mono ?_
  rintro e w2 ⟨rfl, x2⟩
  go_wp2
  go_ret
  exact ⟨ret_bool HN.out.symm, Ext.trans X0 (Ext.trans x1 x2)⟩
 have Q2 := Hd q2
 rw [q2] at hI
 have HI := Hd hI
 clear hI q2
 by_cases h3 : l.ents.length ≤ 60
 ·have g3 : decide ((60 : Int) < (l.ents.length : Int)) = false := by simp; omega
  have hb := (inB_yes _ _ _).1 q1
  obtain ⟨hb0, hb1⟩ := hb
  cases q4 : inB (l.base + l.ents.length) 0 1000000000
  ·have HN := Hd (logOk_4 q4)
   go_enter Try.func60, Try.ntmps60
   go_wp2_with fail
   refine (c_l1Whole _ _).mono ?_
   rintro e w1 ⟨rfl, x1⟩
   have b1 := bx_cell (x1.box (hNew (w := w) (o := Lg.obj a l) rfl))
   go_wp2_with fail
   refine (HI.out _ x1).mono ?_
   rintro e w2 ⟨rfl, x2⟩
   have b2 := bx_cell ((Ext.trans x1 x2).box (hNew (w := w) (o := Lg.obj a l) rfl))
   clear b1
   go_wp2_with fail
   refine (c_l1Whole _ _).mono ?_
   rintro e w3 ⟨rfl, x3⟩
   go_wp2
   go_ret
   exact ⟨ret_bool HN.out.symm, Ext.trans X0 (Ext.trans x1 (Ext.trans x2 x3))⟩
  ·go_enter Try.func60, Try.ntmps60
   go_wp2_with fail
   refine (c_l1Whole _ _).mono ?_
   rintro e w1 ⟨rfl, x1⟩
   have b1 := bx_cell (x1.box (hNew (w := w) (o := Lg.obj a l) rfl))
   go_wp2_with fail
   refine (HI.out _ x1).mono ?_
   rintro e w2 ⟨rfl, x2⟩
   have b2 := bx_cell ((Ext.trans x1 x2).box (hNew (w := w) (o := Lg.obj a l) rfl))
   clear b1
   go_wp2_with fail
   refine (c_l1Whole _ _).mono ?_
   rintro e w3 ⟨rfl, x3⟩
   have hw2 := Ext.trans x1 (Ext.trans x2 x3)
   have Q1 := Hd q1
   have Q4 := Hd q4
   go_wp2
   clear b2 q1 q4 hb0 hb1 x1 x2 x3
   go_loopw [3] (fun i wr => ∃ k : Nat, k ≤ l.ents.length ∧ i = .int .i64 k ∧ ETo l.ents k ∧ Ext (w.alloc (Lg.obj a l)) wr) (fun i _ => l.ents.length - (intOf i).toNat)
   case atStart => exact ⟨0, Nat.zero_le _, rfl, fun j hj hjk => absurd hjk (by omega), hw2⟩
   case round =>
    obtain ⟨k, hk, rfl, ht, hx0⟩ := hrel
    have HT := Hd ht
    clear ht
    have B1 := hx0.box (hNew (w := w) (o := Lg.obj a l) rfl)
    have b1 := bx_cell B1
    have f1 := bx_frozen B1
    have z1 := bx_lt B1
    have X1 := Ext.trans X0 hx0
    by_cases hlt : k < l.ents.length
    ·obtain ⟨ab, ao, hA, hab, a0, a1, a2, a3, a4⟩ := (hr.2.2.keep X1).atEnt hlt
     have hcon := c_sEntryOk l.ents[k]
     cases q5 : l.ents[k].ok
     ·rw [q5] at hcon
      have HN := Hd (logOk_5 hlt q5)
      clear q5
      rw [hA] at b1
      have HA := Hd hA
      clear hA
      go_wp2_with fail
      refine (hcon _).mono ?_
      rintro e w3 ⟨rfl, x3⟩
      go_wp2
      go_ret
      exact ⟨ret_bool (by rw [HN.out]), Ext.trans X1 x3⟩
     ·rw [q5] at hcon
      have HQ := Hd (HT.out.next hlt q5)
      clear q5
      rw [hA] at b1
      have HA := Hd hA
      clear hA
      go_wp2_with fail
      refine (hcon _).mono ?_
      rintro e w3 ⟨rfl, x3⟩
      go_wp2
      go_roundw
      case rel => exact ⟨k + 1, by omega, by go_num, HQ.out, Ext.trans hx0 x3⟩
      case measure => simp [intOf] <;> omega
    ·have hkl : k = l.ents.length := by omega
     subst hkl
     have HV := Hd (show logOk l = true from decide_eq_true ⟨Q1.out, Q2.out, h3, Q4.out, HT.out.all⟩)
     go_wp2
     go_ret
     exact ⟨ret_bool HV.out.symm, X1⟩
 ·have g3 : decide ((60 : Int) < (l.ents.length : Int)) = true := by simp; omega
  have HN := Hd (logOk_3 h3)
  clear h3
  go_enter Try.func60, Try.ntmps60
  go_wp2_with fail
  refine (c_l1Whole _ _).mono ?_
  rintro e w1 ⟨rfl, x1⟩
  have b1 := bx_cell (x1.box (hNew (w := w) (o := Lg.obj a l) rfl))
  go_wp2_with fail
  refine (HI.out _ x1).mono ?_
  rintro e w2 ⟨rfl, x2⟩
  have b2 := bx_cell ((Ext.trans x1 x2).box (hNew (w := w) (o := Lg.obj a l) rfl))
  clear b1
  go_wp2
  go_ret
  exact ⟨ret_bool HN.out.symm, Ext.trans X0 (Ext.trans x1 x2)⟩
set_option maxHeartbeats 8000000 in
theorem c_iLogOk (a : LAd) (l : Lg) (s1 : l.cells.length ≤ 1048576) (s2 : l.seats.length ≤ 1048576) (s3 : l.ents.length ≤ 1048576) (w : World) (hr : LgR w a l) :
  Calls Try.prog 78 #[Lg.val a l] w fun e w' => e = .returned (.bool (logOk l)) ∧ Ext w w' := by
 have X0 := ext_alloc w (Lg.obj a l)
 cases q1 : inB l.base 0 1000000000
 ·have HN := Hd (logOk_1 q1)
  go_enter Try.func78, Try.ntmps78
  go_wp2_with fail
  refine (c_isWhole _ _).mono ?_
  rintro e w1 ⟨rfl, x1⟩
  go_wp2
  go_ret
  exact ⟨ret_bool HN.out.symm, Ext.trans X0 x1⟩
 have hI := fun W (h : Ext (w.alloc (Lg.obj a l)) W) => c_iImageOk a.cA a.cc l.cells a.sA a.sc l.seats W (hr.1.keep (Ext.trans X0 h)) (hr.2.1.keep (Ext.trans X0 h)) (by omega) (by omega)
 cases q2 : imageOk l.cells l.seats
 ·have HN := Hd (logOk_2 q2)
  rw [q2] at hI
  have HI := Hd hI
  clear hI q2
  go_enter Try.func78, Try.ntmps78
  go_wp2_with fail
  refine (c_isWhole _ _).mono ?_
  rintro e w1 ⟨rfl, x1⟩
  have b1 := bx_cell (x1.box (hNew (w := w) (o := Lg.obj a l) rfl))
  go_wp2_with fail
  refine (HI.out _ x1).mono ?_
  rintro e w2 ⟨rfl, x2⟩
  go_wp2
  go_ret
  exact ⟨ret_bool HN.out.symm, Ext.trans X0 (Ext.trans x1 x2)⟩
 have Q2 := Hd q2
 rw [q2] at hI
 have HI := Hd hI
 clear hI q2
 have hb := (inB_yes _ _ _).1 q1
 obtain ⟨hb0, hb1⟩ := hb
 by_cases h3 : l.ents.length ≤ 60
 ·have g3 : decide ((l.ents.length : Int) ≤ 60) = true := by simp; omega
  have hA := fun W (h : Ext (w.alloc (Lg.obj a l)) W) => c_anyEnt 115 #[] (fun e => !e.ok) (enters Try.func115 (by kernel_rfl) rfl) a.eA a.ec l.ents W (hr.2.2.keep (Ext.trans X0 h)) (by omega) (fun W2 _ k hk => c_badEntry l.ents[k] W2)
  cases q5 : l.ents.any (fun e => !e.ok)
  ·rw [q5] at hA
   have HA := Hd hA
   clear hA
   have HV := Hd (show inB (l.base + l.ents.length) 0 1000000000 = logOk l by
    cases q4 : inB (l.base + l.ents.length) 0 1000000000
    ·exact (logOk_4 q4).symm
    ·rw [logOk_any q1 Q2.out h3 q4, q5]; rfl)
   clear q5
   go_enter Try.func78, Try.ntmps78
   go_wp2_with fail
   refine (c_isWhole _ _).mono ?_
   rintro e w1 ⟨rfl, x1⟩
   have b1 := bx_cell (x1.box (hNew (w := w) (o := Lg.obj a l) rfl))
   go_wp2_with fail
   refine (HI.out _ x1).mono ?_
   rintro e w2 ⟨rfl, x2⟩
   have X2 := Ext.trans x1 x2
   have b2 := bx_cell (X2.box (hNew (w := w) (o := Lg.obj a l) rfl))
   clear b1
   go_wp2_with fail
   refine (HA.out _ X2).mono ?_
   rintro e w3 ⟨rfl, x3⟩
   have X3 := Ext.trans X2 x3
   have b3 := bx_cell (X3.box (hNew (w := w) (o := Lg.obj a l) rfl))
   clear b2
   go_wp2_with fail
   refine (c_isWhole _ _).mono ?_
   rintro e w4 ⟨rfl, x4⟩
   go_wp2
   go_ret
   exact ⟨ret_bool HV.out, Ext.trans X0 (Ext.trans X3 x4)⟩
  ·rw [q5] at hA
   have HA := Hd hA
   have HN := Hd (logOk_any' q5)
   clear hA q5
   go_enter Try.func78, Try.ntmps78
   go_wp2_with fail
   refine (c_isWhole _ _).mono ?_
   rintro e w1 ⟨rfl, x1⟩
   have b1 := bx_cell (x1.box (hNew (w := w) (o := Lg.obj a l) rfl))
   go_wp2_with fail
   refine (HI.out _ x1).mono ?_
   rintro e w2 ⟨rfl, x2⟩
   have X2 := Ext.trans x1 x2
   have b2 := bx_cell (X2.box (hNew (w := w) (o := Lg.obj a l) rfl))
   clear b1
   go_wp2_with fail
   refine (HA.out _ X2).mono ?_
   rintro e w3 ⟨rfl, x3⟩
   go_wp2
   go_ret
   exact ⟨ret_bool HN.out.symm, Ext.trans X0 (Ext.trans X2 x3)⟩
 ·have g3 : decide ((l.ents.length : Int) ≤ 60) = false := by simp; omega
  have HN := Hd (logOk_3 h3)
  clear h3
  go_enter Try.func78, Try.ntmps78
  go_wp2_with fail
  refine (c_isWhole _ _).mono ?_
  rintro e w1 ⟨rfl, x1⟩
  have b1 := bx_cell (x1.box (hNew (w := w) (o := Lg.obj a l) rfl))
  go_wp2_with fail
  refine (HI.out _ x1).mono ?_
  rintro e w2 ⟨rfl, x2⟩
  have b2 := bx_cell ((Ext.trans x1 x2).box (hNew (w := w) (o := Lg.obj a l) rfl))
  clear b1
  go_wp2
  go_ret
  exact ⟨ret_bool HN.out.symm, Ext.trans X0 (Ext.trans x1 x2)⟩
def Lg.fin (l : Lg) : Int := l.base + l.ents.length
theorem c_end (a : LAd) (l : Lg) (w : World) (h0 : -1000000000000 ≤ l.base) (h1 : l.base ≤ 1000000000000) (s3 : l.ents.length ≤ 1048576) : Calls Try.prog 80 #[Lg.val a l] w fun e w' => e = .returned (.int .i64 l.fin) ∧ Ext w w' := by
 go_enter Try.func80, Try.ntmps80
 go_wp2
 go_ret
 exact ⟨rfl, ext_alloc _ _⟩
theorem c_sLogEnd (a : LAd) (l : Lg) (s1 : l.cells.length ≤ 1048576) (s2 : l.seats.length ≤ 1048576) (s3 : l.ents.length ≤ 1048576) (w : World) (hr : LgR w a l) (hok : logOk l = true) :
  Calls Try.prog 62 #[Lg.val a l] w fun e w' => e = .returned (.int .i64 l.fin) ∧ Ext w w' := by
 have X0 := ext_alloc w (Lg.obj a l)
 have hb := (inB_yes _ _ _).1 (of_decide_eq_true hok).1
 obtain ⟨hb0, hb1⟩ := hb
 have hcon := c_sLogOk a l s1 s2 s3 _ (hr.keep X0)
 rw [hok] at hcon
 go_enter Try.func62, Try.ntmps62
 go_wp2_with fail
 refine hcon.mono ?_
 rintro e w1 ⟨rfl, x1⟩
 have b1 := bx_cell (x1.box (hNew (w := w) (o := Lg.obj a l) rfl))
 clear hcon
 go_wp2
 go_ret
 exact ⟨rfl, Ext.trans X0 x1⟩
structure CsOk (l : List Cel) : Prop where
 len : l.length ≤ 40
 num : ∀ (i : Nat) (h : i < l.length), 0 ≤ l[i].key ∧ l[i].key ≤ 1000000000 ∧ 0 ≤ l[i].value ∧ l[i].value ≤ 1000000000
 asc : ∀ (i j : Nat) (hi : i < l.length) (hj : j < l.length), i < j → l[i].key < l[j].key
theorem CTo.ok {l : List Cel} (h : CTo l l.length) (hl : l.length ≤ 40) : CsOk l := by
 have hs : ∀ (i : Nat) (h : i < l.length), (wh l[i].key && wh l[i].value && cLow l i l[i].key) = true := fun i hi => by rw [← cStep_at hi]; exact h i hi
 refine ⟨hl, fun i hi => ?_, fun i j hi hj hij => ?_⟩
 ·have := hs i hi
  simp only [wh, inB, Bool.and_eq_true, decide_eq_true_eq] at this
  omega
 ·have hadj : ∀ (k : Nat) (hk : k + 1 < l.length), l[k].key < l[k + 1].key := fun k hk => by
   have h1 := hs (k + 1) hk
   rw [cLow_at (show k < l.length by omega)] at h1
   simp only [Bool.and_eq_true, Bool.not_eq_true', decide_eq_false_iff_not] at h1
   omega
  have hup : ∀ (d : Nat) (hd : i + 1 + d < l.length), l[i].key < l[i + 1 + d].key := fun d => by
   induction d with
   | zero => intro hd; exact hadj i hd
   | succ d ih =>
    intro hd
    have h1 := ih (by omega)
    have h2 := hadj (i + 1 + d) (by omega)
    simp only [Nat.add_assoc] at h1 h2 ⊢
    omega
  have := hup (j - (i + 1)) (by omega)
  simp only [show i + 1 + (j - (i + 1)) = j by omega] at this
  exact this
def lbC : List Cel → Int → Nat
 | [], _ => 0
 | x :: r, t => if x.key - t < 0 then lbC r t + 1 else 0
theorem lbC_le : ∀ (l : List Cel) (t : Int), lbC l t ≤ l.length
 | [], _ => Nat.le_refl _
 | x :: r, t => by
  have := lbC_le r t
  unfold lbC
  split <;> simp <;> omega
def hasC (l : List Cel) (t : Int) : Bool := match l[lbC l t]? with | some x => x.key - t == 0 | none => false
def valC (l : List Cel) (t : Int) : Int := match l[lbC l t]? with | some x => if (x.key - t == 0) = true then x.value else -1 | none => -1
structure SsOk (l : List Sea) : Prop where
 len : l.length ≤ 10
 num : ∀ (i : Nat) (h : i < l.length), 0 ≤ l[i].client ∧ l[i].client ≤ 1000000000 ∧ 1 ≤ l[i].req ∧ l[i].req ≤ 1000000000 ∧ -1 ≤ l[i].answer ∧ l[i].answer ≤ 1000000000
 asc : ∀ (i j : Nat) (hi : i < l.length) (hj : j < l.length), i < j → l[i].client < l[j].client
theorem STo.ok {l : List Sea} (h : STo l l.length) (hl : l.length ≤ 10) : SsOk l := by
 have hs : ∀ (i : Nat) (h : i < l.length), (wh l[i].client && inB l[i].req 1 1000000000 && inB l[i].answer (-1) 1000000000 && sLow l i l[i].client) = true := fun i hi => by rw [← sStep_at hi]; exact h i hi
 refine ⟨hl, fun i hi => ?_, fun i j hi hj hij => ?_⟩
 ·have := hs i hi
  simp only [wh, inB, Bool.and_eq_true, decide_eq_true_eq] at this
  omega
 ·have hadj : ∀ (k : Nat) (hk : k + 1 < l.length), l[k].client < l[k + 1].client := fun k hk => by
   have h1 := hs (k + 1) hk
   rw [sLow_at (show k < l.length by omega)] at h1
   simp only [Bool.and_eq_true, Bool.not_eq_true', decide_eq_false_iff_not] at h1
   omega
  have hup : ∀ (d : Nat) (hd : i + 1 + d < l.length), l[i].client < l[i + 1 + d].client := fun d => by
   induction d with
   | zero => intro hd; exact hadj i hd
   | succ d ih =>
    intro hd
    have h1 := ih (by omega)
    have h2 := hadj (i + 1 + d) (by omega)
    simp only [Nat.add_assoc] at h1 h2 ⊢
    omega
  have := hup (j - (i + 1)) (by omega)
  simp only [show i + 1 + (j - (i + 1)) = j by omega] at this
  exact this
def lbS : List Sea → Int → Nat
 | [], _ => 0
 | x :: r, t => if x.client - t < 0 then lbS r t + 1 else 0
theorem lbS_le : ∀ (l : List Sea) (t : Int), lbS l t ≤ l.length
 | [], _ => Nat.le_refl _
 | x :: r, t => by
  have := lbS_le r t
  unfold lbS
  split <;> simp <;> omega
def hasS (l : List Sea) (t : Int) : Bool := match l[lbS l t]? with | some x => x.client - t == 0 | none => false
end Go.Proofs.Ytpghedeghoegmaa
