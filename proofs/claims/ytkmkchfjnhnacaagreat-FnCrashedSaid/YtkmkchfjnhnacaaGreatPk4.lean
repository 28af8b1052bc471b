/- The laws' own functions on images, logs, votes: how great they are, and made anew. -/
import Derived.Test.YtkmkchfjnhnacaaGreatPk2
import Derived.Test.YtkmkchfjnhnacaaGreatPk3
namespace Go.Proofs.YtkmkchfjnhnacaaGreat
open Go.ChangeShapes Go.WideShapes Go.ChangeAt Go.RowKit Go.Sort
set_option linter.unusedVariables false
set_option linter.unusedSimpArgs false
theorem Rd.atVtE {w : World} {A : Option Addr} {c : Nat} {l : List VtE} (h : Rd VtE.enc 10 w A c l) {k : Nat} (hk : k < l.length) : ∃ b o, A = some ⟨b, o, none⟩ ∧ b < w.heap.size ∧
  w.cell? ⟨b, o + k * 10, none⟩ = some (.int .i64 l[k].2.kind) ∧ w.cell? ⟨b, o + k * 10 + 1, none⟩ = some (.int .i64 l[k].2.frm) ∧ w.cell? ⟨b, o + k * 10 + 2, none⟩ = some (.int .i64 l[k].2.view) ∧ w.cell? ⟨b, o + k * 10 + 3, none⟩ = some (.int .i64 l[k].2.normal) ∧ w.cell? ⟨b, o + k * 10 + 4, none⟩ = some (.int .i64 l[k].2.op) ∧ w.cell? ⟨b, o + k * 10 + 5, none⟩ = some (.int .i64 l[k].2.commit) ∧ w.cell? ⟨b, o + k * 10 + 6, none⟩ = some (.int .i64 l[k].2.log.base) ∧
  w.cell? ⟨b, o + k * 10 + 7, none⟩ = some (.slice l[k].1.cA l[k].2.log.cells.length l[k].1.cc) ∧ w.cell? ⟨b, o + k * 10 + 8, none⟩ = some (.slice l[k].1.sA l[k].2.log.seats.length l[k].1.sc) ∧ w.cell? ⟨b, o + k * 10 + 9, none⟩ = some (.slice l[k].1.eA l[k].2.log.ents.length l[k].1.ec) := by
 obtain ⟨b, o, e, hlt, hc⟩ := h.2.2 (by omega)
 exact ⟨b, o, e, hlt, hc k hk 0 _ rfl, hc k hk 1 _ rfl, hc k hk 2 _ rfl, hc k hk 3 _ rfl, hc k hk 4 _ rfl, hc k hk 5 _ rfl, hc k hk 6 _ rfl, hc k hk 7 _ rfl, hc k hk 8 _ rfl, hc k hk 9 _ rfl⟩
def lgN (l : Lg) : Nat := l.cells.length + l.seats.length + l.ents.length
def vsN (ps : List VtE) : Nat → Nat
 | 0 => 0
 | k + 1 => vsN ps k + match ps[k]? with | some p => lgN p.2.log | none => 0
theorem vsN_next {ps : List VtE} {k : Nat} (h : k < ps.length) : vsN ps (k + 1) = vsN ps k + lgN ps[k].2.log := by
 simp [vsN, h]
def Lg.small (l : Lg) : Prop := l.cells.length ≤ 1048576 ∧ l.seats.length ≤ 1048576 ∧ l.ents.length ≤ 1048576
abbrev VtE.val (a : LAd) (v : Vt) : Value := .agg #[.int .i64 v.kind, .int .i64 v.frm, .int .i64 v.view, .int .i64 v.normal, .int .i64 v.op, .int .i64 v.commit, .int .i64 v.log.base, .slice a.cA v.log.cells.length a.cc, .slice a.sA v.log.seats.length a.sc, .slice a.eA v.log.ents.length a.ec]
abbrev Vt.zero : Value := .agg #[.int .i64 0, .int .i64 0, .int .i64 0, .int .i64 0, .int .i64 0, .int .i64 0, .int .i64 0, .slice none 0 0, .slice none 0 0, .slice none 0 0]
theorem Tryz.infoVt : (Tryz.prog.info? 53).map (fun i => (i.zero, i.size, i.bytes)) = some (some Vt.zero, 10, 128) := by kernel_rfl
structure VsP (w : World) (B g : Nat) (ps : List VtE) : Prop where
 l : ∀ p ∈ ps, LgO w B w.heap.size p.1 p.2.log
 nd : (g :: ps.flatMap (fun p => p.1.fp)).Nodup
 gl : g < w.heap.size
theorem VsP.step {w w' : World} {B g : Nat} {ps : List VtE} {a : LAd} {v : Vt} (h : VsP w B g ps) (hB : B ≤ w.heap.size) (ho : LgO w' w.heap.size w'.heap.size a v.log) (hx : Ext w w') : VsP w' B g (ps ++ [(a, v)]) := by
 have hs := hx.size
 refine ⟨fun p hp => ?_, ?_, by have := h.gl; omega⟩
 ·rcases List.mem_append.1 hp with hp | hp
  ·exact ((h.l p hp).kept hx).wide (Nat.le_refl _) hs
  ·rw [Mi] at hp
   subst hp
   exact ho.wide hB (Nat.le_refl _)
 ·have hn := h.nd
  simp only [List.flatMap_append, List.flatMap_cons, List.flatMap_nil, List.append_nil]
  rw [← List.cons_append, List.nodup_append]
  refine ⟨hn, ho.nd, fun x hx1 y hy he => ?_⟩
  subst he
  have lo := ho.low x hy
  rcases List.mem_cons.1 hx1 with rfl | hx1
  ·have := h.gl; omega
  ·obtain ⟨p, hp, hxp⟩ := List.mem_flatMap.1 hx1
   have := (h.l p hp).lt x hxp
   omega
theorem VsP.set {w : World} {B g : Nat} {ps : List VtE} (h : VsP w B g ps) (hg : ∀ p ∈ ps, g ∉ p.1.fp) (o : Nat) (u : Value) : VsP (w.setCell ⟨g, o, none⟩ u) B g ps := by
 have hx : Chg w (w.setCell ⟨g, o, none⟩ u) [g] := ⟨rfl, rfl, rfl, Nat.le_of_eq (World.size_setCell ..).symm, fun k _ hn => Below.heap_setCell _ _ _ _ (fun he => hn (by simp [he]))⟩
 refine ⟨fun p hp => ?_, h.nd, by simpa using h.gl⟩
 rw [World.size_setCell]
 exact (h.l p hp).chg hx (fun k hk hm => by rw [Mi] at hm; exact hg p hp (hm ▸ hk))
theorem VsP.apart {w : World} {B g : Nat} {ps : List VtE} (h : VsP w B g ps) : ∀ p ∈ ps, g ∉ p.1.fp := fun p hp hg => by
 have := h.nd
 rw [List.nodup_cons] at this
 exact this.1 (List.mem_flatMap.2 ⟨p, hp, hg⟩)
def VsS (ps qs : List VtE) (k : Nat) : Prop := qs.map Prod.snd = (ps.take k).map Prod.snd
theorem VsS.length {ps qs : List VtE} {k : Nat} (h : VsS ps qs k) (hk : k ≤ ps.length) : qs.length = k := by
 have := congrArg List.length h
 simp at this
 omega
theorem VsS.next {ps qs : List VtE} {k : Nat} (h : VsS ps qs k) (hk : k < ps.length) (a : LAd) : VsS ps (qs ++ [(a, ps[k].2)]) (k + 1) := by
 unfold VsS at h ⊢
 rw [List.map_append, h, List.take_succ_eq_append_getElem hk, List.map_append]
 rfl
def LgS (ps : List VtE) : Prop := ∀ p ∈ ps, p.2.log.small
def Lg.mk' (k : Int) (b : Int) (l : Lg) : Lg := ⟨b, marksCel k l.cells.length, marksSea (k + 2 * l.cells.length) l.seats.length, marksEnt (k + 2 * l.cells.length + 3 * l.seats.length) l.ents.length⟩
def Lg.mN (l : Lg) : Int := 2 * l.cells.length + 3 * l.seats.length + 5 * l.ents.length
theorem Lg.mk_cells (k b : Int) (l : Lg) : (l.mk' k b).cells.length = l.cells.length := marksCel_length _ _
theorem Lg.mk_seats (k b : Int) (l : Lg) : (l.mk' k b).seats.length = l.seats.length := marksSea_length _ _
theorem Lg.mk_ents (k b : Int) (l : Lg) : (l.mk' k b).ents.length = l.ents.length := marksEnt_length _ _
theorem Lg.mN_small (l : Lg) (h : l.small) : l.mN ≤ 10485760 := by obtain ⟨a, b, c⟩ := h; unfold Lg.mN; omega
theorem LgO.nd1 {w : World} {B T : Nat} {a : LAd} {l : Lg} (h : LgO w B T a l) : ∀ k, k ∈ blk a.sA → k ∉ blk a.cA := fun k hk hc => by
 have := h.nd
 unfold LAd.fp at this
 rw [List.append_assoc, List.nodup_append] at this
 exact this.2.2 k hc k (by simp [hk]) rfl
theorem LgO.nd2 {w : World} {B T : Nat} {a : LAd} {l : Lg} (h : LgO w B T a l) : ∀ k, k ∈ blk a.eA → k ∉ blk a.cA := fun k hk hc => by
 have := h.nd
 unfold LAd.fp at this
 rw [List.append_assoc, List.nodup_append] at this
 exact this.2.2 k hc k (by simp [hk]) rfl
theorem LgO.nd3 {w : World} {B T : Nat} {a : LAd} {l : Lg} (h : LgO w B T a l) : ∀ k, k ∈ blk a.eA → k ∉ blk a.sA := fun k hk hc => by
 have := h.nd
 unfold LAd.fp at this
 rw [List.nodup_append] at this
 exact this.2.2 k (by simp [hc]) k hk rfl
theorem fp_c (a : LAd) : ∀ k, k ∈ blk a.cA → k ∈ a.fp := fun k h => by simp [LAd.fp, h]
theorem fp_s (a : LAd) : ∀ k, k ∈ blk a.sA → k ∈ a.fp := fun k h => by simp [LAd.fp, h]
theorem fp_e (a : LAd) : ∀ k, k ∈ blk a.eA → k ∈ a.fp := fun k h => by simp [LAd.fp, h]
theorem LgO.marked {w v1 w1 v2 w2 v3 w3 : World} {B T : Nat} {a : LAd} {l : Lg} (k b : Int) (h : LgO w B T a l) (x1 : Ext w v1)
  (o1 : Ow Cel.enc 101 2 w1 B (.slice a.cA l.cells.length a.cc) (marksCel k l.cells.length)) (g1 : v1.grownBy w1 (Value.slice a.cA l.cells.length a.cc).ownBlock) (x2 : Ext w1 v2)
  (o2 : Ow Sea.enc 103 3 w2 B (.slice a.sA l.seats.length a.sc) (marksSea (k + 2 * l.cells.length) l.seats.length)) (g2 : v2.grownBy w2 (Value.slice a.sA l.seats.length a.sc).ownBlock) (x3 : Ext w2 v3)
  (o3 : Ow Ent.enc 70 5 w3 B (.slice a.eA l.ents.length a.ec) (marksEnt (k + 2 * l.cells.length + 3 * l.seats.length) l.ents.length)) (g3 : v3.grownBy w3 (Value.slice a.eA l.ents.length a.ec).ownBlock) :
  LgO w3 B T a (l.mk' k b) ∧ Chg w w3 a.fp := by
 have c1 := chg_grown g1
 have c2 := chg_grown g2
 have c3 := chg_grown g3
 have p1 := ((o1.kept x2).chg c2 (fun k hk hm => h.nd1 k hm hk)).kept x3 |>.chg c3 (fun k hk hm => h.nd2 k hm hk)
 have p2 := (o2.kept x3).chg c3 (fun k hk hm => h.nd3 k hm hk)
 refine ⟨⟨?_, ?_, ?_, h.nd, h.top⟩, ?_⟩
 ·rw [Lg.mk_cells]; exact p1
 ·rw [Lg.mk_seats]; exact p2
 ·rw [Lg.mk_ents]; exact o3
 ·exact (chg_ext _ x1).trans ((c1.more (fp_c a)).trans ((chg_ext _ x2).trans ((c2.more (fp_s a)).trans ((chg_ext _ x3).trans (c3.more (fp_e a))))))
abbrev Lg.val (a : LAd) (l : Lg) : Value := .agg #[.int .i64 l.base, .slice a.cA l.cells.length a.cc, .slice a.sA l.seats.length a.sc, .slice a.eA l.ents.length a.ec]
abbrev Lg.obj (a : LAd) (l : Lg) : Obj := .cells #[.int .i64 l.base, .slice a.cA l.cells.length a.cc, .slice a.sA l.seats.length a.sc, .slice a.eA l.ents.length a.ec] 30
set_option maxHeartbeats 2000000 in
theorem c_idxEnt (g : Nat) (lb : Array Value) (p : Ent → Bool) (eg : ∀ args w, (callFunc g args).run Tryz.prog w = .ok (.enter g args) w) (A : Option Addr) (c : Nat) (l : List Ent) (w : World) (ha : Rd Ent.enc 5 w A c l) (hn : l.length ≤ 1099511627776)
  (hp : ∀ W, Ext w W → ∀ k (hk : k < l.length), Calls Tryz.prog g (#[.agg #[.int .i64 l[k].client, .int .i64 l[k].req, .int .i64 l[k].kind, .int .i64 l[k].key, .int .i64 l[k].value]] ++ lb) W fun e w' => e = .returned (.bool (p l[k])) ∧ Ext W w') :
  Calls Tryz.prog 62 #[.slice A l.length c, .func (.func g) #[] lb] w fun e w' => e = .returned (.int .i64 (idxOf p l)) ∧ Ext w w' := by
 have HP := Hd hp
 clear hp
 go_enter Tryz.func62, Tryz.ntmps62
 go_wp2
 go_loopw [8] (fun i wr => ∃ k : Nat, k ≤ l.length ∧ i = .int .i64 k ∧ (∀ j (hj : j < l.length), j < k → p l[j] = false) ∧ Ext w wr) (fun i _ => l.length - (intOf i).toNat)
 case atStart => exact ⟨0, Nat.zero_le _, rfl, fun j hj h => absurd h (by omega), ext_refl _⟩
 case round =>
  obtain ⟨k, hk, rfl, ht, hx0⟩ := hrel
  have HT := Hd ht
  clear ht
  by_cases hlt : k < l.length
  ·have hcall := HP.out wr hx0 k hlt
   obtain ⟨ab, ao, rfl, hab, a0, a1, a2, a3, a4⟩ := (ha.keep hx0).atEnt hlt
   cases hq : p l[k]
   ·rw [hq] at hcall
    have HQ := Hd hq
    clear hq HP
    go_wp2_with fail
    refine hcall.mono ?_
    rintro e w1 ⟨rfl, hx⟩
    clear hcall
    go_wp2
    go_roundw
    case rel => exact ⟨k + 1, by omega, by go_num, no_next HT.out (fun _ => HQ.out), Ext.trans hx0 hx⟩
    case measure => simp [intOf] <;> omega
   ·rw [hq] at hcall
    have HQ := Hd hq
    clear hq HP
    go_wp2_with fail
    refine hcall.mono ?_
    rintro e w1 ⟨rfl, hx⟩
    clear hcall
    go_wp2
    go_ret
    exact ⟨ret_int (idx_hit hlt HQ.out HT.out).symm, Ext.trans hx0 hx⟩
  ·have HV := Hd (idx_miss (p := p) (l := l) (fun j hj => HT.out j hj (by omega)))
   go_wp2
   go_ret
   exact ⟨ret_int HV.out.symm, hx0⟩
theorem c_anyEnt (g : Nat) (lb : Array Value) (p : Ent → Bool) (eg : ∀ args w, (callFunc g args).run Tryz.prog w = .ok (.enter g args) w) (A : Option Addr) (c : Nat) (l : List Ent) (w : World) (ha : Rd Ent.enc 5 w A c l) (hn : l.length ≤ 1099511627776)
  (hp : ∀ W, Ext w W → ∀ k (hk : k < l.length), Calls Tryz.prog g (#[.agg #[.int .i64 l[k].client, .int .i64 l[k].req, .int .i64 l[k].kind, .int .i64 l[k].key, .int .i64 l[k].value]] ++ lb) W fun e w' => e = .returned (.bool (p l[k])) ∧ Ext W w') :
  Calls Tryz.prog 42 #[.slice A l.length c, .func (.func g) #[] lb] w fun e w' => e = .returned (.bool (l.any p)) ∧ Ext w w' := by
 have hcon := c_idxEnt g lb p eg A c l w ha hn hp
 rw [← idxOf_any]
 obtain ⟨z, hz⟩ : ∃ z, idxOf p l = z := ⟨_, rfl⟩
 rw [hz] at hcon ⊢
 clear hz hp
 go_enter Tryz.func42, Tryz.ntmps42
 go_wp2_with fail
 refine hcon.mono ?_
 rintro e w1 ⟨rfl, x1⟩
 go_wp2
 go_ret
 exact ⟨rfl, x1⟩
def LogOk (l : Lg) : Prop := inB l.base 0 1000000000 = true ∧ imageOk l.cells l.seats = true ∧ l.ents.length ≤ 60 ∧ inB (l.base + l.ents.length) 0 1000000000 = true ∧ ∀ e ∈ l.ents, e.ok = true
instance (l : Lg) : Decidable (LogOk l) := inferInstanceAs (Decidable (_ ∧ _))
def logOk (l : Lg) : Bool := decide (LogOk l)
theorem logOk_1 {l : Lg} (h : inB l.base 0 1000000000 = false) : logOk l = false := decide_eq_false fun hp => by have := hp.1; rw [h] at this; cases this
theorem logOk_2 {l : Lg} (h : imageOk l.cells l.seats = false) : logOk l = false := decide_eq_false fun hp => by have := hp.2.1; rw [h] at this; cases this
theorem logOk_3 {l : Lg} (h : ¬ l.ents.length ≤ 60) : logOk l = false := decide_eq_false fun hp => h hp.2.2.1
theorem logOk_4 {l : Lg} (h : inB (l.base + l.ents.length) 0 1000000000 = false) : logOk l = false := decide_eq_false fun hp => by have := hp.2.2.2.1; rw [h] at this; cases this
theorem logOk_5 {l : Lg} {k : Nat} (hk : k < l.ents.length) (h : l.ents[k].ok = false) : logOk l = false := decide_eq_false fun hp => by have := hp.2.2.2.2 _ (List.getElem_mem hk); rw [h] at this; cases this
theorem logOk_any {l : Lg} (h1 : inB l.base 0 1000000000 = true) (h2 : imageOk l.cells l.seats = true) (h3 : l.ents.length ≤ 60) (h4 : inB (l.base + l.ents.length) 0 1000000000 = true) : logOk l = !l.ents.any (fun e => !e.ok) := by
 unfold logOk
 rw [Bool.eq_iff_iff, decide_eq_true_eq]
 simp only [Bool.not_eq_true', List.any_eq_false, Bool.not_eq_true, Bool.not_eq_false']
 exact ⟨fun h e he => by simpa using h.2.2.2.2 e he, fun h => ⟨h1, h2, h3, h4, fun e he => by simpa using h e he⟩⟩
theorem logOk_any' {l : Lg} (h : l.ents.any (fun e => !e.ok) = true) : logOk l = false := decide_eq_false fun hp => by
 rw [List.any_eq_true] at h
 obtain ⟨e, he, hn⟩ := h
 have := hp.2.2.2.2 e he
 rw [this] at hn
 cases hn
def ETo (l : List Ent) (k : Nat) : Prop := ∀ j (h : j < l.length), j < k → l[j].ok = true
theorem ETo.next {l : List Ent} {k : Nat} (h : ETo l k) (hk : k < l.length) (hs : l[k].ok = true) : ETo l (k + 1) := fun j hj hjk => by
 by_cases he : j = k
 ·subst he; exact hs
 ·exact h j hj (by omega)
theorem ETo.all {l : List Ent} (h : ETo l l.length) : ∀ e ∈ l, e.ok = true := fun e he => by
 obtain ⟨k, hk, rfl⟩ := List.mem_iff_getElem.1 he
 exact h k hk hk
set_option maxRecDepth 100000 in
set_option maxHeartbeats 8000000 in
theorem c_sLogOk (a : LAd) (l : Lg) (s1 : l.cells.length ≤ 1048576) (s2 : l.seats.length ≤ 1048576) (s3 : l.ents.length ≤ 1048576) (w : World) (hr : LgR w a l) :
  Calls Tryz.prog 35 #[Lg.val a l] w fun e w' => e = .returned (.bool (logOk l)) ∧ Ext w w' := by
 have X0 := ext_alloc w (Lg.obj a l)
 cases q1 : inB l.base 0 1000000000
 ·have HN := Hd (logOk_1 q1)
  go_enter Tryz.func35, Tryz.ntmps35
  go_wp2_with fail
  refine (c_l1Whole _ _).mono ?_
  rintro e w1 ⟨rfl, x1⟩
  go_wp2
  go_ret
  exact ⟨ret_bool HN.out.symm, Ext.trans X0 x1⟩
 have hI := fun W (h : Ext (w.alloc (Lg.obj a l)) W) => c_sImageOk a.cA a.cc l.cells a.sA a.sc l.seats W (hr.1.keep (Ext.trans X0 h)) (hr.2.1.keep (Ext.trans X0 h)) (by omega) (by omega)
 cases q2 : imageOk l.cells l.seats
 ·have HN := Hd (logOk_2 q2)
  rw [q2] at hI
  have HI := Hd hI
  clear hI q2
  go_enter Tryz.func35, Tryz.ntmps35
  go_wp2_with fail
  refine (c_l1Whole _ _).mono ?_
  rintro e w1 ⟨rfl, x1⟩
  have b1 := bx_cell (x1.box (hNew (w := w) (o := Lg.obj a l) rfl))
  go_wp2_with fail
  refine (HI.out _ x1).mono ?_
  rintro e w2 ⟨rfl, x2⟩
  go_wp2
  go_ret
  exact ⟨ret_bool HN.out.symm, Ext.trans X0 (Ext.trans x1 x2)⟩
 have Q2 := Hd q2
 rw [q2] at hI
 have HI := Hd hI
 clear hI q2
 by_cases h3 : l.ents.length ≤ 60
 ·have g3 : decide ((60 : Int) < (l.ents.length : Int)) = false := by simp; omega
  have hb := (inB_yes _ _ _).1 q1
  obtain ⟨hb0, hb1⟩ := hb
  cases q4 : inB (l.base + l.ents.length) 0 1000000000
  ·have HN := Hd (logOk_4 q4)
   go_enter Tryz.func35, Tryz.ntmps35
   go_wp2_with fail
   refine (c_l1Whole _ _).mono ?_
   rintro e w1 ⟨rfl, x1⟩
   have b1 := bx_cell (x1.box (hNew (w := w) (o := Lg.obj a l) rfl))
   go_wp2_with fail
   refine (HI.out _ x1).mono ?_
   rintro e w2 ⟨rfl, x2⟩
   have b2 := bx_cell ((Ext.trans x1 x2).box (hNew (w := w) (o := Lg.obj a l) rfl))
   clear b1
   go_wp2_with fail
   refine (c_l1Whole _ _).mono ?_
   rintro e w3 ⟨rfl, x3⟩
   go_wp2
   go_ret
   exact ⟨ret_bool HN.out.symm, Ext.trans X0 (Ext.trans x1 (Ext.trans x2 x3))⟩
  ·go_enter Tryz.func35, Tryz.ntmps35
   go_wp2_with fail
   refine (c_l1Whole _ _).mono ?_
   rintro e w1 ⟨rfl, x1⟩
   have b1 := bx_cell (x1.box (hNew (w := w) (o := Lg.obj a l) rfl))
   go_wp2_with fail
   refine (HI.out _ x1).mono ?_
   rintro e w2 ⟨rfl, x2⟩
   have b2 := bx_cell ((Ext.trans x1 x2).box (hNew (w := w) (o := Lg.obj a l) rfl))
   clear b1
   go_wp2_with fail
   refine (c_l1Whole _ _).mono ?_
   rintro e w3 ⟨rfl, x3⟩
   have hw2 := Ext.trans x1 (Ext.trans x2 x3)
   have Q1 := Hd q1
   have Q4 := Hd q4
   go_wp2
   clear b2 q1 q4 hb0 hb1 x1 x2 x3
   go_loopw [3] (fun i wr => ∃ k : Nat, k ≤ l.ents.length ∧ i = .int .i64 k ∧ ETo l.ents k ∧ Ext (w.alloc (Lg.obj a l)) wr) (fun i _ => l.ents.length - (intOf i).toNat)
   case atStart => exact ⟨0, Nat.zero_le _, rfl, fun j hj hjk => absurd hjk (by omega), hw2⟩
   case round =>
    obtain ⟨k, hk, rfl, ht, hx0⟩ := hrel
    have HT := Hd ht
    clear ht
    have B1 := hx0.box (hNew (w := w) (o := Lg.obj a l) rfl)
    have b1 := bx_cell B1
    have f1 := bx_frozen B1
    have z1 := bx_lt B1
    have X1 := Ext.trans X0 hx0
    by_cases hlt : k < l.ents.length
    ·obtain ⟨ab, ao, hA, hab, a0, a1, a2, a3, a4⟩ := (hr.2.2.keep X1).atEnt hlt
     have hcon := c_sEntryOk l.ents[k]
     cases q5 : l.ents[k].ok
     ·rw [q5] at hcon
      have HN := Hd (logOk_5 hlt q5)
      clear q5
      rw [hA] at b1
      have HA := Hd hA
      clear hA
      go_wp2_with fail
      refine (hcon _).mono ?_
      rintro e w3 ⟨rfl, x3⟩
      go_wp2
      go_ret
      exact ⟨ret_bool (by rw [HN.out]), Ext.trans X1 x3⟩
     ·rw [q5] at hcon
      have HQ := Hd (HT.out.next hlt q5)
      clear q5
      rw [hA] at b1
      have HA := Hd hA
      clear hA
      go_wp2_with fail
      refine (hcon _).mono ?_
      rintro e w3 ⟨rfl, x3⟩
      go_wp2
      go_roundw
      case rel => exact ⟨k + 1, by omega, by go_num, HQ.out, Ext.trans hx0 x3⟩
      case measure => simp [intOf] <;> omega
    ·have hkl : k = l.ents.length := by omega
     subst hkl
     have HV := Hd (show logOk l = true from decide_eq_true ⟨Q1.out, Q2.out, h3, Q4.out, HT.out.all⟩)
     go_wp2
     go_ret
     exact ⟨ret_bool HV.out.symm, X1⟩
 ·have g3 : decide ((60 : Int) < (l.ents.length : Int)) = true := by simp; omega
  have HN := Hd (logOk_3 h3)
  clear h3
  go_enter Tryz.func35, Tryz.ntmps35
  go_wp2_with fail
  refine (c_l1Whole _ _).mono ?_
  rintro e w1 ⟨rfl, x1⟩
  have b1 := bx_cell (x1.box (hNew (w := w) (o := Lg.obj a l) rfl))
  go_wp2_with fail
  refine (HI.out _ x1).mono ?_
  rintro e w2 ⟨rfl, x2⟩
  have b2 := bx_cell ((Ext.trans x1 x2).box (hNew (w := w) (o := Lg.obj a l) rfl))
  clear b1
  go_wp2
  go_ret
  exact ⟨ret_bool HN.out.symm, Ext.trans X0 (Ext.trans x1 x2)⟩
set_option maxHeartbeats 8000000 in
theorem c_iLogOk (a : LAd) (l : Lg) (s1 : l.cells.length ≤ 1048576) (s2 : l.seats.length ≤ 1048576) (s3 : l.ents.length ≤ 1048576) (w : World) (hr : LgR w a l) :
  Calls Tryz.prog 29 #[Lg.val a l] w fun e w' => e = .returned (.bool (logOk l)) ∧ Ext w w' := by
 have X0 := ext_alloc w (Lg.obj a l)
 cases q1 : inB l.base 0 1000000000
 ·have HN := Hd (logOk_1 q1)
  go_enter Tryz.func29, Tryz.ntmps29
  go_wp2_with fail
  refine (c_isWhole _ _).mono ?_
  rintro e w1 ⟨rfl, x1⟩
  go_wp2
  go_ret
  exact ⟨ret_bool HN.out.symm, Ext.trans X0 x1⟩
 have hI := fun W (h : Ext (w.alloc (Lg.obj a l)) W) => c_iImageOk a.cA a.cc l.cells a.sA a.sc l.seats W (hr.1.keep (Ext.trans X0 h)) (hr.2.1.keep (Ext.trans X0 h)) (by omega) (by omega)
 cases q2 : imageOk l.cells l.seats
 ·have HN := Hd (logOk_2 q2)
  rw [q2] at hI
  have HI := Hd hI
  clear hI q2
  go_enter Tryz.func29, Tryz.ntmps29
  go_wp2_with fail
  refine (c_isWhole _ _).mono ?_
  rintro e w1 ⟨rfl, x1⟩
  have b1 := bx_cell (x1.box (hNew (w := w) (o := Lg.obj a l) rfl))
  go_wp2_with fail
  refine (HI.out _ x1).mono ?_
  rintro e w2 ⟨rfl, x2⟩
  go_wp2
  go_ret
  exact ⟨ret_bool HN.out.symm, Ext.trans X0 (Ext.trans x1 x2)⟩
 have Q2 := Hd q2
 rw [q2] at hI
 have HI := Hd hI
 clear hI q2
 have hb := (inB_yes _ _ _).1 q1
 obtain ⟨hb0, hb1⟩ := hb
 by_cases h3 : l.ents.length ≤ 60
 ·have g3 : decide ((l.ents.length : Int) ≤ 60) = true := by simp; omega
  have hA := fun W (h : Ext (w.alloc (Lg.obj a l)) W) => c_anyEnt 43 #[] (fun e => !e.ok) (enters Tryz.func43 (by kernel_rfl) rfl) a.eA a.ec l.ents W (hr.2.2.keep (Ext.trans X0 h)) (by omega) (fun W2 _ k hk => c_badEntry l.ents[k] W2)
  cases q5 : l.ents.any (fun e => !e.ok)
  ·rw [q5] at hA
   have HA := Hd hA
   clear hA
   have HV := Hd (show inB (l.base + l.ents.length) 0 1000000000 = logOk l by
    cases q4 : inB (l.base + l.ents.length) 0 1000000000
    ·exact (logOk_4 q4).symm
    ·rw [logOk_any q1 Q2.out h3 q4, q5]; rfl)
   clear q5
   go_enter Tryz.func29, Tryz.ntmps29
   go_wp2_with fail
   refine (c_isWhole _ _).mono ?_
   rintro e w1 ⟨rfl, x1⟩
   have b1 := bx_cell (x1.box (hNew (w := w) (o := Lg.obj a l) rfl))
   go_wp2_with fail
   refine (HI.out _ x1).mono ?_
   rintro e w2 ⟨rfl, x2⟩
   have X2 := Ext.trans x1 x2
   have b2 := bx_cell (X2.box (hNew (w := w) (o := Lg.obj a l) rfl))
   clear b1
   go_wp2_with fail
   refine (HA.out _ X2).mono ?_
   rintro e w3 ⟨rfl, x3⟩
   have X3 := Ext.trans X2 x3
   have b3 := bx_cell (X3.box (hNew (w := w) (o := Lg.obj a l) rfl))
   clear b2
   go_wp2_with fail
   refine (c_isWhole _ _).mono ?_
   rintro e w4 ⟨rfl, x4⟩
   go_wp2
   go_ret
   exact ⟨ret_bool HV.out, Ext.trans X0 (Ext.trans X3 x4)⟩
  ·rw [q5] at hA
   have HA := Hd hA
   have HN := Hd (logOk_any' q5)
   clear hA q5
   go_enter Tryz.func29, Tryz.ntmps29
   go_wp2_with fail
   refine (c_isWhole _ _).mono ?_
   rintro e w1 ⟨rfl, x1⟩
   have b1 := bx_cell (x1.box (hNew (w := w) (o := Lg.obj a l) rfl))
   go_wp2_with fail
   refine (HI.out _ x1).mono ?_
   rintro e w2 ⟨rfl, x2⟩
   have X2 := Ext.trans x1 x2
   have b2 := bx_cell (X2.box (hNew (w := w) (o := Lg.obj a l) rfl))
   clear b1
   go_wp2_with fail
   refine (HA.out _ X2).mono ?_
   rintro e w3 ⟨rfl, x3⟩
   go_wp2
   go_ret
   exact ⟨ret_bool HN.out.symm, Ext.trans X0 (Ext.trans X2 x3)⟩
 ·have g3 : decide ((l.ents.length : Int) ≤ 60) = false := by simp; omega
  have HN := Hd (logOk_3 h3)
  clear h3
  go_enter Tryz.func29, Tryz.ntmps29
  go_wp2_with fail
  refine (c_isWhole _ _).mono ?_
  rintro e w1 ⟨rfl, x1⟩
  have b1 := bx_cell (x1.box (hNew (w := w) (o := Lg.obj a l) rfl))
  go_wp2_with fail
  refine (HI.out _ x1).mono ?_
  rintro e w2 ⟨rfl, x2⟩
  have b2 := bx_cell ((Ext.trans x1 x2).box (hNew (w := w) (o := Lg.obj a l) rfl))
  clear b1
  go_wp2
  go_ret
  exact ⟨ret_bool HN.out.symm, Ext.trans X0 (Ext.trans x1 x2)⟩
def Lg.fin (l : Lg) : Int := l.base + l.ents.length
theorem c_end (a : LAd) (l : Lg) (w : World) (h0 : -1000000000000 ≤ l.base) (h1 : l.base ≤ 1000000000000) (s3 : l.ents.length ≤ 1048576) : Calls Tryz.prog 30 #[Lg.val a l] w fun e w' => e = .returned (.int .i64 l.fin) ∧ Ext w w' := by
 go_enter Tryz.func30, Tryz.ntmps30
 go_wp2
 go_ret
 exact ⟨rfl, ext_alloc _ _⟩
theorem c_sLogEnd (a : LAd) (l : Lg) (s1 : l.cells.length ≤ 1048576) (s2 : l.seats.length ≤ 1048576) (s3 : l.ents.length ≤ 1048576) (w : World) (hr : LgR w a l) (hok : logOk l = true) :
  Calls Tryz.prog 36 #[Lg.val a l] w fun e w' => e = .returned (.int .i64 l.fin) ∧ Ext w w' := by
 have X0 := ext_alloc w (Lg.obj a l)
 have hb := (inB_yes _ _ _).1 (of_decide_eq_true hok).1
 obtain ⟨hb0, hb1⟩ := hb
 have hcon := c_sLogOk a l s1 s2 s3 _ (hr.keep X0)
 rw [hok] at hcon
 go_enter Tryz.func36, Tryz.ntmps36
 go_wp2_with fail
 refine hcon.mono ?_
 rintro e w1 ⟨rfl, x1⟩
 have b1 := bx_cell (x1.box (hNew (w := w) (o := Lg.obj a l) rfl))
 clear hcon
 go_wp2
 go_ret
 exact ⟨rfl, Ext.trans X0 x1⟩
end Go.Proofs.YtkmkchfjnhnacaaGreat
