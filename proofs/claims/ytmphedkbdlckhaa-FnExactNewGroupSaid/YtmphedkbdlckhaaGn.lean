/- A group made anew, equal groups, and what an argument of type Group reads as. -/
import Derived.Test.YtmphedkbdlckhaaGm
namespace Go.Proofs.Ytmphedkbdlckhaa
open Go.ChangeShapes Go.WideShapes Go.ChangeAt Go.RowKit Go.Sort Go.Joins Go.Deep
set_option linter.unusedVariables false
set_option linter.unusedSimpArgs false

abbrev Rp.zero : Value := .agg #[.int .i64 0, .int .i64 0, .int .i64 0, .int .i64 0, .int .i64 0, .int .i64 0, .int .i64 0, .slice none 0 0, .slice none 0 0, .slice none 0 0, .slice none 0 0, .int .i64 0, .int .i64 0]
theorem Try.infoRp : (Try.prog.info? 42).map (fun i => (i.zero, i.size, i.bytes)) = some (some Rp.zero, 13, 168) := by kernel_rfl
/-- a replica is new: its memory lies at B and above -/
def RpE.own (w : World) (B : Nat) (q : RpE) : Prop := ∃ T, RpO w B T q.a q.A q.c q.ps q.r
theorem RpE.own.kept {w w' : World} {B : Nat} {q : RpE} (h : q.own w B) (hx : Ext w w') : q.own w' B := h.elim fun T h => ⟨T, h.kept hx⟩
theorem RpE.own.less {w : World} {B B' : Nat} {q : RpE} (h : q.own w B) (hB : B' ≤ B) : q.own w B' := h.elim fun T h => ⟨T, h.l.wide hB (Nat.le_refl _), h.v.wide hB (Nat.le_refl _), h.e, h.d⟩
theorem RpE.own.set {w : World} {B : Nat} {q : RpE} (h : q.own w B) {p : Addr} (hp : p.block < B) (u : Value) : q.own (w.setCell p u) B := h.elim fun T h => ⟨T, h.l.set hp u, h.v.set hp u, h.e, h.d⟩
theorem RpE.own.rd {w : World} {B : Nat} {q : RpE} (h : q.own w B) : q.rd w := h.elim fun T h => RpO.rd h
def RpsN (w : World) (B : Nat) (qs : List RpE) : Prop := ∀ q ∈ qs, RpE.own w B q
theorem RpsN.set {w : World} {B : Nat} {qs : List RpE} (h : RpsN w B qs) {p : Addr} (hp : p.block < B) (u : Value) : RpsN (w.setCell p u) B qs := fun q hq => (h q hq).set hp u
theorem RpsN.step {w w' : World} {B : Nat} {qs : List RpE} {q : RpE} (h : RpsN w B qs) (hx : Ext w w') (hq : q.own w' B) : RpsN w' B (qs ++ [q]) := fun p hp => by
  rcases List.mem_append.1 hp with hp | hp
  · exact (h p hp).kept hx
  · rw [List.mem_singleton] at hp
    subst hp
    exact hq
/-- the replicas are the call's own -/
structure RpsO (w : World) (B : Nat) (A : Option Addr) (c : Nat) (qs : List RpE) : Prop where
  r : Ow RpE.enc 42 13 w B (.slice A qs.length c) qs
  n : RpsN w B qs
theorem RpsO.rd {w : World} {B : Nat} {A : Option Addr} {c : Nat} {qs : List RpE} (h : RpsO w B A c qs) : RpsR w A c qs := ⟨(h.r.rd RpE.len).2, fun q hq => (h.n q hq).rd⟩
theorem RpsO.kept {w w' : World} {B : Nat} {A : Option Addr} {c : Nat} {qs : List RpE} (h : RpsO w B A c qs) (hx : Ext w w') : RpsO w' B A c qs := ⟨h.r.kept hx, fun q hq => (h.n q hq).kept hx⟩
theorem RpsO.set {w : World} {B : Nat} {A : Option Addr} {c : Nat} {qs : List RpE} (h : RpsO w B A c qs) {p : Addr} (hp : p.block < B) (u : Value) : RpsO (w.setCell p u) B A c qs := ⟨h.r.set hp u, h.n.set hp u⟩
/-- the same replicas, so far -/
def RpsE (ps qs : List RpE) (k : Nat) : Prop := qs.map RpE.r = (ps.take k).map RpE.r ∧ qs.map (fun q => q.ps.length) = (ps.take k).map (fun q => q.ps.length)
theorem RpsE.length {ps qs : List RpE} {k : Nat} (h : RpsE ps qs k) (hk : k ≤ ps.length) : qs.length = k := by
  have := congrArg List.length h.1
  simp at this
  omega
theorem RpsE.next {ps qs : List RpE} {k : Nat} (h : RpsE ps qs k) (hk : k < ps.length) {q : RpE} (h1 : q.r = ps[k].r) (h2 : q.ps.length = ps[k].ps.length) : RpsE ps (qs ++ [q]) (k + 1) := by
  unfold RpsE at h ⊢
  rw [List.map_append, List.map_append, h.1, h.2, List.take_succ_eq_append_getElem hk, List.map_append, List.map_append]
  simp [h1, h2]
theorem RpsE.all {ps qs : List RpE} (h : RpsE ps qs ps.length) : qs.map RpE.r = ps.map RpE.r := by
  have := h.1
  rwa [List.take_length] at this

theorem c_eqReplicaS_same (A B : Option Addr) (ca cb : Nat) (ps qs : List RpE) (hpq : ps.map RpE.r = qs.map RpE.r) (hs : RpsS ps) (w : World) (ha : RpsR w A ca ps) (hb : RpsR w B cb qs) (hn : ps.length ≤ 1048576) :
    Calls Try.prog 13 #[.slice A ps.length ca, .slice B qs.length cb] w fun e w' => e = .returned (.bool true) ∧ Ext w w' := by
  have hl : ps.length = qs.length := by simpa using congrArg List.length hpq
  have hat : ∀ (k : Nat) (h : k < ps.length) (h' : k < qs.length), ps[k].r = qs[k].r := fun k h h' => by
    have := congrArg (fun l => l[k]?) hpq
    simp [h, h'] at this
    exact this
  rw [← hl]
  have HL := Lib.hid hl
  have HAt := Lib.hid hat
  have HS := Lib.hid hs
  have HA := Lib.hid ha
  have HB := Lib.hid hb
  clear hl hpq hat hs ha hb
  go_enter Try.func13, Try.ntmps13
  go_wp2
  go_loopw [5] (fun i wr => ∃ k : Nat, k ≤ ps.length ∧ i = .int .i64 k ∧ Ext w wr) (fun i _ => ps.length - (intOf i).toNat)
  case atStart => exact ⟨0, Nat.zero_le _, rfl, ext_refl _⟩
  case round =>
    obtain ⟨k, hk, rfl, hx⟩ := hrel
    by_cases hlt : k < ps.length
    · have hltb : k < qs.length := by have := HL.out; omega
      obtain ⟨ab, ao, hA, hab, a0, a1, a2, a3, a4, a5, a6, a7, a8, a9, a10, a11, a12⟩ := (HA.out.1.keep hx).atRpE hlt
      obtain ⟨bk, bo, hB, hbb, b0, b1, b2, b3, b4, b5, b6, b7, b8, b9, b10, b11, b12⟩ := (HB.out.1.keep hx).atRpE hltb
      have HC := Lib.hid (fun W (h : Ext wr W) => by
        have h1 := (HA.out.keep (Ext.trans hx h)).2 ps[k] (List.getElem_mem hlt)
        have h2 := (HB.out.keep (Ext.trans hx h)).2 qs[k] (List.getElem_mem hltb)
        have h3 : RpR W qs[k].a qs[k].A qs[k].c qs[k].ps ps[k].r := by rw [HAt.out k hlt hltb]; exact h2
        have h4 := c_eqReplica_same ps[k].a qs[k].a ps[k].A qs[k].A ps[k].c qs[k].c ps[k].ps qs[k].ps ps[k].r (HS.out _ (List.getElem_mem hlt)).1 W h1 h3 (HS.out _ (List.getElem_mem hlt)).2.1 (HS.out _ (List.getElem_mem hlt)).2.2
        exact h4)
      have he := HAt.out k hlt hltb
      rw [← he] at b0 b1 b2 b3 b4 b5 b6 b7 b8 b9 b11 b12
      rw [HL.out] at *
      subst hA hB
      clear he
      go_wp2
      (refine wp_region_mix' (fun _ _ _ _ _ hq => hq) 10 (by kernel_rfl) (by kernel_rfl) (fun hg => ?_); simp only [headOps, List.take_succ_cons, List.take_zero, List.filter_cons, List.filter_nil, isAlloc, Bool.not_false, Bool.false_eq_true, if_true, if_false, List.append_nil, List.drop_succ_cons, List.drop_zero])
      (repeat (refine wpMix_plain rfl rfl ?_; go_big_quiet_step (fail); refine wpQuiet_nil ?_))
      (refine wpMix_det rfl rfl rfl (enters Try.func24 (by kernel_rfl) rfl) (fun W hW => HC.out W hW) rfl ?_; simp only [Act.put, List.setIfInBounds_toArray, List.set_cons_zero, List.set_cons_succ])
      (repeat (refine wpMix_plain rfl rfl ?_; go_big_quiet_step (fail); refine wpQuiet_nil ?_))
      refine wpMix_nil ?_
      intro w2 hx2
      go_wp2
      go_roundw
      case rel => exact ⟨k + 1, by omega, by go_num, Ext.trans hx hx2⟩
      case measure => simp [intOf]; omega
    · go_wp2
      go_ret
      exact ⟨rfl, hx⟩
theorem c_eqNet_same (next : Int) (A B : Option Addr) (ca cb : Nat) (l : List Fl) (w : World) (ha : Rd Fl.enc 3 w A ca l) (hb : Rd Fl.enc 3 w B cb l) (hn : l.length ≤ 1048576) :
    Calls Try.prog 14 #[.agg #[.int .i64 next, .slice A l.length ca], .agg #[.int .i64 next, .slice B l.length cb]] w fun e w' => e = .returned (.bool true) ∧ Ext w w' := by
  have X0 : Ext w ((w.alloc (.cells #[.int .i64 next, .slice A l.length ca] 25)).alloc (.cells #[.int .i64 next, .slice B l.length cb] 25)) := ext_to (ext_alloc _ _) _
  have hcon := c_eqFlightS A B ca cb l l _ (ha.keep X0) (hb.keep X0) (by omega) (by omega)
  rw [eqB_self] at hcon
  have HC := Lib.hid hcon
  clear hcon ha hb
  go_enter Try.func14, Try.ntmps14
  go_wp2_with fail
  refine HC.out.mono ?_
  rintro e w1 ⟨rfl, x1⟩
  go_wp2
  go_ret
  exact ⟨rfl, Ext.trans X0 x1⟩
set_option maxHeartbeats 1000000 in
theorem c_eqGroup_same (a b : GAd) (ps qs : List RpE) (g : Gp) (hs : RpsS ps) (w : World) (ha : GpR w a ps g) (hb : GpR w b qs g) (hn : ps.length ≤ 1048576) (hf : g.fls.length ≤ 1048576) (hy : g.rys.length ≤ 1048576) :
    Calls Try.prog 6 #[Gp.val a ps.length g, Gp.val b qs.length g] w fun e w' => e = .returned (.bool true) ∧ Ext w w' := by
  have X0 : Ext w ((w.alloc (Gp.obj a ps.length g)).alloc (Gp.obj b qs.length g)) := ext_to (ext_alloc _ _) _
  have H1 := Lib.hid (c_eqReplicaS_same a.RA b.RA a.Rc b.Rc ps qs (ha.e.trans hb.e.symm) hs _ (ha.r.keep X0) (hb.r.keep X0) hn)
  have H2 := Lib.hid (fun W (h : Ext ((w.alloc (Gp.obj a ps.length g)).alloc (Gp.obj b qs.length g)) W) => c_eqNet_same g.next a.FA b.FA a.Fc b.Fc g.fls W (ha.f.keep (Ext.trans X0 h)) (hb.f.keep (Ext.trans X0 h)) hf)
  have H3 := Lib.hid (fun W (h : Ext ((w.alloc (Gp.obj a ps.length g)).alloc (Gp.obj b qs.length g)) W) => by
    have h5 := c_eqReplyS a.YA b.YA a.Yc b.Yc g.rys g.rys W (ha.y.keep (Ext.trans X0 h)) (hb.y.keep (Ext.trans X0 h)) (by omega) (by omega)
    rw [eqB_self] at h5
    exact h5)
  clear hs ha hb
  go_enter Try.func6, Try.ntmps6
  go_wp2_with fail
  refine H1.out.mono ?_
  rintro e w1 ⟨rfl, x1⟩
  have B1 := x1.box (hOld (o := Gp.obj b qs.length g) (hNew (w := w) (o := Gp.obj a ps.length g) rfl))
  have B2 := x1.box (hNew (w := w.alloc (Gp.obj a ps.length g)) (o := Gp.obj b qs.length g) rfl)
  rw [sz_alloc] at B2
  have b1 := bx_cell B1
  have b2 := bx_cell B2
  go_wp2_with fail
  refine (H2.out _ x1).mono ?_
  rintro e w2 ⟨rfl, x2⟩
  have b3 := bx_cell (x2.box B1)
  have b4 := bx_cell (x2.box B2)
  clear B1 B2 b1 b2
  go_wp2_with fail
  refine (H3.out _ (Ext.trans x1 x2)).mono ?_
  rintro e w3 ⟨rfl, x3⟩
  go_wp2
  go_ret
  exact ⟨rfl, Ext.trans X0 (Ext.trans x1 (Ext.trans x2 x3))⟩

/-- a group made anew -/
def GpV (n : Nat) (g : Gp) (v : Value) (w : World) : Prop := ∃ b qs, v = Gp.val b n g ∧ List.length qs = n ∧ GpR w b qs g
theorem GpV.mono (n : Nat) (g : Gp) : Mono (GpV n g) := fun _ _ _ ⟨b, qs, hv, hl, h⟩ hx => ⟨b, qs, hv, hl, h.keep hx⟩
theorem RpE.small_of {w : World} {q : RpE} (h : q.rd w) : q.small ↔ q.r.log.small ∧ q.r.votes.length ≤ 1048576 ∧ ∀ v ∈ q.r.votes, v.log.small := by
  have he := h.e
  have hl : q.r.votes.length = q.ps.length := by rw [← he, List.length_map]
  unfold RpE.small
  rw [hl]
  refine and_congr Iff.rfl (and_congr Iff.rfl ?_)
  rw [← he]
  unfold LgS
  constructor
  · intro h v hv
    obtain ⟨p, hp, rfl⟩ := List.mem_map.1 hv
    exact h p hp
  · intro h p hp
    exact h p.2 (List.mem_map_of_mem hp)
theorem RpsS.congr {w w' : World} {A B : Option Addr} {c d : Nat} {ps qs : List RpE} (he : ps.map RpE.r = qs.map RpE.r) (hq : RpsR w' B d qs) (hp : RpsR w A c ps) (hs : RpsS ps) : RpsS qs := fun q h => by
  have h1 : q.r ∈ ps.map RpE.r := by rw [he]; exact List.mem_map_of_mem h
  obtain ⟨p, hpm, hpr⟩ := List.mem_map.1 h1
  rw [RpE.small_of (hq.2 q h), ← hpr]
  exact (RpE.small_of (hp.2 p hpm)).1 (hs p hpm)
theorem c_eqGAnew (a : GAd) (ps : List RpE) (g : Gp) (n : Nat) (w : World) (ha : GpR w a ps g) (hl : ps.length = n) (hn : n ≤ 1048576) (hs : RpsS ps) (hf : g.fls.length ≤ 1048576) (hy : g.rys.length ≤ 1048576) (v : Value) (hv : GpV n g v w) :
    Calls Try.prog 6 #[Gp.val a n g, v] w fun e w' => e = .returned (.bool true) ∧ Ext w w' := by
  obtain ⟨b, qs, rfl, hq, hb⟩ := hv
  have h := c_eqGroup_same a b ps qs g hs w ha hb (by omega) hf hy
  rw [hl, hq] at h
  exact h

/-! ### what an argument of type Group reads as -/
section
variable {H : Type} {enc : TypeId × Value → H} {w : World} {base : Nat} {spare : Nat → Bool} {held : Bool}
end
end Go.Proofs.Ytmphedkbdlckhaa
