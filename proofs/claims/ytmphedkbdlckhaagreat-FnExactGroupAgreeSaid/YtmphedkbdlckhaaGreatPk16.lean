/- A group made anew, equal groups, and what an argument of type Group reads as. -/
import Derived.Test.YtmphedkbdlckhaaGreatPk15
namespace Go.Proofs.YtmphedkbdlckhaaGreat
open Go.ChangeShapes Go.WideShapes Go.ChangeAt Go.RowKit Go.Sort Go.Joins Go.Deep
set_option linter.unusedVariables false
set_option linter.unusedSimpArgs false
abbrev Rp.zero : Value := .agg #[.int .i64 0, .int .i64 0, .int .i64 0, .int .i64 0, .int .i64 0, .int .i64 0, .int .i64 0, .slice none 0 0, .slice none 0 0, .slice none 0 0, .slice none 0 0, .int .i64 0, .int .i64 0]
theorem Tryz.infoRp : (Tryz.prog.info? 56).map (fun i => (i.zero, i.size, i.bytes)) = some (some Rp.zero, 13, 168) := by kernel_rfl
def RpE.own (w : World) (B : Nat) (q : RpE) : Prop := ∃ T, RpO w B T q.a q.A q.c q.ps q.r
theorem RpE.own.kept {w w' : World} {B : Nat} {q : RpE} (h : q.own w B) (hx : Ext w w') : q.own w' B := h.elim fun T h => ⟨T, h.kept hx⟩
theorem RpE.own.less {w : World} {B B' : Nat} {q : RpE} (h : q.own w B) (hB : B' ≤ B) : q.own w B' := h.elim fun T h => ⟨T, h.l.wide hB (Nat.le_refl _), h.v.wide hB (Nat.le_refl _), h.e, h.d⟩
theorem RpE.own.set {w : World} {B : Nat} {q : RpE} (h : q.own w B) {p : Addr} (hp : p.block < B) (u : Value) : q.own (w.setCell p u) B := h.elim fun T h => ⟨T, h.l.set hp u, h.v.set hp u, h.e, h.d⟩
theorem RpE.own.rd {w : World} {B : Nat} {q : RpE} (h : q.own w B) : q.rd w := h.elim fun T h => RpO.rd h
def RpsN (w : World) (B : Nat) (qs : List RpE) : Prop := ∀ q ∈ qs, RpE.own w B q
theorem RpsN.set {w : World} {B : Nat} {qs : List RpE} (h : RpsN w B qs) {p : Addr} (hp : p.block < B) (u : Value) : RpsN (w.setCell p u) B qs := fun q hq => (h q hq).set hp u
theorem RpsN.step {w w' : World} {B : Nat} {qs : List RpE} {q : RpE} (h : RpsN w B qs) (hx : Ext w w') (hq : q.own w' B) : RpsN w' B (qs ++ [q]) := fun p hp => by
 rcases List.mem_append.1 hp with hp | hp
 ·exact (h p hp).kept hx
 ·rw [Mi] at hp
  subst hp
  exact hq
structure RpsO (w : World) (B : Nat) (A : Option Addr) (c : Nat) (qs : List RpE) : Prop where
 r : Ow RpE.enc 56 13 w B (.slice A qs.length c) qs
 n : RpsN w B qs
theorem RpsO.rd {w : World} {B : Nat} {A : Option Addr} {c : Nat} {qs : List RpE} (h : RpsO w B A c qs) : RpsR w A c qs := ⟨(h.r.rd RpE.len).2, fun q hq => (h.n q hq).rd⟩
theorem RpsO.kept {w w' : World} {B : Nat} {A : Option Addr} {c : Nat} {qs : List RpE} (h : RpsO w B A c qs) (hx : Ext w w') : RpsO w' B A c qs := ⟨h.r.kept hx, fun q hq => (h.n q hq).kept hx⟩
theorem RpsO.set {w : World} {B : Nat} {A : Option Addr} {c : Nat} {qs : List RpE} (h : RpsO w B A c qs) {p : Addr} (hp : p.block < B) (u : Value) : RpsO (w.setCell p u) B A c qs := ⟨h.r.set hp u, h.n.set hp u⟩
def RpsE (ps qs : List RpE) (k : Nat) : Prop := qs.map RpE.r = (ps.take k).map RpE.r ∧ qs.map (fun q => q.ps.length) = (ps.take k).map (fun q => q.ps.length)
theorem RpsE.length {ps qs : List RpE} {k : Nat} (h : RpsE ps qs k) (hk : k ≤ ps.length) : qs.length = k := by
 have := congrArg List.length h.1
 simp at this
 omega
theorem RpsE.next {ps qs : List RpE} {k : Nat} (h : RpsE ps qs k) (hk : k < ps.length) {q : RpE} (h1 : q.r = ps[k].r) (h2 : q.ps.length = ps[k].ps.length) : RpsE ps (qs ++ [q]) (k + 1) := by
 unfold RpsE at h ⊢
 rw [List.map_append, List.map_append, h.1, h.2, List.take_succ_eq_append_getElem hk, List.map_append, List.map_append]
 simp [h1, h2]
theorem RpsE.all {ps qs : List RpE} (h : RpsE ps qs ps.length) : qs.map RpE.r = ps.map RpE.r := by
 have := h.1
 rwa [List.take_length] at this
set_option maxHeartbeats 4000000 in
set_option maxRecDepth 100000 in
theorem c_toReplicaS (A : Option Addr) (c : Nat) (ps : List RpE) (w : World) (hr : RpsR w A c ps) (hn : ps.length ≤ 1048576) (hs : RpsS ps) :
  Calls Tryz.prog 29 #[.slice A ps.length c] w fun e w' => ∃ (g : Nat) (qs : List RpE), qs.map RpE.r = ps.map RpE.r ∧ e = .returned (.slice (some ⟨g, 0, none⟩) ps.length ps.length) ∧ RpsO w' w.heap.size (some ⟨g, 0, none⟩) ps.length qs ∧ Ext w w' := by
 obtain ⟨i0, hi, hz0, hz1, hz2⟩ := info_parts Tryz.infoRp
 have hcap2 : (ps.length : Int) ≤ 9223372036854775807 := by omega
 have HS := Hd hs
 have HR := Hd hr
 clear hs hr
 go_enter Tryz.func29, Tryz.ntmps29
 go_wp2_with (at_make; refine wpList_make_full _ rfl _ _ 31 rfl w.heap.size 56 i0 Rp.zero 13 Tryz.underlying31 hi hz0 hz1 .i64 .i64 _ _ ps.length rfl rfl rfl rfl ?c1 ?c2 ?c3 ?_)
 case c1 => rw [hz2]; omega
 case c2 => unfold maxLen; omega
 case c3 => simp
 intro w1 hown hgr
 have hx1 : Ext w w1 := Below.grown (Below.refl _ _) hgr (Nat.le_refl _) (fun k hk => by cases hk)
 have hgl : w.heap.size < w1.heap.size := (World.ownsRow.lt hown _ rfl).2
 obtain ⟨g, hgv⟩ : ∃ g, g = w.heap.size := ⟨_, rfl⟩
 have hown' : w1.ownsRow w.heap.size 56 13 (.slice (some ⟨g, 0, none⟩) ps.length ps.length) ps.length ((madeCells (Rp.zero : Value).cells (ps.length * 13)).toList) := by rw [hgv]; exact hown
 have hlen : ((madeCells (Rp.zero : Value).cells (ps.length * 13)).toList).length = ps.length * 13 := by simp [size_madeCells]
 generalize (madeCells (Rp.zero : Value).cells (ps.length * 13)).toList = zs at hown' hlen
 have hgB : w.heap.size ≤ g := by omega
 have hgl : g < w1.heap.size := by omega
 rw [← hgv]
 clear hown hgv hgr hz0 hz1 hz2 hi
 go_wp2
 go_loopw [4] (fun i wr => ∃ (k : Nat) (qs : List RpE), k ≤ ps.length ∧ i = .int .i64 k ∧ RpsE ps qs k ∧ wr.ownsRow w.heap.size 56 13 (.slice (some ⟨g, 0, none⟩) ps.length ps.length) ps.length (qs.flatMap RpE.enc ++ zs.drop (k * 13)) ∧ RpsN wr (g + 1) qs ∧ g < wr.heap.size ∧ Ext w wr) (fun i _ => ps.length - (intOf i).toNat)
 case atStart => exact ⟨0, [], Nat.zero_le _, rfl, ⟨rfl, rfl⟩, by simpa using hown', fun q hq => absurd hq (by simp), hgl, hx1⟩
 case round =>
  obtain ⟨k, qs, hk, rfl, hq, hownk, hP, hgr, hxr⟩ := hrel
  have hql := hq.length hk
  have HQ := Hd hq
  have HP := Hd hP
  clear hq hP
  by_cases hlt : k < ps.length
  ·obtain ⟨b, o, rfl, hb, a0, a1, a2, a3, a4, a5, a6, a7, a8, a9, a10, a11, a12⟩ := (HR.out.1.keep hxr).atRpE hlt
   have hrl := Hd ((HR.out.keep hxr).2 ps[k] (List.getElem_mem hlt))
   have hsl := Hd (HS.out ps[k] (List.getElem_mem hlt))
   have hlk := hownk.1
   simp only [List.length_append, List.length_drop, flat_length RpE.len, hql] at hlk
   obtain ⟨x0, e0⟩ : ∃ x, wr.cell? ⟨g, k * 13, none⟩ = some x := ⟨_, (World.ownsRow.cellAt hownk (k * 13) (by omega)).trans (List.getElem?_eq_getElem (by simp only [List.length_append, List.length_drop, flat_length RpE.len, hql]; omega))⟩
   obtain ⟨x1, e1⟩ : ∃ x, wr.cell? ⟨g, k * 13 + 1, none⟩ = some x := ⟨_, (World.ownsRow.cellAt hownk (k * 13 + 1) (by omega)).trans (List.getElem?_eq_getElem (by simp only [List.length_append, List.length_drop, flat_length RpE.len, hql]; omega))⟩
   obtain ⟨x2, e2⟩ : ∃ x, wr.cell? ⟨g, k * 13 + 2, none⟩ = some x := ⟨_, (World.ownsRow.cellAt hownk (k * 13 + 2) (by omega)).trans (List.getElem?_eq_getElem (by simp only [List.length_append, List.length_drop, flat_length RpE.len, hql]; omega))⟩
   obtain ⟨x3, e3⟩ : ∃ x, wr.cell? ⟨g, k * 13 + 3, none⟩ = some x := ⟨_, (World.ownsRow.cellAt hownk (k * 13 + 3) (by omega)).trans (List.getElem?_eq_getElem (by simp only [List.length_append, List.length_drop, flat_length RpE.len, hql]; omega))⟩
   obtain ⟨x4, e4⟩ : ∃ x, wr.cell? ⟨g, k * 13 + 4, none⟩ = some x := ⟨_, (World.ownsRow.cellAt hownk (k * 13 + 4) (by omega)).trans (List.getElem?_eq_getElem (by simp only [List.length_append, List.length_drop, flat_length RpE.len, hql]; omega))⟩
   obtain ⟨x5, e5⟩ : ∃ x, wr.cell? ⟨g, k * 13 + 5, none⟩ = some x := ⟨_, (World.ownsRow.cellAt hownk (k * 13 + 5) (by omega)).trans (List.getElem?_eq_getElem (by simp only [List.length_append, List.length_drop, flat_length RpE.len, hql]; omega))⟩
   obtain ⟨x6, e6⟩ : ∃ x, wr.cell? ⟨g, k * 13 + 6, none⟩ = some x := ⟨_, (World.ownsRow.cellAt hownk (k * 13 + 6) (by omega)).trans (List.getElem?_eq_getElem (by simp only [List.length_append, List.length_drop, flat_length RpE.len, hql]; omega))⟩
   obtain ⟨x7, e7⟩ : ∃ x, wr.cell? ⟨g, k * 13 + 7, none⟩ = some x := ⟨_, (World.ownsRow.cellAt hownk (k * 13 + 7) (by omega)).trans (List.getElem?_eq_getElem (by simp only [List.length_append, List.length_drop, flat_length RpE.len, hql]; omega))⟩
   obtain ⟨x8, e8⟩ : ∃ x, wr.cell? ⟨g, k * 13 + 8, none⟩ = some x := ⟨_, (World.ownsRow.cellAt hownk (k * 13 + 8) (by omega)).trans (List.getElem?_eq_getElem (by simp only [List.length_append, List.length_drop, flat_length RpE.len, hql]; omega))⟩
   obtain ⟨x9, e9⟩ : ∃ x, wr.cell? ⟨g, k * 13 + 9, none⟩ = some x := ⟨_, (World.ownsRow.cellAt hownk (k * 13 + 9) (by omega)).trans (List.getElem?_eq_getElem (by simp only [List.length_append, List.length_drop, flat_length RpE.len, hql]; omega))⟩
   obtain ⟨x10, e10⟩ : ∃ x, wr.cell? ⟨g, k * 13 + 10, none⟩ = some x := ⟨_, (World.ownsRow.cellAt hownk (k * 13 + 10) (by omega)).trans (List.getElem?_eq_getElem (by simp only [List.length_append, List.length_drop, flat_length RpE.len, hql]; omega))⟩
   obtain ⟨x11, e11⟩ : ∃ x, wr.cell? ⟨g, k * 13 + 11, none⟩ = some x := ⟨_, (World.ownsRow.cellAt hownk (k * 13 + 11) (by omega)).trans (List.getElem?_eq_getElem (by simp only [List.length_append, List.length_drop, flat_length RpE.len, hql]; omega))⟩
   obtain ⟨x12, e12⟩ : ∃ x, wr.cell? ⟨g, k * 13 + 12, none⟩ = some x := ⟨_, (World.ownsRow.cellAt hownk (k * 13 + 12) (by omega)).trans (List.getElem?_eq_getElem (by simp only [List.length_append, List.length_drop, flat_length RpE.len, hql]; omega))⟩
   have hfz := World.ownsRow.frozenAt hownk
   have HO := Hd hownk
   have HL := Hd hql
   clear hlk hownk hql
   go_wp2_with (go_at_call 61; refine (c_toReplica ps[k].a ps[k].A ps[k].c ps[k].ps ps[k].r _ hrl.out hsl.out.1 hsl.out.2.1 hsl.out.2.2).mono ?_; rintro e w2 ⟨a', g', vs, rfl, hvl, o2, hx2⟩; have O2 := Hd o2; have HVl := Hd hvl; clear o2 hvl; obtain ⟨hc1, hf1, hs1⟩ := hx2.rules)
   have s0 := World.ownsRow.stored (ownsRow_ext HO.out hx2) (k * 13) (.int .i64 ps[k].r.me)
   have s1 := World.ownsRow.stored s0.1 (k * 13 + 1) (.int .i64 ps[k].r.of)
   have s2 := World.ownsRow.stored s1.1 (k * 13 + 2) (.int .i64 ps[k].r.mode)
   have s3 := World.ownsRow.stored s2.1 (k * 13 + 3) (.int .i64 ps[k].r.view)
   have s4 := World.ownsRow.stored s3.1 (k * 13 + 4) (.int .i64 ps[k].r.normal)
   have s5 := World.ownsRow.stored s4.1 (k * 13 + 5) (.int .i64 ps[k].r.commit)
   have s6 := World.ownsRow.stored s5.1 (k * 13 + 6) (.int .i64 ps[k].r.log.base)
   have s7 := World.ownsRow.stored s6.1 (k * 13 + 7) (.slice a'.cA ps[k].r.log.cells.length a'.cc)
   have s8 := World.ownsRow.stored s7.1 (k * 13 + 8) (.slice a'.sA ps[k].r.log.seats.length a'.sc)
   have s9 := World.ownsRow.stored s8.1 (k * 13 + 9) (.slice a'.eA ps[k].r.log.ents.length a'.ec)
   have s10 := World.ownsRow.stored s9.1 (k * 13 + 10) (.slice (some ⟨g', 0, none⟩) ps[k].ps.length ps[k].ps.length)
   have s11 := World.ownsRow.stored s10.1 (k * 13 + 11) (.int .i64 ps[k].r.cell)
   have s12 := World.ownsRow.stored s11.1 (k * 13 + 12) (.int .i64 ps[k].r.nonce)
   have hnext := setAll_push RpE.len qs ⟨a', some ⟨g', 0, none⟩, ps[k].ps.length, vs, ps[k].r⟩ zs ps.length (by rw [HL.out]; exact hlt) hlen
   rw [HL.out] at hnext
   have hnext2 := hnext
   simp only [RpE.enc, HVl.out] at hnext2
   have hP1 := HP.out.step (q := ⟨a', some ⟨g', 0, none⟩, ps[k].ps.length, vs, ps[k].r⟩) hx2 (RpE.own.less ⟨_, by first | exact O2.out | (have := O2.out; rwa [← HVl.out] at this)⟩ (by omega))
   have hbl : ∀ {x : Nat}, (⟨g, x, none⟩ : Addr).block < g + 1 := fun {x} => Nat.lt_succ_self g
   go_roundw
   case rel => exact ⟨k + 1, qs ++ [⟨a', some ⟨g', 0, none⟩, ps[k].ps.length, vs, ps[k].r⟩], by omega, by go_num, HQ.out.next hlt rfl HVl.out, ownsRow_congr s12.1 (by first | exact hnext | exact hnext2), (((((((((((((hP1).set hbl _).set hbl _).set hbl _).set hbl _).set hbl _).set hbl _).set hbl _).set hbl _).set hbl _).set hbl _).set hbl _).set hbl _).set hbl _, by simp; omega, ext_set (ext_set (ext_set (ext_set (ext_set (ext_set (ext_set (ext_set (ext_set (ext_set (ext_set (ext_set (ext_set (Ext.trans hxr hx2) hgB _) hgB _) hgB _) hgB _) hgB _) hgB _) hgB _) hgB _) hgB _) hgB _) hgB _) hgB _) hgB _⟩
   case measure => simp [intOf]; omega
  ·have hkl : k = ps.length := by omega
   go_wp2
   go_ret
   subst hkl
   have hO : Ow RpE.enc 56 13 wr w.heap.size (.slice (some ⟨g, 0, none⟩) ps.length ps.length) qs := by
    unfold Ow
    rw [hql]
    refine ownsRow_congr hownk ?_
    rw [List.drop_eq_nil_of_le (by omega), List.append_nil]
   refine ⟨g, qs, HQ.out.all, rfl, ⟨?_, fun q hq => (HP.out q hq).less (by omega)⟩, hxr⟩
   rw [hql]
   exact hO
theorem c_eqReplicaS_same (A B : Option Addr) (ca cb : Nat) (ps qs : List RpE) (hpq : ps.map RpE.r = qs.map RpE.r) (hs : RpsS ps) (w : World) (ha : RpsR w A ca ps) (hb : RpsR w B cb qs) (hn : ps.length ≤ 1048576) :
  Calls Tryz.prog 42 #[.slice A ps.length ca, .slice B qs.length cb] w fun e w' => e = .returned (.bool true) ∧ Ext w w' := by
 have hl : ps.length = qs.length := by simpa using congrArg List.length hpq
 have hat : ∀ (k : Nat) (h : k < ps.length) (h' : k < qs.length), ps[k].r = qs[k].r := fun k h h' => by
  have := congrArg (fun l => l[k]?) hpq
  simp [h, h'] at this
  exact this
 rw [← hl]
 have HL := Hd hl
 have HAt := Hd hat
 have HS := Hd hs
 have HA := Hd ha
 have HB := Hd hb
 clear hl hpq hat hs ha hb
 go_enter Tryz.func42, Tryz.ntmps42
 go_wp2
 go_loopw [5] (fun i wr => ∃ k : Nat, k ≤ ps.length ∧ i = .int .i64 k ∧ Ext w wr) (fun i _ => ps.length - (intOf i).toNat)
 case atStart => exact ⟨0, Nat.zero_le _, rfl, ext_refl _⟩
 case round =>
  obtain ⟨k, hk, rfl, hx⟩ := hrel
  by_cases hlt : k < ps.length
  ·have hltb : k < qs.length := by have := HL.out; omega
   obtain ⟨ab, ao, hA, hab, a0, a1, a2, a3, a4, a5, a6, a7, a8, a9, a10, a11, a12⟩ := (HA.out.1.keep hx).atRpE hlt
   obtain ⟨bk, bo, hB, hbb, b0, b1, b2, b3, b4, b5, b6, b7, b8, b9, b10, b11, b12⟩ := (HB.out.1.keep hx).atRpE hltb
   have HC := Hd (fun W (h : Ext wr W) => by
    have h1 := (HA.out.keep (Ext.trans hx h)).2 ps[k] (List.getElem_mem hlt)
    have h2 := (HB.out.keep (Ext.trans hx h)).2 qs[k] (List.getElem_mem hltb)
    have h3 : RpR W qs[k].a qs[k].A qs[k].c qs[k].ps ps[k].r := by rw [HAt.out k hlt hltb]; exact h2
    have h4 := c_eqReplica_same ps[k].a qs[k].a ps[k].A qs[k].A ps[k].c qs[k].c ps[k].ps qs[k].ps ps[k].r (HS.out _ (List.getElem_mem hlt)).1 W h1 h3 (HS.out _ (List.getElem_mem hlt)).2.1 (HS.out _ (List.getElem_mem hlt)).2.2
    exact h4)
   have he := HAt.out k hlt hltb
   rw [← he] at b0 b1 b2 b3 b4 b5 b6 b7 b8 b9 b11 b12
   rw [HL.out] at *
   subst hA hB
   clear he
   go_wp2
   (refine wp_region_mix' (fun _ _ _ _ _ hq => hq) 10 (by kernel_rfl) (by kernel_rfl) (fun hg => ?_); simp only [headOps, Tc, Tz, List.filter_cons, List.filter_nil, isAlloc, Bool.not_false, Bf, if_true, if_false, List.append_nil, Dc, Dz])
   (repeat (refine wpMix_plain rfl rfl ?_; go_big_quiet_step (fail); refine wpQuiet_nil ?_))
   (refine wpMix_det rfl rfl rfl (enters Tryz.func74 (by kernel_rfl) rfl) (fun W hW => HC.out W hW) rfl ?_; simp only [Act.put, Sa, Sz, Ss])
   (repeat (refine wpMix_plain rfl rfl ?_; go_big_quiet_step (fail); refine wpQuiet_nil ?_))
   refine wpMix_nil ?_
   intro w2 hx2
   go_wp2
   go_roundw
   case rel => exact ⟨k + 1, by omega, by go_num, Ext.trans hx hx2⟩
   case measure => simp [intOf]; omega
  ·go_wp2
   go_ret
   exact ⟨rfl, hx⟩
theorem c_eqNet_same (next : Int) (A B : Option Addr) (ca cb : Nat) (l : List Fl) (w : World) (ha : Rd Fl.enc 3 w A ca l) (hb : Rd Fl.enc 3 w B cb l) (hn : l.length ≤ 1048576) :
  Calls Tryz.prog 43 #[.agg #[.int .i64 next, .slice A l.length ca], .agg #[.int .i64 next, .slice B l.length cb]] w fun e w' => e = .returned (.bool true) ∧ Ext w w' := by
 have X0 : Ext w ((w.alloc (.cells #[.int .i64 next, .slice A l.length ca] 34)).alloc (.cells #[.int .i64 next, .slice B l.length cb] 34)) := ext_to (ext_alloc _ _) _
 have hcon := c_eqFlightS A B ca cb l l _ (ha.keep X0) (hb.keep X0) (by omega) (by omega)
 rw [eqB_self] at hcon
 have HC := Hd hcon
 clear hcon ha hb
 go_enter Tryz.func43, Tryz.ntmps43
 go_wp2_with fail
 refine HC.out.mono ?_
 rintro e w1 ⟨rfl, x1⟩
 go_wp2
 go_ret
 exact ⟨rfl, Ext.trans X0 x1⟩
set_option maxHeartbeats 1000000 in
theorem c_eqGroup_same (a b : GAd) (ps qs : List RpE) (g : Gp) (hs : RpsS ps) (w : World) (ha : GpR w a ps g) (hb : GpR w b qs g) (hn : ps.length ≤ 1048576) (hf : g.fls.length ≤ 1048576) (hy : g.rys.length ≤ 1048576) :
  Calls Tryz.prog 12 #[Gp.val a ps.length g, Gp.val b qs.length g] w fun e w' => e = .returned (.bool true) ∧ Ext w w' := by
 have X0 : Ext w ((w.alloc (Gp.obj a ps.length g)).alloc (Gp.obj b qs.length g)) := ext_to (ext_alloc _ _) _
 have H1 := Hd (c_eqReplicaS_same a.RA b.RA a.Rc b.Rc ps qs (ha.e.trans hb.e.symm) hs _ (ha.r.keep X0) (hb.r.keep X0) hn)
 have H2 := Hd (fun W (h : Ext ((w.alloc (Gp.obj a ps.length g)).alloc (Gp.obj b qs.length g)) W) => c_eqNet_same g.next a.FA b.FA a.Fc b.Fc g.fls W (ha.f.keep (Ext.trans X0 h)) (hb.f.keep (Ext.trans X0 h)) hf)
 have H3 := Hd (fun W (h : Ext ((w.alloc (Gp.obj a ps.length g)).alloc (Gp.obj b qs.length g)) W) => by
  have h5 := c_eqReplyS a.YA b.YA a.Yc b.Yc g.rys g.rys W (ha.y.keep (Ext.trans X0 h)) (hb.y.keep (Ext.trans X0 h)) (by omega) (by omega)
  rw [eqB_self] at h5
  exact h5)
 clear hs ha hb
 go_enter Tryz.func12, Tryz.ntmps12
 go_wp2_with fail
 refine H1.out.mono ?_
 rintro e w1 ⟨rfl, x1⟩
 have B1 := x1.box (hOld (o := Gp.obj b qs.length g) (hNew (w := w) (o := Gp.obj a ps.length g) rfl))
 have B2 := x1.box (hNew (w := w.alloc (Gp.obj a ps.length g)) (o := Gp.obj b qs.length g) rfl)
 rw [sz_alloc] at B2
 have b1 := bx_cell B1
 have b2 := bx_cell B2
 go_wp2_with fail
 refine (H2.out _ x1).mono ?_
 rintro e w2 ⟨rfl, x2⟩
 have b3 := bx_cell (x2.box B1)
 have b4 := bx_cell (x2.box B2)
 clear B1 B2 b1 b2
 go_wp2_with fail
 refine (H3.out _ (Ext.trans x1 x2)).mono ?_
 rintro e w3 ⟨rfl, x3⟩
 go_wp2
 go_ret
 exact ⟨rfl, Ext.trans X0 (Ext.trans x1 (Ext.trans x2 x3))⟩
theorem c_toNet (next : Int) (A : Option Addr) (c : Nat) (l : List Fl) (w : World) (ha : Rd Fl.enc 3 w A c l) (hn : l.length ≤ 1048576) :
  Calls Tryz.prog 30 #[.agg #[.int .i64 next, .slice A l.length c]] w fun e w' => ∃ g, e = .returned (.agg #[.int .i64 next, .slice (some ⟨g, 0, none⟩) l.length l.length]) ∧ Ow Fl.enc 59 3 w' w.heap.size (.slice (some ⟨g, 0, none⟩) l.length l.length) l ∧ Ext w w' := by
 have X0 : Ext w (((w.alloc (.cells #[.int .i64 next, .slice A l.length c] 25)).alloc (.cells #[.int .i64 0, .slice none 0 0] 34)).alloc (.cells #[.int .i64 next, .slice none 0 0] 34)) := ext_to (ext_to (ext_alloc _ _) _) _
 go_enter Tryz.func30, Tryz.ntmps30
 go_wp2_with fail
 refine (c_toFlightS A c l _ (ha.keep X0) hn).mono ?_
 rintro e w1 ⟨g, rfl, o1, x1⟩
 have B1 := x1.box (hOld (o := .cells #[.int .i64 next, .slice none 0 0] 34) (hNew (w := w.alloc (.cells #[.int .i64 next, .slice A l.length c] 25)) (o := .cells #[.int .i64 0, .slice none 0 0] 34) rfl))
 have B2 := x1.box (hNew (w := (w.alloc (.cells #[.int .i64 next, .slice A l.length c] 25)).alloc (.cells #[.int .i64 0, .slice none 0 0] 34)) (o := .cells #[.int .i64 next, .slice none 0 0] 34) rfl)
 rw [sz_alloc] at B1
 rw [sz_alloc, sz_alloc] at B2
 have X1 := Ext.trans X0 x1
 have b1 := bx_cell B1
 have b2 := bx_cell B2
 have f1 := bx_frozen B1
 have f2 := bx_frozen B2
 have z1 := bx_lt B1
 have z2 := bx_lt B2
 simp only [sz_alloc] at o1
 have O1 := Hd o1
 clear B1 B2 o1
 go_wp2
 refine bodyPost_ret (v := .agg #[.int .i64 next, .slice (some ⟨g, 0, none⟩) l.length l.length]) (by simp [results, Tryz.results30, go_sem, *]) rfl ⟨g, rfl, ?_, ?_⟩
 ·refine Ow.less (B := w.heap.size + 1 + 1 + 1) ?_ (by omega)
  repeat (first | with_reducible exact O1.out | refine Ow.set ?_ (by dsimp only; omega) _)
 ·(repeat (first | with_reducible exact ext_refl _ | with_reducible refine ext_to ?_ _ | with_reducible refine ext_set ?_ (by first | (simp; done) | (simp; omega) | omega) _ | with_reducible refine ext_drew ?_ | with_reducible refine Ext.trans ?_ (by assumption)))
set_option maxHeartbeats 4000000 in
set_option maxRecDepth 100000 in
theorem c_toGroup (a : GAd) (ps : List RpE) (g : Gp) (w : World) (hr : GpR w a ps g) (hs : RpsS ps) (hn : ps.length ≤ 1048576) (hf : g.fls.length ≤ 1048576) (hy : g.rys.length ≤ 1048576) :
  Calls Tryz.prog 10 #[Gp.val a ps.length g] w fun e w' => ∃ (b : GAd) (qs : List RpE), e = .returned (Gp.val b ps.length g) ∧ qs.length = ps.length ∧ GpR w' b qs g ∧ Ext w w' := by
 have X0 : Ext w (((w.alloc (Gp.objL a ps.length g)).alloc Gp.zobj).alloc (Gp.hobj g)) := ext_to (ext_to (ext_alloc _ _) _) _
 have HS := Hd hs
 have HR := Hd hr
 have H1 := Hd (c_toReplicaS a.RA a.Rc ps _ (hr.r.keep X0) hn hs)
 clear hs hr
 go_enter Tryz.func10, Tryz.ntmps10
 go_wp2_with fail
 refine H1.out.mono ?_
 rintro e w1 ⟨g1, qs, hq, rfl, o1, x1⟩
 have B0 := x1.box (hOld (o := Gp.hobj g) (hOld (o := Gp.zobj) (hNew (w := w) (o := Gp.objL a ps.length g) rfl)))
 have B1 := x1.box (hOld (o := Gp.hobj g) (hNew (w := w.alloc (Gp.objL a ps.length g)) (o := Gp.zobj) rfl))
 have B2 := x1.box (hNew (w := (w.alloc (Gp.objL a ps.length g)).alloc Gp.zobj) (o := Gp.hobj g) rfl)
 rw [sz_alloc] at B1
 rw [sz_alloc, sz_alloc] at B2
 have X1 := Ext.trans X0 x1
 have b0 := bx_cell B0
 have b2 := bx_cell B2
 have f2 := bx_frozen B2
 have z0 := bx_lt B0
 have z2 := bx_lt B2
 have hne : w.heap.size + 1 + 1 ≠ w.heap.size + 1 := by omega
 have hblk : w.heap.size ≤ w.heap.size + 1 + 1 := by omega
 have hn0 : w.heap.size + 1 + 1 ≠ w.heap.size := by omega
 have x1s := ext_set X1 (p := ⟨w.heap.size + 1 + 1, 1, none⟩) hblk (.slice (some ⟨g1, 0, none⟩) ps.length ps.length)
 have C2 := box_put B2 1 (.slice (some ⟨g1, 0, none⟩) ps.length ps.length)
 have C1 := box_set (p := ⟨w.heap.size + 1 + 1, 1, none⟩) (u := .slice (some ⟨g1, 0, none⟩) ps.length ps.length) B1 hne
 have C0 := box_set (p := ⟨w.heap.size + 1 + 1, 1, none⟩) (u := .slice (some ⟨g1, 0, none⟩) ps.length ps.length) B0 hn0
 simp only [sz_alloc] at o1
 have o1s := o1.set (p := ⟨w.heap.size + 1 + 1, 1, none⟩) (show w.heap.size + 1 + 1 < w.heap.size + 1 + 1 + 1 by omega) (.slice (some ⟨g1, 0, none⟩) ps.length ps.length)
 simp only [Sa, Sz, Ss] at C2
 have s1 := x1.size
 simp only [sz_alloc] at s1
 have HQ := Hd hq
 have HX1 := Hd x1s
 have HO1 := Hd o1s
 have HC0 := Hd C0
 have HC1 := Hd C1
 have HC2 := Hd C2
 have HN := Hd (c_toNet g.next a.FA a.Fc g.fls _ (HR.out.f.keep x1s) hf)
 clear hq o1 o1s x1s X1 B0 B1 B2 C0 C1 C2
 go_wp2_with fail
 refine HN.out.mono ?_
 rintro e w2 ⟨g2, rfl, o2, x2⟩
 simp only [sz_set] at o2
 have D0 := x2.box HC0.out
 have D1 := x2.box HC1.out
 have D2 := x2.box HC2.out
 have X2 := Ext.trans HX1.out x2
 have s2 := x2.size
 simp only [sz_set] at s2
 have E2 := box_put (box_put D2 2 (.int .i64 g.next)) 3 (.slice (some ⟨g2, 0, none⟩) g.fls.length g.fls.length)
 simp only [Sa, Sz, Ss] at E2
 have E1 := box_set (p := ⟨w.heap.size + 1 + 1, 3, none⟩) (u := .slice (some ⟨g2, 0, none⟩) g.fls.length g.fls.length) (box_set (p := ⟨w.heap.size + 1 + 1, 2, none⟩) (u := .int .i64 g.next) D1 hne) hne
 have x2s := ext_set (ext_set X2 (p := ⟨w.heap.size + 1 + 1, 2, none⟩) hblk (.int .i64 g.next)) (p := ⟨w.heap.size + 1 + 1, 3, none⟩) hblk (.slice (some ⟨g2, 0, none⟩) g.fls.length g.fls.length)
 have o1s := ((HO1.out.kept x2).set (p := ⟨w.heap.size + 1 + 1, 2, none⟩) (show w.heap.size + 1 + 1 < w.heap.size + 1 + 1 + 1 by omega) (.int .i64 g.next)).set (p := ⟨w.heap.size + 1 + 1, 3, none⟩) (show w.heap.size + 1 + 1 < w.heap.size + 1 + 1 + 1 by omega) (.slice (some ⟨g2, 0, none⟩) g.fls.length g.fls.length)
 have o2s := ((o2.less (show w.heap.size + 1 + 1 + 1 ≤ w1.heap.size from s1)).set (p := ⟨w.heap.size + 1 + 1, 2, none⟩) (show w.heap.size + 1 + 1 < w.heap.size + 1 + 1 + 1 by omega) (.int .i64 g.next)).set (p := ⟨w.heap.size + 1 + 1, 3, none⟩) (show w.heap.size + 1 + 1 < w.heap.size + 1 + 1 + 1 by omega) (.slice (some ⟨g2, 0, none⟩) g.fls.length g.fls.length)
 clear b0 b2 f2 z0 z2
 have b0 := bx_cell D0
 have b2 := bx_cell D2
 have f2 := bx_frozen D2
 have z0 := bx_lt D0
 have z2 := bx_lt D2
 have HY := Hd (c_toReplyS a.YA a.Yc g.rys _ (HR.out.y.keep x2s) hy)
 have HX2 := Hd x2s
 have HO1' := Hd o1s
 have HO2 := Hd o2s
 have HE1 := Hd E1
 have HE2 := Hd E2
 clear D0 D1 D2 X2 E2 E1 x2s o1s o2s o2 HO1 HC0 HC1 HC2
 go_wp2_with fail
 refine HY.out.mono ?_
 rintro e w3 ⟨g3, rfl, o3, x3⟩
 simp only [sz_set] at o3
 have F1 := x3.box HE1.out
 have F2 := x3.box HE2.out
 have X3 := Hd (Ext.trans HX2.out x3)
 have s3 := x3.size
 simp only [sz_set] at s3
 have O1 := Hd (HO1'.out.kept x3)
 have O2 := Hd (HO2.out.kept x3)
 have O3 := Hd (o3.less (show w.heap.size + 1 + 1 + 1 ≤ w2.heap.size by omega))
 clear b0 b2 f2 z0 z2 o3
 have b1 := bx_cell F1
 have b2 := bx_cell F2
 have f1 := bx_frozen F1
 have f2 := bx_frozen F2
 have z1 := bx_lt F1
 have z2 := bx_lt F2
 have hl : qs.length = ps.length := by simpa using congrArg List.length HQ.out
 have HL := Hd hl
 clear F1 F2 hl
 go_wp2
 refine bodyPost_ret (v := Gp.val ⟨some ⟨g1, 0, none⟩, ps.length, some ⟨g2, 0, none⟩, g.fls.length, some ⟨g3, 0, none⟩, g.rys.length⟩ ps.length g) (by simp [results, Tryz.results10, go_sem, *]) rfl ⟨⟨some ⟨g1, 0, none⟩, ps.length, some ⟨g2, 0, none⟩, g.fls.length, some ⟨g3, 0, none⟩, g.rys.length⟩, qs, rfl, HL.out, ⟨?_, ?_, ?_, HQ.out.trans HR.out.e⟩, ?_⟩
 ·refine RpsO.rd (B := w.heap.size + 1 + 1 + 1) ?_
  repeat (first | with_reducible exact O1.out | refine RpsO.set ?_ (by dsimp only; omega) _)
 ·refine (Ow.rd (e := 59) (n := g.fls.length) (B := w.heap.size + 1 + 1 + 1) Fl.enc_len ?_).2
  repeat (first | with_reducible exact O2.out | refine Ow.set ?_ (by dsimp only; omega) _)
 ·refine (Ow.rd (e := 61) (n := g.rys.length) (B := w.heap.size + 1 + 1 + 1) Ry.enc_len ?_).2
  repeat (first | with_reducible exact O3.out | refine Ow.set ?_ (by dsimp only; omega) _)
 ·have hX := X3.out
  (repeat (first | with_reducible exact ext_refl _ | with_reducible refine ext_to ?_ _ | with_reducible refine ext_set ?_ (by first | (simp; done) | (simp; omega) | omega) _ | with_reducible refine ext_drew ?_ | with_reducible refine Ext.trans ?_ (by assumption)))
def GpV (n : Nat) (g : Gp) (v : Value) (w : World) : Prop := ∃ b qs, v = Gp.val b n g ∧ List.length qs = n ∧ GpR w b qs g
theorem GpV.mono (n : Nat) (g : Gp) : Mono (GpV n g) := fun _ _ _ ⟨b, qs, hv, hl, h⟩ hx => ⟨b, qs, hv, hl, h.keep hx⟩
theorem RpE.small_of {w : World} {q : RpE} (h : q.rd w) : q.small ↔ q.r.log.small ∧ q.r.votes.length ≤ 1048576 ∧ ∀ v ∈ q.r.votes, v.log.small := by
 have he := h.e
 have hl : q.r.votes.length = q.ps.length := by rw [← he, List.length_map]
 unfold RpE.small
 rw [hl]
 refine and_congr Iff.rfl (and_congr Iff.rfl ?_)
 rw [← he]
 unfold LgS
 constructor
 ·intro h v hv
  obtain ⟨p, hp, rfl⟩ := List.mem_map.1 hv
  exact h p hp
 ·intro h p hp
  exact h p.2 (List.mem_map_of_mem hp)
theorem RpsS.congr {w w' : World} {A B : Option Addr} {c d : Nat} {ps qs : List RpE} (he : ps.map RpE.r = qs.map RpE.r) (hq : RpsR w' B d qs) (hp : RpsR w A c ps) (hs : RpsS ps) : RpsS qs := fun q h => by
 have h1 : q.r ∈ ps.map RpE.r := by rw [he]; exact List.mem_map_of_mem h
 obtain ⟨p, hpm, hpr⟩ := List.mem_map.1 h1
 rw [RpE.small_of (hq.2 q h), ← hpr]
 exact (RpE.small_of (hp.2 p hpm)).1 (hs p hpm)
theorem c_eqGAnew (a : GAd) (ps : List RpE) (g : Gp) (n : Nat) (w : World) (ha : GpR w a ps g) (hl : ps.length = n) (hn : n ≤ 1048576) (hs : RpsS ps) (hf : g.fls.length ≤ 1048576) (hy : g.rys.length ≤ 1048576) (v : Value) (hv : GpV n g v w) :
  Calls Tryz.prog 12 #[Gp.val a n g, v] w fun e w' => e = .returned (.bool true) ∧ Ext w w' := by
 obtain ⟨b, qs, rfl, hq, hb⟩ := hv
 have h := c_eqGroup_same a b ps qs g hs w ha hb (by omega) hf hy
 rw [hl, hq] at h
 exact h
section
variable {H : Type} {enc : TypeId × Value → H} {w : World} {base : Nat} {spare : Nat → Bool} {held : Bool}
theorem tr_rys {A : Option Addr} {n c : Nat} (h : Tr enc Tryz.prog w base spare held 26 [.slice A n c]) : ∃ l : List Ry, l.length = n ∧ Rd Ry.enc 3 w A c l := by
 obtain ⟨l, h1, h2, _⟩ := h.list Tryz.underlying26 (e := 98) (C := 3) (by kernel_rfl) (by decide) Ry.enc (fun _ => True) (fun cs hl ht => by
  obtain ⟨x0, e0, _⟩ := ht.int (n := 3) (lt := 3) 0 (by kernel_rfl) Tryz.underlying3
  obtain ⟨x1, e1, _⟩ := ht.int (n := 3) (lt := 3) 1 (by kernel_rfl) Tryz.underlying3
  obtain ⟨x2, e2, _⟩ := ht.int (n := 3) (lt := 3) 2 (by kernel_rfl) Tryz.underlying3
  obtain ⟨a, b, c, rfl⟩ := list3 hl
  simp at e0 e1 e2
  subst e0 e1 e2
  exact ⟨⟨x0, x1, x2⟩, rfl, trivial⟩)
 exact ⟨l, h1, h2⟩
theorem tr_fls {A : Option Addr} {n c : Nat} (h : Tr enc Tryz.prog w base spare held 23 [.slice A n c]) : ∃ l : List Fl, l.length = n ∧ Rd Fl.enc 3 w A c l ∧ FlsM l := by
 obtain ⟨l, h1, h2, h3⟩ := h.list Tryz.underlying23 (e := 119) (C := 3) (by kernel_rfl) (by decide) Fl.enc (fun f => f.bytes.size ≤ 9223372036854775807) (fun cs hl ht => by
  obtain ⟨x0, e0, _⟩ := ht.int (n := 3) (lt := 3) 0 (by kernel_rfl) Tryz.underlying3
  obtain ⟨x1, e1, _⟩ := ht.int (n := 3) (lt := 3) 1 (by kernel_rfl) Tryz.underlying3
  obtain ⟨x2, e2, hs⟩ := ht.str (n := 3) (lt := 9) 2 (by kernel_rfl) Tryz.underlying9
  obtain ⟨a, b, c, rfl⟩ := list3 hl
  simp at e0 e1 e2
  subst e0 e1 e2
  exact ⟨⟨x0, x1, x2⟩, rfl, by unfold maxLen at hs; show x2.size ≤ _; omega⟩)
 exact ⟨l, h1, h2, h3⟩
set_option maxRecDepth 100000 in
theorem tr_reps {A : Option Addr} {n c : Nat} (h : Tr enc Tryz.prog w base spare held 22 [.slice A n c]) : ∃ qs : List RpE, qs.length = n ∧ RpsR w A c qs := by
 obtain ⟨l, h1, h2, h3⟩ := h.list Tryz.underlying22 (e := 88) (C := 13) (by kernel_rfl) (by decide) RpE.enc (fun q => q.rd w) (fun cs hl ht => by
  obtain ⟨x0, e0, _⟩ := ht.int (n := 4) (lt := 3) 0 (by kernel_rfl) Tryz.underlying3
  obtain ⟨x1, e1, _⟩ := ht.int (n := 4) (lt := 3) 1 (by kernel_rfl) Tryz.underlying3
  obtain ⟨x2, e2, _⟩ := ht.int (n := 4) (lt := 3) 2 (by kernel_rfl) Tryz.underlying3
  obtain ⟨x3, e3, _⟩ := ht.int (n := 4) (lt := 3) 3 (by kernel_rfl) Tryz.underlying3
  obtain ⟨x4, e4, _⟩ := ht.int (n := 4) (lt := 3) 4 (by kernel_rfl) Tryz.underlying3
  obtain ⟨x5, e5, _⟩ := ht.int (n := 4) (lt := 3) 5 (by kernel_rfl) Tryz.underlying3
  obtain ⟨a, l, hr, e6, e7, e8, e9⟩ := tr_log ht 6 (by kernel_rfl) (by kernel_rfl) (by kernel_rfl) (by kernel_rfl)
  obtain ⟨A, n, c, e10, tv⟩ := ht.slice (n := 4) (lt := 86) 10 (by kernel_rfl) Tryz.underlying86
  obtain ⟨ps, rfl, hvs⟩ := tr_votes tv
  obtain ⟨x11, e11, _⟩ := ht.int (n := 4) (lt := 3) 11 (by kernel_rfl) Tryz.underlying3
  obtain ⟨x12, e12, _⟩ := ht.int (n := 4) (lt := 3) 12 (by kernel_rfl) Tryz.underlying3
  obtain ⟨y0, y1, y2, y3, y4, y5, y6, y7, y8, y9, y10, y11, y12, rfl⟩ := list13 hl
  simp at e0 e1 e2 e3 e4 e5 e6 e7 e8 e9 e10 e11 e12
  subst e0 e1 e2 e3 e4 e5 e6 e7 e8 e9 e10 e11 e12
  exact ⟨⟨a, A, c, ps, ⟨x0, x1, x2, x3, x4, x5, l, ps.map Prod.snd, x11, x12⟩⟩, rfl, ⟨hr, hvs, rfl⟩⟩)
 exact ⟨l, h1, h2, h3⟩
set_option maxRecDepth 100000 in
theorem open_Group {v : Value} {d : DataW H} {p : List MemPlace} {b0 : Nat}
  (hv : Value.okWide Tryz.prog w .any b0 28 v) (h : DataW.Trod enc Tryz.prog w base spare held 28 v d p) : ∃ a qs g, v = Gp.val a (List.length qs) g ∧ GpR w a qs g ∧ FlsM g.fls := by
 obtain ⟨cs, rfl, hsz⟩ := okWide_struct Tryz.underlying28 hv
 obtain ⟨fuel, hf⟩ := h
 have ht : Tr enc Tryz.prog w base spare held 28 cs.toList := ⟨fuel, _, hf⟩
 have hl : cs.toList.length = 5 := by rw [Array.length_toList, hsz]; kernel_rfl
 obtain ⟨x0, e0, _⟩ := ht.int (n := 4) (lt := 3) 0 (by kernel_rfl) Tryz.underlying3
 obtain ⟨RA, n, Rc, e1, tr⟩ := ht.slice (n := 4) (lt := 22) 1 (by kernel_rfl) Tryz.underlying22
 obtain ⟨x2, e2, _⟩ := ht.int (n := 4) (lt := 3) 2 (by kernel_rfl) Tryz.underlying3
 obtain ⟨FA, m, Fc, e3, tf⟩ := ht.slice (n := 4) (lt := 23) 3 (by kernel_rfl) Tryz.underlying23
 obtain ⟨YA, k, Yc, e4, ty⟩ := ht.slice (n := 4) (lt := 26) 4 (by kernel_rfl) Tryz.underlying26
 obtain ⟨qs, rfl, hqs⟩ := tr_reps tr
 obtain ⟨fs, rfl, hfs, hfm⟩ := tr_fls tf
 obtain ⟨ys, rfl, hys⟩ := tr_rys ty
 obtain ⟨y0, y1, y2, y3, y4, hy⟩ := list5 hl
 rw [hy] at e0 e1 e2 e3 e4
 simp at e0 e1 e2 e3 e4
 subst e0 e1 e2 e3 e4
 exact ⟨⟨RA, Rc, FA, Fc, YA, Yc⟩, qs, ⟨x0, qs.map RpE.r, x2, fs, ys⟩, congrArg Value.agg (Array.ext' hy), ⟨hqs, hfs, hys, rfl⟩, hfm⟩
end
end Go.Proofs.YtmphedkbdlckhaaGreat
