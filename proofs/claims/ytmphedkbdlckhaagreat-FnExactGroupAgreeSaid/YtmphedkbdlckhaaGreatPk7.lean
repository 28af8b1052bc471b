/- The laws' own functions on logs and votes: equal. -/
import Derived.Test.YtmphedkbdlckhaaGreatPk6
namespace Go.Proofs.YtmphedkbdlckhaaGreat
open Go.ChangeShapes Go.WideShapes Go.ChangeAt Go.RowKit Go.Sort
set_option linter.unusedVariables false
set_option linter.unusedSimpArgs false
def Lg.small (l : Lg) : Prop := l.cells.length ≤ 1048576 ∧ l.seats.length ≤ 1048576 ∧ l.ents.length ≤ 1048576
theorem c_eqImage_same (a b : LAd) (l : Lg) (hl : l.small) (w : World) (ha : LgR w a l) (hb : LgR w b l) :
  Calls Tryz.prog 114 #[.agg #[.slice a.cA l.cells.length a.cc, .slice a.sA l.seats.length a.sc], .agg #[.slice b.cA l.cells.length b.cc, .slice b.sA l.seats.length b.sc]] w fun e w' => e = .returned (.bool true) ∧ Ext w w' := by
 obtain ⟨hl1, hl2, hl3⟩ := hl
 have X0 : Ext w ((w.alloc (.cells #[.slice a.cA l.cells.length a.cc, .slice a.sA l.seats.length a.sc] 50)).alloc (.cells #[.slice b.cA l.cells.length b.cc, .slice b.sA l.seats.length b.sc] 50)) := ext_to (ext_alloc _ _) _
 have hcon := c_eqCellS a.cA b.cA a.cc b.cc l.cells l.cells _ (ha.1.keep X0) (hb.1.keep X0) (by omega) (by omega)
 rw [eqB_self] at hcon
 have hcon2 := fun W h1 h2 => c_eqSeatS a.sA b.sA a.sc b.sc l.seats l.seats W h1 h2 (by omega) (by omega)
 simp only [eqB_self] at hcon2
 go_enter Tryz.func114, Tryz.ntmps114
 go_wp2_with fail
 refine hcon.mono ?_
 rintro e w1 ⟨rfl, x1⟩
 have X1 := Ext.trans X0 x1
 have B1 := x1.box (hOld (o := .cells #[.slice b.cA l.cells.length b.cc, .slice b.sA l.seats.length b.sc] 50) (hNew (w := w) (o := .cells #[.slice a.cA l.cells.length a.cc, .slice a.sA l.seats.length a.sc] 50) rfl))
 have B2 := x1.box (hNew (w := w.alloc (.cells #[.slice a.cA l.cells.length a.cc, .slice a.sA l.seats.length a.sc] 50)) (o := .cells #[.slice b.cA l.cells.length b.cc, .slice b.sA l.seats.length b.sc] 50) rfl)
 rw [sz_alloc] at B2
 have b1 := bx_cell B1
 have b2 := bx_cell B2
 have hcon3 := hcon2 _ (ha.2.1.keep X1) (hb.2.1.keep X1)
 clear hcon hcon2 B1 B2
 go_wp2_with fail
 refine hcon3.mono ?_
 rintro e w2 ⟨rfl, x2⟩
 clear hcon3
 go_wp2
 go_ret
 exact ⟨rfl, Ext.trans X1 x2⟩
theorem c_eqLog_same (a b : LAd) (l : Lg) (hl : l.small) (w : World) (ha : LgR w a l) (hb : LgR w b l) :
  Calls Tryz.prog 94 #[.agg #[.int .i64 l.base, .slice a.cA l.cells.length a.cc, .slice a.sA l.seats.length a.sc, .slice a.eA l.ents.length a.ec], .agg #[.int .i64 l.base, .slice b.cA l.cells.length b.cc, .slice b.sA l.seats.length b.sc, .slice b.eA l.ents.length b.ec]] w fun e w' => e = .returned (.bool true) ∧ Ext w w' := by
 have hl' := Hd hl
 obtain ⟨hl1, hl2, hl3⟩ := hl
 have X0 : Ext w ((w.alloc (.cells #[.int .i64 l.base, .slice a.cA l.cells.length a.cc, .slice a.sA l.seats.length a.sc, .slice a.eA l.ents.length a.ec] 53)).alloc (.cells #[.int .i64 l.base, .slice b.cA l.cells.length b.cc, .slice b.sA l.seats.length b.sc, .slice b.eA l.ents.length b.ec] 53)) := ext_to (ext_alloc _ _) _
 have hcon := c_eqImage_same a b l hl'.out _ (ha.keep X0) (hb.keep X0)
 have hcon2 := fun W h1 h2 => c_eqEntryS a.eA b.eA a.ec b.ec l.ents l.ents W h1 h2 (by omega) (by omega)
 simp only [eqB_self] at hcon2
 go_enter Tryz.func94, Tryz.ntmps94
 go_wp2_with fail
 refine hcon.mono ?_
 rintro e w1 ⟨rfl, x1⟩
 have X1 := Ext.trans X0 x1
 have B1 := x1.box (hOld (o := .cells #[.int .i64 l.base, .slice b.cA l.cells.length b.cc, .slice b.sA l.seats.length b.sc, .slice b.eA l.ents.length b.ec] 53) (hNew (w := w) (o := .cells #[.int .i64 l.base, .slice a.cA l.cells.length a.cc, .slice a.sA l.seats.length a.sc, .slice a.eA l.ents.length a.ec] 53) rfl))
 have B2 := x1.box (hNew (w := w.alloc (.cells #[.int .i64 l.base, .slice a.cA l.cells.length a.cc, .slice a.sA l.seats.length a.sc, .slice a.eA l.ents.length a.ec] 53)) (o := .cells #[.int .i64 l.base, .slice b.cA l.cells.length b.cc, .slice b.sA l.seats.length b.sc, .slice b.eA l.ents.length b.ec] 53) rfl)
 rw [sz_alloc] at B2
 have b1 := bx_cell B1
 have b2 := bx_cell B2
 have hcon3 := hcon2 _ (ha.2.2.keep X1) (hb.2.2.keep X1)
 clear hcon hcon2 B1 B2
 go_wp2_with fail
 refine hcon3.mono ?_
 rintro e w2 ⟨rfl, x2⟩
 clear hcon3
 go_wp2
 go_ret
 exact ⟨rfl, Ext.trans X1 x2⟩
abbrev VtE.val (a : LAd) (v : Vt) : Value := .agg #[.int .i64 v.kind, .int .i64 v.frm, .int .i64 v.view, .int .i64 v.normal, .int .i64 v.op, .int .i64 v.commit, .int .i64 v.log.base, .slice a.cA v.log.cells.length a.cc, .slice a.sA v.log.seats.length a.sc, .slice a.eA v.log.ents.length a.ec]
theorem c_eqVote_same (a b : LAd) (v : Vt) (hl : v.log.small) (w : World) (ha : LgR w a v.log) (hb : LgR w b v.log) :
  Calls Tryz.prog 116 #[VtE.val a v, VtE.val b v] w fun e w' => e = .returned (.bool true) ∧ Ext w w' := by
 have X0 : Ext w ((w.alloc (.cells #[.int .i64 v.kind, .int .i64 v.frm, .int .i64 v.view, .int .i64 v.normal, .int .i64 v.op, .int .i64 v.commit, .int .i64 v.log.base, .slice a.cA v.log.cells.length a.cc, .slice a.sA v.log.seats.length a.sc, .slice a.eA v.log.ents.length a.ec] 93)).alloc (.cells #[.int .i64 v.kind, .int .i64 v.frm, .int .i64 v.view, .int .i64 v.normal, .int .i64 v.op, .int .i64 v.commit, .int .i64 v.log.base, .slice b.cA v.log.cells.length b.cc, .slice b.sA v.log.seats.length b.sc, .slice b.eA v.log.ents.length b.ec] 93)) := ext_to (ext_alloc _ _) _
 have hcon := c_eqLog_same a b v.log hl _ (ha.keep X0) (hb.keep X0)
 clear hl
 go_enter Tryz.func116, Tryz.ntmps116
 go_wp2_with fail
 refine hcon.mono ?_
 rintro e w1 ⟨rfl, x1⟩
 clear hcon
 go_wp2
 go_ret
 exact ⟨rfl, Ext.trans X0 x1⟩
set_option maxHeartbeats 1000000 in
theorem c_eqVoteS_same (A B : Option Addr) (ca cb : Nat) (ps qs : List VtE) (hpq : ps.map Prod.snd = qs.map Prod.snd) (hs : ∀ p ∈ ps, p.2.log.small) (w : World) (ha : VsR w A ca ps) (hb : VsR w B cb qs) (hn : ps.length ≤ 1048576) :
  Calls Tryz.prog 95 #[.slice A ps.length ca, .slice B qs.length cb] w fun e w' => e = .returned (.bool true) ∧ Ext w w' := by
 have hl : ps.length = qs.length := by simpa using congrArg List.length hpq
 have hat : ∀ (k : Nat) (h : k < ps.length) (h' : k < qs.length), ps[k].2 = qs[k].2 := fun k h h' => by
  have := congrArg (fun l => l[k]?) hpq
  simp [h, h'] at this
  exact this
 rw [← hl]
 have HL := Hd hl
 have HA := Hd hat
 have HS := Hd hs
 clear hl hpq hat hs
 go_enter Tryz.func95, Tryz.ntmps95
 go_wp2
 go_loopw [5] (fun i wr => ∃ k : Nat, k ≤ ps.length ∧ i = .int .i64 k ∧ Ext w wr) (fun i _ => ps.length - (intOf i).toNat)
 case atStart => exact ⟨0, Nat.zero_le _, rfl, ext_refl _⟩
 case round =>
  obtain ⟨k, hk, rfl, hx⟩ := hrel
  by_cases hlt : k < ps.length
  ·have hltb : k < qs.length := by have := HL.out; omega
   obtain ⟨ab, ao, rfl, hab, a0, a1, a2, a3, a4, a5, a6, a7, a8, a9⟩ := (ha.1.keep hx).atVtE hlt
   obtain ⟨bb, bo, hB, hbb, b0, b1, b2, b3, b4, b5, b6, b7, b8, b9⟩ := (hb.1.keep hx).atVtE hltb
   have hr1 := (ha.keep hx).2 ps[k] (List.getElem_mem hlt)
   have hr2 := (hb.keep hx).2 qs[k] (List.getElem_mem hltb)
   have hsm := Hd (HS.out ps[k] (List.getElem_mem hlt))
   have he := HA.out k hlt hltb
   rw [← he] at b0 b1 b2 b3 b4 b5 b6 b7 b8 b9 hr2
   rw [HL.out] at *
   subst hB
   clear he
   have hcon := fun W (h : Ext wr W) => c_eqVote_same ps[k].1 qs[k].1 ps[k].2 hsm.out W (hr1.keep h) (hr2.keep h)
   have HC := Hd hcon
   clear hcon hr1 hr2
   go_wp2
   (refine wp_region_mix' (fun _ _ _ _ _ hq => hq) 10 (by kernel_rfl) (by kernel_rfl) (fun hg => ?_); simp only [headOps, Tc, Tz, List.filter_cons, List.filter_nil, isAlloc, Bool.not_false, Bf, if_true, if_false, List.append_nil, Dc, Dz])
   (repeat (refine wpMix_plain rfl rfl ?_; go_big_quiet_step (fail); refine wpQuiet_nil ?_))
   (refine wpMix_det rfl rfl rfl (enters Tryz.func116 (by kernel_rfl) rfl) (fun W hW => HC.out W hW) rfl ?_; simp only [Act.put, Sa, Sz, Ss])
   (repeat (refine wpMix_plain rfl rfl ?_; go_big_quiet_step (fail); refine wpQuiet_nil ?_))
   refine wpMix_nil ?_
   intro w2 hx2
   go_wp2
   go_roundw
   case rel => exact ⟨k + 1, by omega, by go_num, Ext.trans hx hx2⟩
   case measure => simp [intOf]; omega
  ·go_wp2
   go_ret
   exact ⟨rfl, hx⟩
abbrev Vt.zero : Value := .agg #[.int .i64 0, .int .i64 0, .int .i64 0, .int .i64 0, .int .i64 0, .int .i64 0, .int .i64 0, .slice none 0 0, .slice none 0 0, .slice none 0 0]
theorem Tryz.infoVt : (Tryz.prog.info? 93).map (fun i => (i.zero, i.size, i.bytes)) = some (some Vt.zero, 10, 128) := by kernel_rfl
structure VsP (w : World) (B g : Nat) (ps : List VtE) : Prop where
 l : ∀ p ∈ ps, LgO w B w.heap.size p.1 p.2.log
 nd : (g :: ps.flatMap (fun p => p.1.fp)).Nodup
 gl : g < w.heap.size
theorem VsP.step {w w' : World} {B g : Nat} {ps : List VtE} {a : LAd} {v : Vt} (h : VsP w B g ps) (hB : B ≤ w.heap.size) (ho : LgO w' w.heap.size w'.heap.size a v.log) (hx : Ext w w') : VsP w' B g (ps ++ [(a, v)]) := by
 have hs := hx.size
 refine ⟨fun p hp => ?_, ?_, by have := h.gl; omega⟩
 ·rcases List.mem_append.1 hp with hp | hp
  ·exact ((h.l p hp).kept hx).wide (Nat.le_refl _) hs
  ·rw [Mi] at hp
   subst hp
   exact ho.wide hB (Nat.le_refl _)
 ·have hn := h.nd
  simp only [List.flatMap_append, List.flatMap_cons, List.flatMap_nil, List.append_nil]
  rw [← List.cons_append, List.nodup_append]
  refine ⟨hn, ho.nd, fun x hx1 y hy he => ?_⟩
  subst he
  have lo := ho.low x hy
  rcases List.mem_cons.1 hx1 with rfl | hx1
  ·have := h.gl; omega
  ·obtain ⟨p, hp, hxp⟩ := List.mem_flatMap.1 hx1
   have := (h.l p hp).lt x hxp
   omega
theorem VsP.set {w : World} {B g : Nat} {ps : List VtE} (h : VsP w B g ps) (hg : ∀ p ∈ ps, g ∉ p.1.fp) (o : Nat) (u : Value) : VsP (w.setCell ⟨g, o, none⟩ u) B g ps := by
 have hx : Chg w (w.setCell ⟨g, o, none⟩ u) [g] := ⟨rfl, rfl, rfl, Nat.le_of_eq (World.size_setCell ..).symm, fun k _ hn => Below.heap_setCell _ _ _ _ (fun he => hn (by simp [he]))⟩
 refine ⟨fun p hp => ?_, h.nd, by simpa using h.gl⟩
 rw [World.size_setCell]
 exact (h.l p hp).chg hx (fun k hk hm => by rw [Mi] at hm; exact hg p hp (hm ▸ hk))
theorem VsP.apart {w : World} {B g : Nat} {ps : List VtE} (h : VsP w B g ps) : ∀ p ∈ ps, g ∉ p.1.fp := fun p hp hg => by
 have := h.nd
 rw [List.nodup_cons] at this
 exact this.1 (List.mem_flatMap.2 ⟨p, hp, hg⟩)
theorem setAll_push {α : Type} {enc : α → List Value} {sz : Nat} (hsz : ∀ x, (enc x).length = sz) (ps : List α) (x : α) (zs : List Value) (n : Nat) (hk : ps.length < n) (hz : zs.length = n * sz) :
  setAll (ps.flatMap enc ++ zs.drop (ps.length * sz)) (ps.length * sz) (enc x) = (ps ++ [x]).flatMap enc ++ zs.drop ((ps.length + 1) * sz) := by
 have hn : ps.length + (n - ps.length) = n := by omega
 have h := setAll_next hsz (ps ++ List.replicate (n - ps.length) x) zs ps.length (by simp; omega) (by simp [hz, hn])
 obtain ⟨m, hm⟩ : ∃ m, n - ps.length = m + 1 := ⟨n - ps.length - 1, by omega⟩
 have h1 : (ps ++ List.replicate (n - ps.length) x).take ps.length = ps := by rw [List.take_left']; rfl
 have h2 : (ps ++ List.replicate (n - ps.length) x).take (ps.length + 1) = ps ++ [x] := by
  rw [hm, List.replicate_succ, List.take_append]
  simp
  exact List.take_of_length_le (by omega)
 rw [h1, h2] at h
 simpa using h
def VsS (ps qs : List VtE) (k : Nat) : Prop := qs.map Prod.snd = (ps.take k).map Prod.snd
theorem VsS.length {ps qs : List VtE} {k : Nat} (h : VsS ps qs k) (hk : k ≤ ps.length) : qs.length = k := by
 have := congrArg List.length h
 simp at this
 omega
theorem VsS.next {ps qs : List VtE} {k : Nat} (h : VsS ps qs k) (hk : k < ps.length) (a : LAd) : VsS ps (qs ++ [(a, ps[k].2)]) (k + 1) := by
 unfold VsS at h ⊢
 rw [List.map_append, h, List.take_succ_eq_append_getElem hk, List.map_append]
 rfl
def LgS (ps : List VtE) : Prop := ∀ p ∈ ps, p.2.log.small
set_option maxHeartbeats 2000000 in
theorem c_toVoteS (A : Option Addr) (c : Nat) (ps : List VtE) (w : World) (hr : VsR w A c ps) (hn : ps.length ≤ 1048576) (hs : LgS ps) :
  Calls Tryz.prog 88 #[.slice A ps.length c] w fun e w' => ∃ (g : Nat) (qs : List VtE), VsS ps qs ps.length ∧ e = .returned (.slice (some ⟨g, 0, none⟩) ps.length ps.length) ∧ VsO w' w.heap.size w'.heap.size (some ⟨g, 0, none⟩) ps.length qs ∧ Ext w w' := by
 obtain ⟨i0, hi, hz0, hz1, hz2⟩ := info_parts Tryz.infoVt
 have hcap2 : (ps.length : Int) ≤ 9223372036854775807 := by omega
 have HS := Hd hs
 clear hs
 go_enter Tryz.func88, Tryz.ntmps88
 go_wp2_with (at_make; refine wpList_make_full _ rfl _ _ 54 rfl w.heap.size 93 i0 Vt.zero 10 Tryz.underlying54 hi hz0 hz1 .i64 .i64 _ _ ps.length rfl rfl rfl rfl ?c1 ?c2 ?c3 ?_)
 case c1 => rw [hz2]; omega
 case c2 => unfold maxLen; omega
 case c3 => simp
 intro w1 hown hgr
 have hx1 : Ext w w1 := Below.grown (Below.refl _ _) hgr (Nat.le_refl _) (fun k hk => by cases hk)
 have hgl : w.heap.size < w1.heap.size := (World.ownsRow.lt hown _ rfl).2
 obtain ⟨g, hgv⟩ : ∃ g, g = w.heap.size := ⟨_, rfl⟩
 have hown' : w1.ownsRow w.heap.size 93 10 (.slice (some ⟨g, 0, none⟩) ps.length ps.length) ps.length ((madeCells (Vt.zero : Value).cells (ps.length * 10)).toList) := by rw [hgv]; exact hown
 have hlen : ((madeCells (Vt.zero : Value).cells (ps.length * 10)).toList).length = ps.length * 10 := by simp [size_madeCells]
 generalize (madeCells (Vt.zero : Value).cells (ps.length * 10)).toList = zs at hown' hlen
 have hgB : w.heap.size ≤ g := by omega
 have hgl : g < w1.heap.size := by omega
 rw [← hgv]
 clear hown hgv hgr hz0 hz1 hz2 hi
 go_wp2
 go_loopw [4] (fun i wr => ∃ (k : Nat) (qs : List VtE), k ≤ ps.length ∧ i = .int .i64 k ∧ VsS ps qs k ∧ wr.ownsRow w.heap.size 93 10 (.slice (some ⟨g, 0, none⟩) ps.length ps.length) ps.length (qs.flatMap VtE.enc ++ zs.drop (k * 10)) ∧ VsP wr w.heap.size g qs ∧ Ext w wr) (fun i _ => ps.length - (intOf i).toNat)
 case atStart => exact ⟨0, [], Nat.zero_le _, rfl, rfl, by simpa using hown', ⟨by simp, by simp, hgl⟩, hx1⟩
 case round =>
  obtain ⟨k, qs, hk, rfl, hq, hownk, hP, hxr⟩ := hrel
  have hql := hq.length hk
  have HQ := Hd hq
  have HP := Hd hP
  have hgr := hP.gl
  clear hq hP
  by_cases hlt : k < ps.length
  ·obtain ⟨b, o, rfl, hb, a0, a1, a2, a3, a4, a5, a6, a7, a8, a9⟩ := (hr.1.keep hxr).atVtE hlt
   have hrl := Hd ((hr.keep hxr).2 ps[k] (List.getElem_mem hlt))
   have hsl := Hd (HS.out ps[k] (List.getElem_mem hlt))
   have hlk := hownk.1
   simp only [List.length_append, List.length_drop, flat_length VtE.len, hql] at hlk
   obtain ⟨x0, e0⟩ : ∃ x, wr.cell? ⟨g, k * 10, none⟩ = some x := ⟨_, (World.ownsRow.cellAt hownk (k * 10) (by omega)).trans (List.getElem?_eq_getElem (by simp only [List.length_append, List.length_drop, flat_length VtE.len, hql]; omega))⟩
   obtain ⟨x1, e1⟩ : ∃ x, wr.cell? ⟨g, k * 10 + 1, none⟩ = some x := ⟨_, (World.ownsRow.cellAt hownk (k * 10 + 1) (by omega)).trans (List.getElem?_eq_getElem (by simp only [List.length_append, List.length_drop, flat_length VtE.len, hql]; omega))⟩
   obtain ⟨x2, e2⟩ : ∃ x, wr.cell? ⟨g, k * 10 + 2, none⟩ = some x := ⟨_, (World.ownsRow.cellAt hownk (k * 10 + 2) (by omega)).trans (List.getElem?_eq_getElem (by simp only [List.length_append, List.length_drop, flat_length VtE.len, hql]; omega))⟩
   obtain ⟨x3, e3⟩ : ∃ x, wr.cell? ⟨g, k * 10 + 3, none⟩ = some x := ⟨_, (World.ownsRow.cellAt hownk (k * 10 + 3) (by omega)).trans (List.getElem?_eq_getElem (by simp only [List.length_append, List.length_drop, flat_length VtE.len, hql]; omega))⟩
   obtain ⟨x4, e4⟩ : ∃ x, wr.cell? ⟨g, k * 10 + 4, none⟩ = some x := ⟨_, (World.ownsRow.cellAt hownk (k * 10 + 4) (by omega)).trans (List.getElem?_eq_getElem (by simp only [List.length_append, List.length_drop, flat_length VtE.len, hql]; omega))⟩
   obtain ⟨x5, e5⟩ : ∃ x, wr.cell? ⟨g, k * 10 + 5, none⟩ = some x := ⟨_, (World.ownsRow.cellAt hownk (k * 10 + 5) (by omega)).trans (List.getElem?_eq_getElem (by simp only [List.length_append, List.length_drop, flat_length VtE.len, hql]; omega))⟩
   obtain ⟨x6, e6⟩ : ∃ x, wr.cell? ⟨g, k * 10 + 6, none⟩ = some x := ⟨_, (World.ownsRow.cellAt hownk (k * 10 + 6) (by omega)).trans (List.getElem?_eq_getElem (by simp only [List.length_append, List.length_drop, flat_length VtE.len, hql]; omega))⟩
   obtain ⟨x7, e7⟩ : ∃ x, wr.cell? ⟨g, k * 10 + 7, none⟩ = some x := ⟨_, (World.ownsRow.cellAt hownk (k * 10 + 7) (by omega)).trans (List.getElem?_eq_getElem (by simp only [List.length_append, List.length_drop, flat_length VtE.len, hql]; omega))⟩
   obtain ⟨x8, e8⟩ : ∃ x, wr.cell? ⟨g, k * 10 + 8, none⟩ = some x := ⟨_, (World.ownsRow.cellAt hownk (k * 10 + 8) (by omega)).trans (List.getElem?_eq_getElem (by simp only [List.length_append, List.length_drop, flat_length VtE.len, hql]; omega))⟩
   obtain ⟨x9, e9⟩ : ∃ x, wr.cell? ⟨g, k * 10 + 9, none⟩ = some x := ⟨_, (World.ownsRow.cellAt hownk (k * 10 + 9) (by omega)).trans (List.getElem?_eq_getElem (by simp only [List.length_append, List.length_drop, flat_length VtE.len, hql]; omega))⟩
   have hfz := World.ownsRow.frozenAt hownk
   have HO := Hd hownk
   have HL := Hd hql
   clear hlk hownk hql
   go_wp2_with (go_at_call 108; refine (c_toVote ps[k].1 ps[k].2 _ hrl.out hsl.out.1 hsl.out.2.1 hsl.out.2.2).mono ?_; rintro e w2 ⟨a', rfl, o2, hx2⟩; have O2 := Hd o2; clear o2; obtain ⟨hc1, hf1, hs1⟩ := hx2.rules)
   have s0 := World.ownsRow.stored (ownsRow_ext HO.out hx2) (k * 10) (.int .i64 ps[k].2.kind)
   have s1 := World.ownsRow.stored s0.1 (k * 10 + 1) (.int .i64 ps[k].2.frm)
   have s2 := World.ownsRow.stored s1.1 (k * 10 + 2) (.int .i64 ps[k].2.view)
   have s3 := World.ownsRow.stored s2.1 (k * 10 + 3) (.int .i64 ps[k].2.normal)
   have s4 := World.ownsRow.stored s3.1 (k * 10 + 4) (.int .i64 ps[k].2.op)
   have s5 := World.ownsRow.stored s4.1 (k * 10 + 5) (.int .i64 ps[k].2.commit)
   have s6 := World.ownsRow.stored s5.1 (k * 10 + 6) (.int .i64 ps[k].2.log.base)
   have s7 := World.ownsRow.stored s6.1 (k * 10 + 7) (.slice a'.cA ps[k].2.log.cells.length a'.cc)
   have s8 := World.ownsRow.stored s7.1 (k * 10 + 8) (.slice a'.sA ps[k].2.log.seats.length a'.sc)
   have s9 := World.ownsRow.stored s8.1 (k * 10 + 9) (.slice a'.eA ps[k].2.log.ents.length a'.ec)
   have hnext := setAll_push VtE.len qs (a', ps[k].2) zs ps.length (by rw [HL.out]; exact hlt) hlen
   rw [HL.out] at hnext
   have hP1 := HP.out.step hxr.size O2.out hx2
   have hA := hP1.apart
   go_roundw
   case rel => exact ⟨k + 1, qs ++ [(a', ps[k].2)], by omega, by go_num, HQ.out.next hlt a', ownsRow_congr s9.1 hnext, ((((((((((hP1).set hA _ _).set hA _ _).set hA _ _).set hA _ _).set hA _ _).set hA _ _).set hA _ _).set hA _ _).set hA _ _).set hA _ _, ext_set (ext_set (ext_set (ext_set (ext_set (ext_set (ext_set (ext_set (ext_set (ext_set (Ext.trans hxr hx2) hgB _) hgB _) hgB _) hgB _) hgB _) hgB _) hgB _) hgB _) hgB _) hgB _⟩
   case measure => simp [intOf]; omega
  ·have hkl : k = ps.length := by omega
   go_wp2
   go_ret
   subst hkl
   refine ⟨g, qs, HQ.out, rfl, ⟨?_, HP.out.l, by simpa [blk] using HP.out.nd, ?_⟩, hxr⟩
   ·unfold Ow
    rw [hql]
    refine ownsRow_congr hownk ?_
    rw [List.drop_eq_nil_of_le (by omega), List.append_nil]
   ·intro x hx
    rcases List.mem_append.1 hx with hx | hx
    ·simp [blk] at hx; omega
    ·obtain ⟨p, hp, hxp⟩ := List.mem_flatMap.1 hx
     exact (HP.out.l p hp).lt x hxp
end Go.Proofs.YtmphedkbdlckhaaGreat
