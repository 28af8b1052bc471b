/- The laws' own functions on logs and votes: equal. -/
import Derived.Test.YtmpjokdidomafaaGreatDv
namespace Go.Proofs.YtmpjokdidomafaaGreat
open Go.ChangeShapes Go.WideShapes Go.ChangeAt Go.RowKit Go.Sort
set_option linter.unusedVariables false
set_option linter.unusedSimpArgs false

def Lg.small (l : Lg) : Prop := l.cells.length ≤ 1048576 ∧ l.seats.length ≤ 1048576 ∧ l.ents.length ≤ 1048576

theorem c_eqImage_same (a b : LAd) (l : Lg) (hl : l.small) (w : World) (ha : LgR w a l) (hb : LgR w b l) :
    Calls Tryz.prog 19 #[.agg #[.slice a.cA l.cells.length a.cc, .slice a.sA l.seats.length a.sc], .agg #[.slice b.cA l.cells.length b.cc, .slice b.sA l.seats.length b.sc]] w fun e w' => e = .returned (.bool true) ∧ Ext w w' := by
  obtain ⟨hl1, hl2, hl3⟩ := hl
  have X0 : Ext w ((w.alloc (.cells #[.slice a.cA l.cells.length a.cc, .slice a.sA l.seats.length a.sc] 36)).alloc (.cells #[.slice b.cA l.cells.length b.cc, .slice b.sA l.seats.length b.sc] 36)) := ext_to (ext_alloc _ _) _
  have hcon := c_eqCellS a.cA b.cA a.cc b.cc l.cells l.cells _ (ha.1.keep X0) (hb.1.keep X0) (by omega) (by omega)
  rw [eqB_self] at hcon
  have hcon2 := fun W h1 h2 => c_eqSeatS a.sA b.sA a.sc b.sc l.seats l.seats W h1 h2 (by omega) (by omega)
  simp only [eqB_self] at hcon2
  go_enter Tryz.func19, Tryz.ntmps19
  go_wp2_with fail
  refine hcon.mono ?_
  rintro e w1 ⟨rfl, x1⟩
  have X1 := Ext.trans X0 x1
  have B1 := x1.box (hOld (o := .cells #[.slice b.cA l.cells.length b.cc, .slice b.sA l.seats.length b.sc] 36) (hNew (w := w) (o := .cells #[.slice a.cA l.cells.length a.cc, .slice a.sA l.seats.length a.sc] 36) rfl))
  have B2 := x1.box (hNew (w := w.alloc (.cells #[.slice a.cA l.cells.length a.cc, .slice a.sA l.seats.length a.sc] 36)) (o := .cells #[.slice b.cA l.cells.length b.cc, .slice b.sA l.seats.length b.sc] 36) rfl)
  rw [sz_alloc] at B2
  have b1 := bx_cell B1
  have b2 := bx_cell B2
  have hcon3 := hcon2 _ (ha.2.1.keep X1) (hb.2.1.keep X1)
  clear hcon hcon2 B1 B2
  go_wp2_with fail
  refine hcon3.mono ?_
  rintro e w2 ⟨rfl, x2⟩
  clear hcon3
  go_wp2
  go_ret
  exact ⟨rfl, Ext.trans X1 x2⟩

theorem c_eqLog_same (a b : LAd) (l : Lg) (hl : l.small) (w : World) (ha : LgR w a l) (hb : LgR w b l) :
    Calls Tryz.prog 40 #[.agg #[.int .i64 l.base, .slice a.cA l.cells.length a.cc, .slice a.sA l.seats.length a.sc, .slice a.eA l.ents.length a.ec], .agg #[.int .i64 l.base, .slice b.cA l.cells.length b.cc, .slice b.sA l.seats.length b.sc, .slice b.eA l.ents.length b.ec]] w fun e w' => e = .returned (.bool true) ∧ Ext w w' := by
  have hl' := Lib.hid hl
  obtain ⟨hl1, hl2, hl3⟩ := hl
  have X0 : Ext w ((w.alloc (.cells #[.int .i64 l.base, .slice a.cA l.cells.length a.cc, .slice a.sA l.seats.length a.sc, .slice a.eA l.ents.length a.ec] 39)).alloc (.cells #[.int .i64 l.base, .slice b.cA l.cells.length b.cc, .slice b.sA l.seats.length b.sc, .slice b.eA l.ents.length b.ec] 39)) := ext_to (ext_alloc _ _) _
  have hcon := c_eqImage_same a b l hl'.out _ (ha.keep X0) (hb.keep X0)
  have hcon2 := fun W h1 h2 => c_eqEntryS a.eA b.eA a.ec b.ec l.ents l.ents W h1 h2 (by omega) (by omega)
  simp only [eqB_self] at hcon2
  go_enter Tryz.func40, Tryz.ntmps40
  go_wp2_with fail
  refine hcon.mono ?_
  rintro e w1 ⟨rfl, x1⟩
  have X1 := Ext.trans X0 x1
  have B1 := x1.box (hOld (o := .cells #[.int .i64 l.base, .slice b.cA l.cells.length b.cc, .slice b.sA l.seats.length b.sc, .slice b.eA l.ents.length b.ec] 39) (hNew (w := w) (o := .cells #[.int .i64 l.base, .slice a.cA l.cells.length a.cc, .slice a.sA l.seats.length a.sc, .slice a.eA l.ents.length a.ec] 39) rfl))
  have B2 := x1.box (hNew (w := w.alloc (.cells #[.int .i64 l.base, .slice a.cA l.cells.length a.cc, .slice a.sA l.seats.length a.sc, .slice a.eA l.ents.length a.ec] 39)) (o := .cells #[.int .i64 l.base, .slice b.cA l.cells.length b.cc, .slice b.sA l.seats.length b.sc, .slice b.eA l.ents.length b.ec] 39) rfl)
  rw [sz_alloc] at B2
  have b1 := bx_cell B1
  have b2 := bx_cell B2
  have hcon3 := hcon2 _ (ha.2.2.keep X1) (hb.2.2.keep X1)
  clear hcon hcon2 B1 B2
  go_wp2_with fail
  refine hcon3.mono ?_
  rintro e w2 ⟨rfl, x2⟩
  clear hcon3
  go_wp2
  go_ret
  exact ⟨rfl, Ext.trans X1 x2⟩

/-- a vote as a value -/
abbrev VtE.val (a : LAd) (v : Vt) : Value := .agg #[.int .i64 v.kind, .int .i64 v.frm, .int .i64 v.view, .int .i64 v.normal, .int .i64 v.op, .int .i64 v.commit, .int .i64 v.log.base, .slice a.cA v.log.cells.length a.cc, .slice a.sA v.log.seats.length a.sc, .slice a.eA v.log.ents.length a.ec]

theorem c_eqVote_same (a b : LAd) (v : Vt) (hl : v.log.small) (w : World) (ha : LgR w a v.log) (hb : LgR w b v.log) :
    Calls Tryz.prog 89 #[VtE.val a v, VtE.val b v] w fun e w' => e = .returned (.bool true) ∧ Ext w w' := by
  have X0 : Ext w ((w.alloc (.cells #[.int .i64 v.kind, .int .i64 v.frm, .int .i64 v.view, .int .i64 v.normal, .int .i64 v.op, .int .i64 v.commit, .int .i64 v.log.base, .slice a.cA v.log.cells.length a.cc, .slice a.sA v.log.seats.length a.sc, .slice a.eA v.log.ents.length a.ec] 111)).alloc (.cells #[.int .i64 v.kind, .int .i64 v.frm, .int .i64 v.view, .int .i64 v.normal, .int .i64 v.op, .int .i64 v.commit, .int .i64 v.log.base, .slice b.cA v.log.cells.length b.cc, .slice b.sA v.log.seats.length b.sc, .slice b.eA v.log.ents.length b.ec] 111)) := ext_to (ext_alloc _ _) _
  have hcon := c_eqLog_same a b v.log hl _ (ha.keep X0) (hb.keep X0)
  clear hl
  go_enter Tryz.func89, Tryz.ntmps89
  go_wp2_with fail
  refine hcon.mono ?_
  rintro e w1 ⟨rfl, x1⟩
  clear hcon
  go_wp2
  go_ret
  exact ⟨rfl, Ext.trans X0 x1⟩

set_option maxHeartbeats 1000000 in
theorem c_eqVoteS_same (A B : Option Addr) (ca cb : Nat) (ps qs : List VtE) (hpq : ps.map Prod.snd = qs.map Prod.snd) (hs : ∀ p ∈ ps, p.2.log.small) (w : World) (ha : VsR w A ca ps) (hb : VsR w B cb qs) (hn : ps.length ≤ 1048576) :
    Calls Tryz.prog 41 #[.slice A ps.length ca, .slice B qs.length cb] w fun e w' => e = .returned (.bool true) ∧ Ext w w' := by
  have hl : ps.length = qs.length := by simpa using congrArg List.length hpq
  have hat : ∀ (k : Nat) (h : k < ps.length) (h' : k < qs.length), ps[k].2 = qs[k].2 := fun k h h' => by
    have := congrArg (fun l => l[k]?) hpq
    simp [h, h'] at this
    exact this
  rw [← hl]
  have HL := Lib.hid hl
  have HA := Lib.hid hat
  have HS := Lib.hid hs
  clear hl hpq hat hs
  go_enter Tryz.func41, Tryz.ntmps41
  go_wp2
  go_loopw [5] (fun i wr => ∃ k : Nat, k ≤ ps.length ∧ i = .int .i64 k ∧ Ext w wr) (fun i _ => ps.length - (intOf i).toNat)
  case atStart => exact ⟨0, Nat.zero_le _, rfl, ext_refl _⟩
  case round =>
    obtain ⟨k, hk, rfl, hx⟩ := hrel
    by_cases hlt : k < ps.length
    · have hltb : k < qs.length := by have := HL.out; omega
      obtain ⟨ab, ao, rfl, hab, a0, a1, a2, a3, a4, a5, a6, a7, a8, a9⟩ := (ha.1.keep hx).atVtE hlt
      obtain ⟨bb, bo, hB, hbb, b0, b1, b2, b3, b4, b5, b6, b7, b8, b9⟩ := (hb.1.keep hx).atVtE hltb
      have hr1 := (ha.keep hx).2 ps[k] (List.getElem_mem hlt)
      have hr2 := (hb.keep hx).2 qs[k] (List.getElem_mem hltb)
      have hsm := Lib.hid (HS.out ps[k] (List.getElem_mem hlt))
      have he := HA.out k hlt hltb
      rw [← he] at b0 b1 b2 b3 b4 b5 b6 b7 b8 b9 hr2
      rw [HL.out] at *
      subst hB
      clear he
      have hcon := fun W (h : Ext wr W) => c_eqVote_same ps[k].1 qs[k].1 ps[k].2 hsm.out W (hr1.keep h) (hr2.keep h)
      have HC := Lib.hid hcon
      clear hcon hr1 hr2
      go_wp2
      (refine wp_region_mix' (fun _ _ _ _ _ hq => hq) 10 (by kernel_rfl) (by kernel_rfl) (fun hg => ?_); simp only [headOps, List.take_succ_cons, List.take_zero, List.filter_cons, List.filter_nil, isAlloc, Bool.not_false, Bool.false_eq_true, if_true, if_false, List.append_nil, List.drop_succ_cons, List.drop_zero])
      (repeat (refine wpMix_plain rfl rfl ?_; go_big_quiet_step (fail); refine wpQuiet_nil ?_))
      (refine wpMix_det rfl rfl rfl (enters Tryz.func89 (by kernel_rfl) rfl) (fun W hW => HC.out W hW) rfl ?_; simp only [Act.put, List.setIfInBounds_toArray, List.set_cons_zero, List.set_cons_succ])
      (repeat (refine wpMix_plain rfl rfl ?_; go_big_quiet_step (fail); refine wpQuiet_nil ?_))
      refine wpMix_nil ?_
      intro w2 hx2
      go_wp2
      go_roundw
      case rel => exact ⟨k + 1, by omega, by go_num, Ext.trans hx hx2⟩
      case measure => simp [intOf]; omega
    · go_wp2
      go_ret
      exact ⟨rfl, hx⟩
end Go.Proofs.YtmpjokdidomafaaGreat
