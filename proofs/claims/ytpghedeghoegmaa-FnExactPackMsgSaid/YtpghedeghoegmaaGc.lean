/- The laws' own functions on logs and votes: equal. -/
import Derived.Test.YtpghedeghoegmaaDv
namespace Go.Proofs.Ytpghedeghoegmaa
open Go.ChangeShapes Go.WideShapes Go.ChangeAt Go.RowKit Go.Sort
set_option linter.unusedVariables false
set_option linter.unusedSimpArgs false

def Lg.small (l : Lg) : Prop := l.cells.length ≤ 1048576 ∧ l.seats.length ≤ 1048576 ∧ l.ents.length ≤ 1048576

theorem c_eqImage_same (a b : LAd) (l : Lg) (hl : l.small) (w : World) (ha : LgR w a l) (hb : LgR w b l) :
    Calls Try.prog 83 #[.agg #[.slice a.cA l.cells.length a.cc, .slice a.sA l.seats.length a.sc], .agg #[.slice b.cA l.cells.length b.cc, .slice b.sA l.seats.length b.sc]] w fun e w' => e = .returned (.bool true) ∧ Ext w w' := by
  obtain ⟨hl1, hl2, hl3⟩ := hl
  have X0 : Ext w ((w.alloc (.cells #[.slice a.cA l.cells.length a.cc, .slice a.sA l.seats.length a.sc] 41)).alloc (.cells #[.slice b.cA l.cells.length b.cc, .slice b.sA l.seats.length b.sc] 41)) := ext_to (ext_alloc _ _) _
  have hcon := c_eqCellS a.cA b.cA a.cc b.cc l.cells l.cells _ (ha.1.keep X0) (hb.1.keep X0) (by omega) (by omega)
  rw [eqB_self] at hcon
  have hcon2 := fun W h1 h2 => c_eqSeatS a.sA b.sA a.sc b.sc l.seats l.seats W h1 h2 (by omega) (by omega)
  simp only [eqB_self] at hcon2
  go_enter Try.func83, Try.ntmps83
  go_wp2_with fail
  refine hcon.mono ?_
  rintro e w1 ⟨rfl, x1⟩
  have X1 := Ext.trans X0 x1
  have B1 := x1.box (hOld (o := .cells #[.slice b.cA l.cells.length b.cc, .slice b.sA l.seats.length b.sc] 41) (hNew (w := w) (o := .cells #[.slice a.cA l.cells.length a.cc, .slice a.sA l.seats.length a.sc] 41) rfl))
  have B2 := x1.box (hNew (w := w.alloc (.cells #[.slice a.cA l.cells.length a.cc, .slice a.sA l.seats.length a.sc] 41)) (o := .cells #[.slice b.cA l.cells.length b.cc, .slice b.sA l.seats.length b.sc] 41) rfl)
  rw [sz_alloc] at B2
  have b1 := bx_cell B1
  have b2 := bx_cell B2
  have hcon3 := hcon2 _ (ha.2.1.keep X1) (hb.2.1.keep X1)
  clear hcon hcon2 B1 B2
  go_wp2_with fail
  refine hcon3.mono ?_
  rintro e w2 ⟨rfl, x2⟩
  clear hcon3
  go_wp2
  go_ret
  exact ⟨rfl, Ext.trans X1 x2⟩

theorem c_eqLog_same (a b : LAd) (l : Lg) (hl : l.small) (w : World) (ha : LgR w a l) (hb : LgR w b l) :
    Calls Try.prog 43 #[.agg #[.int .i64 l.base, .slice a.cA l.cells.length a.cc, .slice a.sA l.seats.length a.sc, .slice a.eA l.ents.length a.ec], .agg #[.int .i64 l.base, .slice b.cA l.cells.length b.cc, .slice b.sA l.seats.length b.sc, .slice b.eA l.ents.length b.ec]] w fun e w' => e = .returned (.bool true) ∧ Ext w w' := by
  have hl' := Lib.hid hl
  obtain ⟨hl1, hl2, hl3⟩ := hl
  have X0 : Ext w ((w.alloc (.cells #[.int .i64 l.base, .slice a.cA l.cells.length a.cc, .slice a.sA l.seats.length a.sc, .slice a.eA l.ents.length a.ec] 44)).alloc (.cells #[.int .i64 l.base, .slice b.cA l.cells.length b.cc, .slice b.sA l.seats.length b.sc, .slice b.eA l.ents.length b.ec] 44)) := ext_to (ext_alloc _ _) _
  have hcon := c_eqImage_same a b l hl'.out _ (ha.keep X0) (hb.keep X0)
  have hcon2 := fun W h1 h2 => c_eqEntryS a.eA b.eA a.ec b.ec l.ents l.ents W h1 h2 (by omega) (by omega)
  simp only [eqB_self] at hcon2
  go_enter Try.func43, Try.ntmps43
  go_wp2_with fail
  refine hcon.mono ?_
  rintro e w1 ⟨rfl, x1⟩
  have X1 := Ext.trans X0 x1
  have B1 := x1.box (hOld (o := .cells #[.int .i64 l.base, .slice b.cA l.cells.length b.cc, .slice b.sA l.seats.length b.sc, .slice b.eA l.ents.length b.ec] 44) (hNew (w := w) (o := .cells #[.int .i64 l.base, .slice a.cA l.cells.length a.cc, .slice a.sA l.seats.length a.sc, .slice a.eA l.ents.length a.ec] 44) rfl))
  have B2 := x1.box (hNew (w := w.alloc (.cells #[.int .i64 l.base, .slice a.cA l.cells.length a.cc, .slice a.sA l.seats.length a.sc, .slice a.eA l.ents.length a.ec] 44)) (o := .cells #[.int .i64 l.base, .slice b.cA l.cells.length b.cc, .slice b.sA l.seats.length b.sc, .slice b.eA l.ents.length b.ec] 44) rfl)
  rw [sz_alloc] at B2
  have b1 := bx_cell B1
  have b2 := bx_cell B2
  have hcon3 := hcon2 _ (ha.2.2.keep X1) (hb.2.2.keep X1)
  clear hcon hcon2 B1 B2
  go_wp2_with fail
  refine hcon3.mono ?_
  rintro e w2 ⟨rfl, x2⟩
  clear hcon3
  go_wp2
  go_ret
  exact ⟨rfl, Ext.trans X1 x2⟩

/-- a vote as a value -/
abbrev VtE.val (a : LAd) (v : Vt) : Value := .agg #[.int .i64 v.kind, .int .i64 v.frm, .int .i64 v.view, .int .i64 v.normal, .int .i64 v.op, .int .i64 v.commit, .int .i64 v.log.base, .slice a.cA v.log.cells.length a.cc, .slice a.sA v.log.seats.length a.sc, .slice a.eA v.log.ents.length a.ec]

end Go.Proofs.Ytpghedeghoegmaa

/- The laws' toVoteS: the votes made anew, as the call's own. -/
namespace Go.Proofs.Ytpghedeghoegmaa
open Go.ChangeShapes Go.WideShapes Go.ChangeAt Go.RowKit Go.Sort
set_option linter.unusedVariables false
set_option linter.unusedSimpArgs false

abbrev Vt.zero : Value := .agg #[.int .i64 0, .int .i64 0, .int .i64 0, .int .i64 0, .int .i64 0, .int .i64 0, .int .i64 0, .slice none 0 0, .slice none 0 0, .slice none 0 0]
/-- the first votes of a row that is being made -/
structure VsP (w : World) (B g : Nat) (ps : List VtE) : Prop where
  l : ∀ p ∈ ps, LgO w B w.heap.size p.1 p.2.log
  nd : (g :: ps.flatMap (fun p => p.1.fp)).Nodup
  gl : g < w.heap.size
theorem VsP.step {w w' : World} {B g : Nat} {ps : List VtE} {a : LAd} {v : Vt} (h : VsP w B g ps) (hB : B ≤ w.heap.size) (ho : LgO w' w.heap.size w'.heap.size a v.log) (hx : Ext w w') : VsP w' B g (ps ++ [(a, v)]) := by
  have hs := hx.size
  refine ⟨fun p hp => ?_, ?_, by have := h.gl; omega⟩
  · rcases List.mem_append.1 hp with hp | hp
    · exact ((h.l p hp).kept hx).wide (Nat.le_refl _) hs
    · rw [List.mem_singleton] at hp
      subst hp
      exact ho.wide hB (Nat.le_refl _)
  · have hn := h.nd
    simp only [List.flatMap_append, List.flatMap_cons, List.flatMap_nil, List.append_nil]
    rw [← List.cons_append, List.nodup_append]
    refine ⟨hn, ho.nd, fun x hx1 y hy he => ?_⟩
    subst he
    have lo := ho.low x hy
    rcases List.mem_cons.1 hx1 with rfl | hx1
    · have := h.gl; omega
    · obtain ⟨p, hp, hxp⟩ := List.mem_flatMap.1 hx1
      have := (h.l p hp).lt x hxp
      omega

theorem VtE.enc_cells (p : VtE) (j : Nat) : p.enc[j]? = (#[.int .i64 p.2.kind, .int .i64 p.2.frm, .int .i64 p.2.view, .int .i64 p.2.normal, .int .i64 p.2.op, .int .i64 p.2.commit, .int .i64 p.2.log.base, .slice p.1.cA p.2.log.cells.length p.1.cc, .slice p.1.sA p.2.log.seats.length p.1.sc, .slice p.1.eA p.2.log.ents.length p.1.ec] : Array Value)[j]? := by simp [VtE.enc]
theorem VsP.set {w : World} {B g : Nat} {ps : List VtE} (h : VsP w B g ps) (hg : ∀ p ∈ ps, g ∉ p.1.fp) (o : Nat) (u : Value) : VsP (w.setCell ⟨g, o, none⟩ u) B g ps := by
  have hx : Chg w (w.setCell ⟨g, o, none⟩ u) [g] := ⟨rfl, rfl, rfl, Nat.le_of_eq (World.size_setCell ..).symm, fun k _ hn => Below.heap_setCell _ _ _ _ (fun he => hn (by simp [he]))⟩
  refine ⟨fun p hp => ?_, h.nd, by simpa using h.gl⟩
  rw [World.size_setCell]
  exact (h.l p hp).chg hx (fun k hk hm => by rw [List.mem_singleton] at hm; exact hg p hp (hm ▸ hk))
theorem VsP.apart {w : World} {B g : Nat} {ps : List VtE} (h : VsP w B g ps) : ∀ p ∈ ps, g ∉ p.1.fp := fun p hp hg => by
  have := h.nd
  rw [List.nodup_cons] at this
  exact this.1 (List.mem_flatMap.2 ⟨p, hp, hg⟩)

theorem setAll_push {α : Type} {enc : α → List Value} {sz : Nat} (hsz : ∀ x, (enc x).length = sz) (ps : List α) (x : α) (zs : List Value) (n : Nat) (hk : ps.length < n) (hz : zs.length = n * sz) :
    setAll (ps.flatMap enc ++ zs.drop (ps.length * sz)) (ps.length * sz) (enc x) = (ps ++ [x]).flatMap enc ++ zs.drop ((ps.length + 1) * sz) := by
  have hn : ps.length + (n - ps.length) = n := by omega
  have h := setAll_next hsz (ps ++ List.replicate (n - ps.length) x) zs ps.length (by simp; omega) (by simp [hz, hn])
  obtain ⟨m, hm⟩ : ∃ m, n - ps.length = m + 1 := ⟨n - ps.length - 1, by omega⟩
  have h1 : (ps ++ List.replicate (n - ps.length) x).take ps.length = ps := by rw [List.take_left']; rfl
  have h2 : (ps ++ List.replicate (n - ps.length) x).take (ps.length + 1) = ps ++ [x] := by
    rw [hm, List.replicate_succ, List.take_append]
    simp
    exact List.take_of_length_le (by omega)
  rw [h1, h2] at h
  simpa using h

/-- the first k votes -/
def VsS (ps qs : List VtE) (k : Nat) : Prop := qs.map Prod.snd = (ps.take k).map Prod.snd
theorem VsS.length {ps qs : List VtE} {k : Nat} (h : VsS ps qs k) (hk : k ≤ ps.length) : qs.length = k := by
  have := congrArg List.length h
  simp at this
  omega
theorem VsS.next {ps qs : List VtE} {k : Nat} (h : VsS ps qs k) (hk : k < ps.length) (a : LAd) : VsS ps (qs ++ [(a, ps[k].2)]) (k + 1) := by
  unfold VsS at h ⊢
  rw [List.map_append, h, List.take_succ_eq_append_getElem hk, List.map_append]
  rfl
def LgS (ps : List VtE) : Prop := ∀ p ∈ ps, p.2.log.small

end Go.Proofs.Ytpghedeghoegmaa
