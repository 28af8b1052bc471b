/- The laws' own functions on images, logs, votes: how great they are, and made anew. -/
import Derived.Test.YtpghedeghoegmaaPk4
namespace Go.Proofs.Ytpghedeghoegmaa
open Go.ChangeShapes Go.WideShapes Go.ChangeAt Go.RowKit Go.Sort
set_option linter.unusedVariables false
set_option linter.unusedSimpArgs false

/-! ### made anew -/
end Go.Proofs.Ytpghedeghoegmaa

/- The laws' own functions on votes. -/
namespace Go.Proofs.Ytpghedeghoegmaa
open Go.ChangeShapes Go.WideShapes Go.ChangeAt Go.RowKit Go.Sort
set_option linter.unusedVariables false
set_option linter.unusedSimpArgs false

end Go.Proofs.Ytpghedeghoegmaa

/- The laws' own functions on logs and votes: equal. -/
namespace Go.Proofs.Ytpghedeghoegmaa
open Go.ChangeShapes Go.WideShapes Go.ChangeAt Go.RowKit Go.Sort
set_option linter.unusedVariables false
set_option linter.unusedSimpArgs false

def Lg.small (l : Lg) : Prop := l.cells.length ≤ 1048576 ∧ l.seats.length ≤ 1048576 ∧ l.ents.length ≤ 1048576

theorem c_eqImage_same (a b : LAd) (l : Lg) (hl : l.small) (w : World) (ha : LgR w a l) (hb : LgR w b l) :
    Calls Try.prog 83 #[.agg #[.slice a.cA l.cells.length a.cc, .slice a.sA l.seats.length a.sc], .agg #[.slice b.cA l.cells.length b.cc, .slice b.sA l.seats.length b.sc]] w fun e w' => e = .returned (.bool true) ∧ Ext w w' := by
  obtain ⟨hl1, hl2, hl3⟩ := hl
  have X0 : Ext w ((w.alloc (.cells #[.slice a.cA l.cells.length a.cc, .slice a.sA l.seats.length a.sc] 41)).alloc (.cells #[.slice b.cA l.cells.length b.cc, .slice b.sA l.seats.length b.sc] 41)) := ext_to (ext_alloc _ _) _
  have hcon := c_eqCellS a.cA b.cA a.cc b.cc l.cells l.cells _ (ha.1.keep X0) (hb.1.keep X0) (by omega) (by omega)
  rw [eqB_self] at hcon
  have hcon2 := fun W h1 h2 => c_eqSeatS a.sA b.sA a.sc b.sc l.seats l.seats W h1 h2 (by omega) (by omega)
  simp only [eqB_self] at hcon2
  go_enter Try.func83, Try.ntmps83
  go_wp2_with fail
  refine hcon.mono ?_
  rintro e w1 ⟨rfl, x1⟩
  have X1 := Ext.trans X0 x1
  have B1 := x1.box (hOld (o := .cells #[.slice b.cA l.cells.length b.cc, .slice b.sA l.seats.length b.sc] 41) (hNew (w := w) (o := .cells #[.slice a.cA l.cells.length a.cc, .slice a.sA l.seats.length a.sc] 41) rfl))
  have B2 := x1.box (hNew (w := w.alloc (.cells #[.slice a.cA l.cells.length a.cc, .slice a.sA l.seats.length a.sc] 41)) (o := .cells #[.slice b.cA l.cells.length b.cc, .slice b.sA l.seats.length b.sc] 41) rfl)
  rw [sz_alloc] at B2
  have b1 := bx_cell B1
  have b2 := bx_cell B2
  have hcon3 := hcon2 _ (ha.2.1.keep X1) (hb.2.1.keep X1)
  clear hcon hcon2 B1 B2
  go_wp2_with fail
  refine hcon3.mono ?_
  rintro e w2 ⟨rfl, x2⟩
  clear hcon3
  go_wp2
  go_ret
  exact ⟨rfl, Ext.trans X1 x2⟩

theorem c_eqLog_same (a b : LAd) (l : Lg) (hl : l.small) (w : World) (ha : LgR w a l) (hb : LgR w b l) :
    Calls Try.prog 43 #[.agg #[.int .i64 l.base, .slice a.cA l.cells.length a.cc, .slice a.sA l.seats.length a.sc, .slice a.eA l.ents.length a.ec], .agg #[.int .i64 l.base, .slice b.cA l.cells.length b.cc, .slice b.sA l.seats.length b.sc, .slice b.eA l.ents.length b.ec]] w fun e w' => e = .returned (.bool true) ∧ Ext w w' := by
  have hl' := Lib.hid hl
  obtain ⟨hl1, hl2, hl3⟩ := hl
  have X0 : Ext w ((w.alloc (.cells #[.int .i64 l.base, .slice a.cA l.cells.length a.cc, .slice a.sA l.seats.length a.sc, .slice a.eA l.ents.length a.ec] 44)).alloc (.cells #[.int .i64 l.base, .slice b.cA l.cells.length b.cc, .slice b.sA l.seats.length b.sc, .slice b.eA l.ents.length b.ec] 44)) := ext_to (ext_alloc _ _) _
  have hcon := c_eqImage_same a b l hl'.out _ (ha.keep X0) (hb.keep X0)
  have hcon2 := fun W h1 h2 => c_eqEntryS a.eA b.eA a.ec b.ec l.ents l.ents W h1 h2 (by omega) (by omega)
  simp only [eqB_self] at hcon2
  go_enter Try.func43, Try.ntmps43
  go_wp2_with fail
  refine hcon.mono ?_
  rintro e w1 ⟨rfl, x1⟩
  have X1 := Ext.trans X0 x1
  have B1 := x1.box (hOld (o := .cells #[.int .i64 l.base, .slice b.cA l.cells.length b.cc, .slice b.sA l.seats.length b.sc, .slice b.eA l.ents.length b.ec] 44) (hNew (w := w) (o := .cells #[.int .i64 l.base, .slice a.cA l.cells.length a.cc, .slice a.sA l.seats.length a.sc, .slice a.eA l.ents.length a.ec] 44) rfl))
  have B2 := x1.box (hNew (w := w.alloc (.cells #[.int .i64 l.base, .slice a.cA l.cells.length a.cc, .slice a.sA l.seats.length a.sc, .slice a.eA l.ents.length a.ec] 44)) (o := .cells #[.int .i64 l.base, .slice b.cA l.cells.length b.cc, .slice b.sA l.seats.length b.sc, .slice b.eA l.ents.length b.ec] 44) rfl)
  rw [sz_alloc] at B2
  have b1 := bx_cell B1
  have b2 := bx_cell B2
  have hcon3 := hcon2 _ (ha.2.2.keep X1) (hb.2.2.keep X1)
  clear hcon hcon2 B1 B2
  go_wp2_with fail
  refine hcon3.mono ?_
  rintro e w2 ⟨rfl, x2⟩
  clear hcon3
  go_wp2
  go_ret
  exact ⟨rfl, Ext.trans X1 x2⟩

/-- a vote as a value -/
abbrev VtE.val (a : LAd) (v : Vt) : Value := .agg #[.int .i64 v.kind, .int .i64 v.frm, .int .i64 v.view, .int .i64 v.normal, .int .i64 v.op, .int .i64 v.commit, .int .i64 v.log.base, .slice a.cA v.log.cells.length a.cc, .slice a.sA v.log.seats.length a.sc, .slice a.eA v.log.ents.length a.ec]

end Go.Proofs.Ytpghedeghoegmaa

/- The laws' toVoteS: the votes made anew, as the call's own. -/
namespace Go.Proofs.Ytpghedeghoegmaa
open Go.ChangeShapes Go.WideShapes Go.ChangeAt Go.RowKit Go.Sort
set_option linter.unusedVariables false
set_option linter.unusedSimpArgs false

abbrev Vt.zero : Value := .agg #[.int .i64 0, .int .i64 0, .int .i64 0, .int .i64 0, .int .i64 0, .int .i64 0, .int .i64 0, .slice none 0 0, .slice none 0 0, .slice none 0 0]
/-- the first votes of a row that is being made -/
structure VsP (w : World) (B g : Nat) (ps : List VtE) : Prop where
  l : ∀ p ∈ ps, LgO w B w.heap.size p.1 p.2.log
  nd : (g :: ps.flatMap (fun p => p.1.fp)).Nodup
  gl : g < w.heap.size
theorem VsP.set {w : World} {B g : Nat} {ps : List VtE} (h : VsP w B g ps) (hg : ∀ p ∈ ps, g ∉ p.1.fp) (o : Nat) (u : Value) : VsP (w.setCell ⟨g, o, none⟩ u) B g ps := by
  have hx : Chg w (w.setCell ⟨g, o, none⟩ u) [g] := ⟨rfl, rfl, rfl, Nat.le_of_eq (World.size_setCell ..).symm, fun k _ hn => Below.heap_setCell _ _ _ _ (fun he => hn (by simp [he]))⟩
  refine ⟨fun p hp => ?_, h.nd, by simpa using h.gl⟩
  rw [World.size_setCell]
  exact (h.l p hp).chg hx (fun k hk hm => by rw [List.mem_singleton] at hm; exact hg p hp (hm ▸ hk))
theorem VsP.apart {w : World} {B g : Nat} {ps : List VtE} (h : VsP w B g ps) : ∀ p ∈ ps, g ∉ p.1.fp := fun p hp hg => by
  have := h.nd
  rw [List.nodup_cons] at this
  exact this.1 (List.mem_flatMap.2 ⟨p, hp, hg⟩)

/-- the first k votes -/
def VsS (ps qs : List VtE) (k : Nat) : Prop := qs.map Prod.snd = (ps.take k).map Prod.snd
theorem VsS.length {ps qs : List VtE} {k : Nat} (h : VsS ps qs k) (hk : k ≤ ps.length) : qs.length = k := by
  have := congrArg List.length h
  simp at this
  omega
theorem VsS.next {ps qs : List VtE} {k : Nat} (h : VsS ps qs k) (hk : k < ps.length) (a : LAd) : VsS ps (qs ++ [(a, ps[k].2)]) (k + 1) := by
  unfold VsS at h ⊢
  rw [List.map_append, h, List.take_succ_eq_append_getElem hk, List.map_append]
  rfl
def LgS (ps : List VtE) : Prop := ∀ p ∈ ps, p.2.log.small

end Go.Proofs.Ytpghedeghoegmaa

/- The laws' own functions on images and logs: marked, held. -/
namespace Go.Proofs.Ytpghedeghoegmaa
open Go.ChangeShapes Go.WideShapes Go.ChangeAt Go.RowKit Go.Sort
set_option linter.unusedVariables false
set_option linter.unusedSimpArgs false

/-- the marks of a log -/
def Lg.mk' (k : Int) (b : Int) (l : Lg) : Lg := ⟨b, marksCel k l.cells.length, marksSea (k + 2 * l.cells.length) l.seats.length, marksEnt (k + 2 * l.cells.length + 3 * l.seats.length) l.ents.length⟩
/-- how many they are -/
def Lg.mN (l : Lg) : Int := 2 * l.cells.length + 3 * l.seats.length + 5 * l.ents.length
theorem Lg.mk_cells (k b : Int) (l : Lg) : (l.mk' k b).cells.length = l.cells.length := marksCel_length _ _
theorem Lg.mk_seats (k b : Int) (l : Lg) : (l.mk' k b).seats.length = l.seats.length := marksSea_length _ _
theorem Lg.mk_ents (k b : Int) (l : Lg) : (l.mk' k b).ents.length = l.ents.length := marksEnt_length _ _
theorem Lg.mN_pos (l : Lg) : 0 ≤ l.mN := by unfold Lg.mN; omega
theorem Lg.mN_small (l : Lg) (h : l.small) : l.mN ≤ 10485760 := by obtain ⟨a, b, c⟩ := h; unfold Lg.mN; omega

theorem LgO.nd1 {w : World} {B T : Nat} {a : LAd} {l : Lg} (h : LgO w B T a l) : ∀ k, k ∈ blk a.sA → k ∉ blk a.cA := fun k hk hc => by
  have := h.nd
  unfold LAd.fp at this
  rw [List.append_assoc, List.nodup_append] at this
  exact this.2.2 k hc k (by simp [hk]) rfl
theorem LgO.nd2 {w : World} {B T : Nat} {a : LAd} {l : Lg} (h : LgO w B T a l) : ∀ k, k ∈ blk a.eA → k ∉ blk a.cA := fun k hk hc => by
  have := h.nd
  unfold LAd.fp at this
  rw [List.append_assoc, List.nodup_append] at this
  exact this.2.2 k hc k (by simp [hk]) rfl
theorem LgO.nd3 {w : World} {B T : Nat} {a : LAd} {l : Lg} (h : LgO w B T a l) : ∀ k, k ∈ blk a.eA → k ∉ blk a.sA := fun k hk hc => by
  have := h.nd
  unfold LAd.fp at this
  rw [List.nodup_append] at this
  exact this.2.2 k (by simp [hc]) k hk rfl
theorem fp_c (a : LAd) : ∀ k, k ∈ blk a.cA → k ∈ a.fp := fun k h => by simp [LAd.fp, h]
theorem fp_s (a : LAd) : ∀ k, k ∈ blk a.sA → k ∈ a.fp := fun k h => by simp [LAd.fp, h]
theorem fp_e (a : LAd) : ∀ k, k ∈ blk a.eA → k ∈ a.fp := fun k h => by simp [LAd.fp, h]

/-- the three rows marked one behind the other, other blocks grown between -/
theorem LgO.marked {w v1 w1 v2 w2 v3 w3 : World} {B T : Nat} {a : LAd} {l : Lg} (k b : Int) (h : LgO w B T a l) (x1 : Ext w v1)
    (o1 : Ow Cel.enc 101 2 w1 B (.slice a.cA l.cells.length a.cc) (marksCel k l.cells.length)) (g1 : v1.grownBy w1 (Value.slice a.cA l.cells.length a.cc).ownBlock) (x2 : Ext w1 v2)
    (o2 : Ow Sea.enc 103 3 w2 B (.slice a.sA l.seats.length a.sc) (marksSea (k + 2 * l.cells.length) l.seats.length)) (g2 : v2.grownBy w2 (Value.slice a.sA l.seats.length a.sc).ownBlock) (x3 : Ext w2 v3)
    (o3 : Ow Ent.enc 105 5 w3 B (.slice a.eA l.ents.length a.ec) (marksEnt (k + 2 * l.cells.length + 3 * l.seats.length) l.ents.length)) (g3 : v3.grownBy w3 (Value.slice a.eA l.ents.length a.ec).ownBlock) :
    LgO w3 B T a (l.mk' k b) ∧ Chg w w3 a.fp := by
  have c1 := chg_grown g1
  have c2 := chg_grown g2
  have c3 := chg_grown g3
  have p1 := ((o1.kept x2).chg c2 (fun k hk hm => h.nd1 k hm hk)).kept x3 |>.chg c3 (fun k hk hm => h.nd2 k hm hk)
  have p2 := (o2.kept x3).chg c3 (fun k hk hm => h.nd3 k hm hk)
  refine ⟨⟨?_, ?_, ?_, h.nd, h.top⟩, ?_⟩
  · rw [Lg.mk_cells]; exact p1
  · rw [Lg.mk_seats]; exact p2
  · rw [Lg.mk_ents]; exact o3
  · exact (chg_ext _ x1).trans ((c1.more (fp_c a)).trans ((chg_ext _ x2).trans ((c2.more (fp_s a)).trans ((chg_ext _ x3).trans (c3.more (fp_e a))))))

theorem own_ne {α : Type} {enc : α → List Value} {e : TypeId} {sz : Nat} {w : World} {B : Nat} {A : Option Addr} {n c : Nat} {l : List α} (h : Ow enc e sz w B (.slice A n c) l) {k : Nat} (hk : w.heap.size ≤ k) : (Value.slice A n c).ownBlock ≠ some k := fun he => by
  have := (h.lt k he).2
  omega

set_option maxHeartbeats 1000000 in
theorem c_markImage (cA : Option Addr) (cc : Nat) (cs : List Cel) (sA : Option Addr) (sc : Nat) (ss : List Sea) (B : Nat) (k : Int) (w : World) (hc : Ow Cel.enc 101 2 w B (.slice cA cs.length cc) cs) (hs : Ow Sea.enc 103 3 w B (.slice sA ss.length sc) ss) (hd : ∀ k, k ∈ blk sA → k ∉ blk cA)
    (h0 : 0 ≤ k) (h1 : k ≤ 1073741824) (hn : cs.length ≤ 1048576) (hm : ss.length ≤ 1048576) :
    Calls Try.prog 85 #[.agg #[.slice cA cs.length cc, .slice sA ss.length sc], .int .i64 k] w fun e w' => e = .returned (.int .i64 (k + 2 * cs.length + 3 * ss.length)) ∧
      ∃ w1, Ow Cel.enc 101 2 w1 B (.slice cA cs.length cc) (marksCel k cs.length) ∧ (w.alloc (.cells #[.slice cA cs.length cc, .slice sA ss.length sc] 41)).grownBy w1 (Value.slice cA cs.length cc).ownBlock ∧
        Ow Sea.enc 103 3 w' B (.slice sA ss.length sc) (marksSea (k + 2 * cs.length) ss.length) ∧ w1.grownBy w' (Value.slice sA ss.length sc).ownBlock := by
  have X0 := ext_alloc w (.cells #[.slice cA cs.length cc, .slice sA ss.length sc] 41)
  have hc' := hc.kept X0
  have hs' := hs.kept X0
  have hne := own_ne hc (Nat.le_refl _)
  have HC := Lib.hid hc'
  have HS := Lib.hid hs'
  have HD := Lib.hid hd
  have HN := Lib.hid hne
  clear hc hs hc' hs' hd hne
  go_enter Try.func85, Try.ntmps85
  go_wp2_with fail
  refine (c_markCellS cA cc cs B k _ HC.out h0 (by omega) (by omega)).mono ?_
  rintro e w1 ⟨rfl, o1, g1⟩
  have B1 := box_beside (hNew (w := w) (o := .cells #[.slice cA cs.length cc, .slice sA ss.length sc] 41) rfl) g1 HN.out
  have b1 := bx_cell B1
  have f1 := bx_frozen B1
  have z1 := bx_lt B1
  have hs1 := HS.out.chg (chg_grown g1) HD.out
  have O1 := Lib.hid o1
  have G1 := Lib.hid g1
  have HS1 := Lib.hid hs1
  clear o1 g1 hs1 B1
  go_wp2_with fail
  refine (c_markSeatS sA sc ss B (k + 2 * cs.length) _ HS1.out (by omega) (by omega) (by omega)).mono ?_
  rintro e w2 ⟨rfl, o2, g2⟩
  have O2 := Lib.hid o2
  have G2 := Lib.hid g2
  clear o2 g2
  go_wp2
  go_ret
  exact ⟨rfl, w1, O1.out, G1.out, O2.out, G2.out⟩

abbrev Lg.val (a : LAd) (l : Lg) : Value := .agg #[.int .i64 l.base, .slice a.cA l.cells.length a.cc, .slice a.sA l.seats.length a.sc, .slice a.eA l.ents.length a.ec]
abbrev Lg.obj (a : LAd) (l : Lg) : Obj := .cells #[.int .i64 l.base, .slice a.cA l.cells.length a.cc, .slice a.sA l.seats.length a.sc, .slice a.eA l.ents.length a.ec] 44

set_option maxHeartbeats 1000000 in
theorem c_markLog (a : LAd) (l : Lg) (B T : Nat) (k : Int) (w : World) (h : LgO w B T a l) (h0 : 0 ≤ k) (h1 : k ≤ 1000000000) (hs : l.small) :
    Calls Try.prog 44 #[Lg.val a l, .int .i64 k] w fun e w' => e = .returned (.int .i64 (k + l.mN)) ∧ LgO w' B T a (l.mk' k l.base) ∧ Chg w w' a.fp := by
  obtain ⟨s1, s2, s3⟩ := hs
  have H := Lib.hid h
  have X0 := ext_alloc w (Lg.obj a l)
  have HC := Lib.hid (h.c.kept X0)
  have HS := Lib.hid (h.s.kept X0)
  have HE := Lib.hid h.e
  have HM := Lib.hid (show k + 2 * (l.cells.length : Int) + 3 * l.seats.length + 5 * l.ents.length = k + l.mN by unfold Lg.mN; omega)
  clear h
  go_enter Try.func44, Try.ntmps44
  go_wp2_with fail
  refine (c_markImage a.cA a.cc l.cells a.sA a.sc l.seats B k _ HC.out HS.out H.out.nd1 h0 (by omega) s1 s2).mono ?_
  rintro e w2 ⟨rfl, w1, o1, g1, o2, g2⟩
  have X1 := Ext.trans X0 (ext_alloc _ (.cells #[.slice a.cA l.cells.length a.cc, .slice a.sA l.seats.length a.sc] 41))
  have B0 := hNew (w := w) (o := Lg.obj a l) rfl
  have B1 := box_beside (box_beside (hOld (o := .cells #[.slice a.cA l.cells.length a.cc, .slice a.sA l.seats.length a.sc] 41) B0) g1 (own_ne (H.out.c) (Nat.le_refl _))) g2 (own_ne (H.out.s) (Nat.le_refl _))
  have b1 := bx_cell B1
  have f1 := bx_frozen B1
  have z1 := bx_lt B1
  have he := ((HE.out.kept X1).chg (chg_grown g1) H.out.nd2).chg (chg_grown g2) H.out.nd3
  have O1 := Lib.hid o1
  have G1 := Lib.hid g1
  have O2 := Lib.hid o2
  have G2 := Lib.hid g2
  have HE1 := Lib.hid he
  have HX1 := Lib.hid X1
  clear o1 g1 o2 g2 he B0 B1 X0 X1
  go_wp2_with fail
  refine (c_markEntryS a.eA a.ec l.ents B (k + 2 * l.cells.length + 3 * l.seats.length) _ HE1.out (by omega) (by omega) (by omega)).mono ?_
  rintro e w3 ⟨rfl, o3, g3⟩
  have HL := Lib.hid (H.out.marked k l.base HX1.out O1.out G1.out (ext_refl _) O2.out G2.out (ext_refl _) o3 g3)
  clear o3 g3
  go_wp2
  go_ret
  exact ⟨ret_int HM.out, HL.out.1, HL.out.2⟩

theorem c_heldImage (cA : Option Addr) (cc : Nat) (cn : Nat) (sA : Option Addr) (sc : Nat) (sn : Nat) (k : Int) (w : World) (hc : Rd Cel.enc 2 w cA cc (marksCel k cn)) (hs : Rd Sea.enc 3 w sA sc (marksSea (k + 2 * cn) sn))
    (h0 : 0 ≤ k) (h1 : k ≤ 1073741824) (hn : cn ≤ 1048576) (hm : sn ≤ 1048576) :
    Calls Try.prog 92 #[.agg #[.slice cA cn cc, .slice sA sn sc], .int .i64 k] w fun e w' => e = .returned (.int .i64 (k + 2 * cn + 3 * sn)) ∧ Ext w w' := by
  have X0 := ext_alloc w (.cells #[.slice cA cn cc, .slice sA sn sc] 41)
  have HC := Lib.hid (hc.keep X0)
  have HS := Lib.hid hs
  clear hc hs
  have g1 : decide (k + 2 * (cn : Int) < 0) = false := by simp; omega
  have g2 : decide (k + 2 * (cn : Int) + 3 * sn < 0) = false := by simp; omega
  go_enter Try.func92, Try.ntmps92
  go_wp2_with fail
  refine (c_heldCellS cA cc cn k _ HC.out h0 (by omega) (by omega)).mono ?_
  rintro e w1 ⟨rfl, x1⟩
  have B1 := x1.box (hNew (w := w) (o := .cells #[.slice cA cn cc, .slice sA sn sc] 41) rfl)
  have b1 := bx_cell B1
  have f1 := bx_frozen B1
  have z1 := bx_lt B1
  have X1 := Ext.trans X0 x1
  have HS1 := Lib.hid (HS.out.keep X1)
  clear B1 X0
  go_wp2_with fail
  refine (c_heldSeatS sA sc sn (k + 2 * cn) _ HS1.out (by omega) (by omega) (by omega)).mono ?_
  rintro e w2 ⟨rfl, x2⟩
  go_wp2
  go_ret
  exact ⟨rfl, Ext.trans X1 x2⟩

set_option maxHeartbeats 1000000 in
theorem c_heldLog (a : LAd) (b : Int) (l : Lg) (k : Int) (w : World) (h : LgR w a (l.mk' k b)) (h0 : 0 ≤ k) (h1 : k ≤ 1000000000) (hs : l.small) :
    Calls Try.prog 53 #[.agg #[.int .i64 b, .slice a.cA l.cells.length a.cc, .slice a.sA l.seats.length a.sc, .slice a.eA l.ents.length a.ec], .int .i64 k] w fun e w' => e = .returned (.int .i64 (k + l.mN)) ∧ Ext w w' := by
  obtain ⟨s1, s2, s3⟩ := hs
  have X0 := ext_alloc w (.cells #[.int .i64 b, .slice a.cA l.cells.length a.cc, .slice a.sA l.seats.length a.sc, .slice a.eA l.ents.length a.ec] 44)
  obtain ⟨hc, hs, he⟩ := h
  have HC := Lib.hid (hc.keep X0)
  have HS := Lib.hid (hs.keep X0)
  have HE := Lib.hid he
  have HM := Lib.hid (show k + 2 * (l.cells.length : Int) + 3 * l.seats.length + 5 * l.ents.length = k + l.mN by unfold Lg.mN; omega)
  have g1 : decide (k + 2 * (l.cells.length : Int) + 3 * l.seats.length < 0) = false := by simp; omega
  have g2 : decide (k + 2 * (l.cells.length : Int) + 3 * l.seats.length + 5 * l.ents.length < 0) = false := by simp; omega
  clear hc hs he
  go_enter Try.func53, Try.ntmps53
  go_wp2_with fail
  refine (c_heldImage a.cA a.cc l.cells.length a.sA a.sc l.seats.length k _ HC.out HS.out h0 (by omega) s1 s2).mono ?_
  rintro e w1 ⟨rfl, x1⟩
  have B1 := x1.box (hNew (w := w) (o := .cells #[.int .i64 b, .slice a.cA l.cells.length a.cc, .slice a.sA l.seats.length a.sc, .slice a.eA l.ents.length a.ec] 44) rfl)
  have b1 := bx_cell B1
  have f1 := bx_frozen B1
  have z1 := bx_lt B1
  have X1 := Ext.trans X0 x1
  have HE1 := Lib.hid (HE.out.keep X1)
  clear B1 X0
  go_wp2_with fail
  refine (c_heldEntryS a.eA a.ec l.ents.length (k + 2 * l.cells.length + 3 * l.seats.length) _ HE1.out (by omega) (by omega) (by omega)).mono ?_
  rintro e w2 ⟨rfl, x2⟩
  go_wp2
  go_ret
  exact ⟨ret_int HM.out, Ext.trans X1 x2⟩
end Go.Proofs.Ytpghedeghoegmaa

