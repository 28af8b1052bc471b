/- The laws' own functions on messages and replicas. -/
import Derived.Test.YtmphedkbdlckhaaGreatPk7
import Derived.Test.YtmphedkbdlckhaaGreatPk8
import Derived.Test.YtmphedkbdlckhaaGreatPk9
namespace Go.Proofs.YtmphedkbdlckhaaGreat
open Go.ChangeShapes Go.WideShapes Go.ChangeAt Go.RowKit Go.Sort
set_option linter.unusedVariables false
set_option linter.unusedSimpArgs false
abbrev Mg.val (a : LAd) (m : Mg) : Value := .agg #[.int .i64 m.kind, .int .i64 m.frm, .int .i64 m.view, .int .i64 m.op, .int .i64 m.commit, .int .i64 m.normal, .int .i64 m.nonce, .int .i64 m.client, .int .i64 m.req, .int .i64 m.answer, .int .i64 m.ck, .int .i64 m.cx, .int .i64 m.cv, .int .i64 m.log.base, .slice a.cA m.log.cells.length a.cc, .slice a.sA m.log.seats.length a.sc, .slice a.eA m.log.ents.length a.ec]
abbrev Rp.val (a : LAd) (A : Option Addr) (n c : Nat) (r : Rp) : Value := .agg #[.int .i64 r.me, .int .i64 r.of, .int .i64 r.mode, .int .i64 r.view, .int .i64 r.normal, .int .i64 r.commit, .int .i64 r.log.base, .slice a.cA r.log.cells.length a.cc, .slice a.sA r.log.seats.length a.sc, .slice a.eA r.log.ents.length a.ec, .slice A n c, .int .i64 r.cell, .int .i64 r.nonce]
abbrev Rp.obj (a : LAd) (A : Option Addr) (n c : Nat) (r : Rp) : Obj := .cells #[.int .i64 r.me, .int .i64 r.of, .int .i64 r.mode, .int .i64 r.view, .int .i64 r.normal, .int .i64 r.commit, .int .i64 r.log.base, .slice a.cA r.log.cells.length a.cc, .slice a.sA r.log.seats.length a.sc, .slice a.eA r.log.ents.length a.ec, .slice A n c, .int .i64 r.cell, .int .i64 r.nonce] 56
abbrev Rp.objL (a : LAd) (A : Option Addr) (n c : Nat) (r : Rp) : Obj := .cells #[.int .i64 r.me, .int .i64 r.of, .int .i64 r.mode, .int .i64 r.view, .int .i64 r.normal, .int .i64 r.commit, .int .i64 r.log.base, .slice a.cA r.log.cells.length a.cc, .slice a.sA r.log.seats.length a.sc, .slice a.eA r.log.ents.length a.ec, .slice A n c, .int .i64 r.cell, .int .i64 r.nonce] 88
abbrev Rp.zobj : Obj := .cells #[.int .i64 0, .int .i64 0, .int .i64 0, .int .i64 0, .int .i64 0, .int .i64 0, .int .i64 0, .slice none 0 0, .slice none 0 0, .slice none 0 0, .slice none 0 0, .int .i64 0, .int .i64 0] 56
abbrev Rp.hobj (r : Rp) : Obj := .cells #[.int .i64 r.me, .int .i64 r.of, .int .i64 r.mode, .int .i64 r.view, .int .i64 r.normal, .int .i64 r.commit, .int .i64 0, .slice none 0 0, .slice none 0 0, .slice none 0 0, .slice none 0 0, .int .i64 0, .int .i64 0] 56
structure RpR (w : World) (a : LAd) (A : Option Addr) (c : Nat) (ps : List VtE) (r : Rp) : Prop where
 l : LgR w a r.log
 v : VsR w A c ps
 e : ps.map Prod.snd = r.votes
theorem RpR.keep {w w' : World} {a : LAd} {A : Option Addr} {c : Nat} {ps : List VtE} {r : Rp} (h : RpR w a A c ps r) (hx : Ext w w') : RpR w' a A c ps r := ⟨h.l.keep hx, h.v.keep hx, h.e⟩
def vsF (A : Option Addr) (ps : List VtE) : List Nat := blk A ++ ps.flatMap (fun p => p.1.fp)
structure RpO (w : World) (B T : Nat) (a : LAd) (A : Option Addr) (c : Nat) (ps : List VtE) (r : Rp) : Prop where
 l : LgO w B T a r.log
 v : VsO w B T A c ps
 e : ps.map Prod.snd = r.votes
 d : ∀ k ∈ a.fp, k ∉ vsF A ps
theorem RpO.rd {w : World} {B T : Nat} {a : LAd} {A : Option Addr} {c : Nat} {ps : List VtE} {r : Rp} (h : RpO w B T a A c ps r) : RpR w a A c ps r := ⟨h.l.rd, h.v.rd, h.e⟩
theorem RpO.kept {w w' : World} {B T : Nat} {a : LAd} {A : Option Addr} {c : Nat} {ps : List VtE} {r : Rp} (h : RpO w B T a A c ps r) (hx : Ext w w') : RpO w' B T a A c ps r := ⟨h.l.kept hx, h.v.kept hx, h.e, h.d⟩
theorem VsO.low {w : World} {B T : Nat} {A : Option Addr} {c : Nat} {ps : List VtE} (h : VsO w B T A c ps) : ∀ k ∈ vsF A ps, B ≤ k ∧ k < w.heap.size := fun k hk => by
 rcases List.mem_append.1 hk with hk | hk
 ·exact h.r.inB k hk
 ·obtain ⟨p, hp, hk⟩ := List.mem_flatMap.1 hk
  exact ⟨(h.l p hp).low k hk, (h.l p hp).lt k hk⟩
theorem VsO.wide {w : World} {B B' T T' : Nat} {A : Option Addr} {c : Nat} {ps : List VtE} (h : VsO w B T A c ps) (hB : B' ≤ B) (hT : T ≤ T') : VsO w B' T' A c ps := ⟨h.r.less hB, fun p hp => (h.l p hp).wide hB hT, h.nd, fun k hk => by have := h.top k hk; omega⟩
theorem VsO.set {w : World} {B T : Nat} {A : Option Addr} {c : Nat} {ps : List VtE} (h : VsO w B T A c ps) {p : Addr} (hp : p.block < B) (u : Value) : VsO (w.setCell p u) B T A c ps := ⟨h.r.set hp u, fun q hq => (h.l q hq).set hp u, h.nd, h.top⟩
theorem VsO.chg {w w' : World} {B T : Nat} {A : Option Addr} {c : Nat} {ps : List VtE} {S : List Nat} (h : VsO w B T A c ps) (hg : Chg w w' S) (hne : ∀ k, k ∈ vsF A ps → k ∉ S) : VsO w' B T A c ps :=
 ⟨h.r.chg hg (fun k hk => hne k (List.mem_append_left _ hk)), fun p hp => (h.l p hp).chg hg (fun k hk => hne k (List.mem_append_right _ (List.mem_flatMap.2 ⟨p, hp, hk⟩))), h.nd, h.top⟩
theorem VsR.len {w : World} {A : Option Addr} {c : Nat} {ps : List VtE} (h : VsR w A c ps) : (ps.length : Int) ≤ 9223372036854775807 := rd_len h.1
theorem szV_add {a b : Nat} {left : Int} (h : (a : Int) ≤ left) : szV b (left - a) = szV (a + b) left := by
 by_cases hb : (b : Int) ≤ left - a
 ·rw [szV_le hb, szV_le (by omega)]; omega
 ·rw [szV_gt hb, szV_gt (by omega)]
def rpN (ps : List VtE) (r : Rp) : Nat := lgN r.log + (ps.length + vsN ps ps.length)
theorem c_szReplica (a : LAd) (A : Option Addr) (c : Nat) (ps : List VtE) (r : Rp) (left : Int) (h0 : 0 ≤ left) (h1 : left ≤ 1048576) (w : World) (hr : RpR w a A c ps r) :
  Calls Tryz.prog 55 #[Rp.val a A ps.length c r, .int .i64 left] w fun e w' => e = .returned (.int .i64 (szV (rpN ps r) left)) ∧ Ext w w' := by
 have X0 := ext_alloc w (Rp.objL a A ps.length c r)
 have hl := lgR_le hr.l
 have hcon := c_szLog r.log.base a.cA r.log.cells.length a.cc a.sA r.log.seats.length a.sc a.eA r.log.ents.length a.ec left h0 h1 hl.1 hl.2.1 hl.2.2
 have hlg : r.log.cells.length + r.log.seats.length + r.log.ents.length = lgN r.log := rfl
 rw [hlg] at hcon
 clear hl hlg
 by_cases ha : ((lgN r.log : Nat) : Int) ≤ left
 ·rw [szV_le ha] at hcon
  have hadd := szV_add (b := ps.length + vsN ps ps.length) ha
  obtain ⟨q, hq, hq0, hq1⟩ : ∃ q, left - ((lgN r.log : Nat) : Int) = q ∧ 0 ≤ q ∧ q ≤ 1048576 := ⟨_, rfl, by omega, by omega⟩
  rw [hq] at hcon hadd
  have hcon2 := fun W (h : Ext (w.alloc (Rp.objL a A ps.length c r)) W) => c_szVoteS A c ps q hq0 hq1 W (hr.v.keep (Ext.trans X0 h))
  have hv : szV (ps.length + vsN ps ps.length) q = szV (rpN ps r) left := hadd
  obtain ⟨y, hy, hy2⟩ : ∃ y, szV (ps.length + vsN ps ps.length) q = y ∧ (y = -1 ∨ 0 ≤ y) := ⟨_, rfl, by
   by_cases h : ((ps.length + vsN ps ps.length : Nat) : Int) ≤ q
   ·rw [szV_le h]; omega
   ·rw [szV_gt h]; omega⟩
  rw [hy] at hcon2 hv
  rw [← hv]
  have HC2 := Hd hcon2
  clear hq ha hr hcon2 hadd hv hy
  rcases hy2 with rfl | hy2
  ·go_enter Tryz.func55, Tryz.ntmps55
   go_wp2_with fail
   refine (hcon _).mono ?_
   rintro e w1 ⟨rfl, x1⟩
   have b1 := bx_cell (x1.box (hNew (w := w) (o := Rp.objL a A ps.length c r) rfl))
   clear hcon
   go_wp2_with fail
   refine (HC2.out _ x1).mono ?_
   rintro e w2 ⟨rfl, x2⟩
   go_wp2
   go_ret
   exact ⟨rfl, Ext.trans X0 (Ext.trans x1 x2)⟩
  ·go_enter Tryz.func55, Tryz.ntmps55
   go_wp2_with fail
   refine (hcon _).mono ?_
   rintro e w1 ⟨rfl, x1⟩
   have b1 := bx_cell (x1.box (hNew (w := w) (o := Rp.objL a A ps.length c r) rfl))
   clear hcon
   go_wp2_with fail
   refine (HC2.out _ x1).mono ?_
   rintro e w2 ⟨rfl, x2⟩
   go_wp2
   go_ret
   exact ⟨rfl, Ext.trans X0 (Ext.trans x1 x2)⟩
 ·rw [szV_gt ha] at hcon
  rw [szV_gt (by unfold rpN; omega)]
  clear ha hr
  go_enter Tryz.func55, Tryz.ntmps55
  go_wp2_with fail
  refine (hcon _).mono ?_
  rintro e w1 ⟨rfl, x1⟩
  go_wp2
  go_ret
  exact ⟨rfl, Ext.trans (ext_alloc _ _) x1⟩
set_option maxHeartbeats 2000000 in
theorem c_toReplica (a : LAd) (A : Option Addr) (c : Nat) (ps : List VtE) (r : Rp) (w : World) (hr : RpR w a A c ps r) (hs : r.log.small) (hn : ps.length ≤ 1048576) (hv : LgS ps) :
  Calls Tryz.prog 61 #[Rp.val a A ps.length c r] w fun e w' => ∃ (a' : LAd) (g : Nat) (qs : List VtE), e = .returned (Rp.val a' (some ⟨g, 0, none⟩) ps.length ps.length r) ∧ qs.length = ps.length ∧ RpO w' w.heap.size w'.heap.size a' (some ⟨g, 0, none⟩) ps.length qs r ∧ Ext w w' := by
 have HS := Hd hs
 have HR := Hd hr
 have HV := Hd hv
 clear hs hr hv
 have X0 : Ext w (((w.alloc (Rp.objL a A ps.length c r)).alloc Rp.zobj).alloc (Rp.hobj r)) := ext_to (ext_to (ext_alloc _ _) _) _
 go_enter Tryz.func61, Tryz.ntmps61
 go_wp2_with fail
 refine (c_toLog a r.log _ (HR.out.l.keep X0) HS.out.1 HS.out.2.1 HS.out.2.2).mono ?_
 rintro e w1 ⟨a', rfl, o1, x1⟩
 have B0 := x1.box (hOld (o := Rp.hobj r) (hOld (o := Rp.zobj) (hNew (w := w) (o := Rp.objL a A ps.length c r) rfl)))
 have B1 := x1.box (hOld (o := Rp.hobj r) (hNew (w := w.alloc (Rp.objL a A ps.length c r)) (o := Rp.zobj) rfl))
 have B2 := x1.box (hNew (w := (w.alloc (Rp.objL a A ps.length c r)).alloc Rp.zobj) (o := Rp.hobj r) rfl)
 rw [sz_alloc] at B1
 rw [sz_alloc, sz_alloc] at B2
 simp only [sz_alloc] at o1
 have X1 := Ext.trans X0 x1
 have b0 := bx_cell B0
 have b2 := bx_cell B2
 have f2 := bx_frozen B2
 have z0 := bx_lt B0
 have z2 := bx_lt B2
 have s1 := X1.size
 have hblk : w.heap.size ≤ w.heap.size + 1 + 1 := by omega
 have hne : w.heap.size + 1 + 1 ≠ w.heap.size + 1 := by omega
 have x1s := ext_set (ext_set (ext_set (ext_set X1 (p := ⟨w.heap.size + 1 + 1, 6, none⟩) hblk (.int .i64 r.log.base)) (p := ⟨w.heap.size + 1 + 1, 7, none⟩) hblk (.slice a'.cA r.log.cells.length a'.cc)) (p := ⟨w.heap.size + 1 + 1, 8, none⟩) hblk (.slice a'.sA r.log.seats.length a'.sc)) (p := ⟨w.heap.size + 1 + 1, 9, none⟩) hblk (.slice a'.eA r.log.ents.length a'.ec)
 have C2 := box_put (box_put (box_put (box_put B2 6 (.int .i64 r.log.base)) 7 (.slice a'.cA r.log.cells.length a'.cc)) 8 (.slice a'.sA r.log.seats.length a'.sc)) 9 (.slice a'.eA r.log.ents.length a'.ec)
 have C1 := box_set (p := ⟨w.heap.size + 1 + 1, 9, none⟩) (u := .slice a'.eA r.log.ents.length a'.ec) (box_set (p := ⟨w.heap.size + 1 + 1, 8, none⟩) (u := .slice a'.sA r.log.seats.length a'.sc) (box_set (p := ⟨w.heap.size + 1 + 1, 7, none⟩) (u := .slice a'.cA r.log.cells.length a'.cc) (box_set (p := ⟨w.heap.size + 1 + 1, 6, none⟩) (u := .int .i64 r.log.base) B1 hne) hne) hne) hne
 have C0 := box_set (p := ⟨w.heap.size + 1 + 1, 9, none⟩) (u := .slice a'.eA r.log.ents.length a'.ec) (box_set (p := ⟨w.heap.size + 1 + 1, 8, none⟩) (u := .slice a'.sA r.log.seats.length a'.sc) (box_set (p := ⟨w.heap.size + 1 + 1, 7, none⟩) (u := .slice a'.cA r.log.cells.length a'.cc) (box_set (p := ⟨w.heap.size + 1 + 1, 6, none⟩) (u := .int .i64 r.log.base) B0 (show w.heap.size + 1 + 1 ≠ w.heap.size by omega)) (show w.heap.size + 1 + 1 ≠ w.heap.size by omega)) (show w.heap.size + 1 + 1 ≠ w.heap.size by omega)) (show w.heap.size + 1 + 1 ≠ w.heap.size by omega)
 have o1s := ((((o1.set (p := ⟨w.heap.size + 1 + 1, 6, none⟩) (show w.heap.size + 1 + 1 < w.heap.size + 1 + 1 + 1 by omega) (.int .i64 r.log.base)).set (p := ⟨w.heap.size + 1 + 1, 7, none⟩) (show w.heap.size + 1 + 1 < w.heap.size + 1 + 1 + 1 by omega) (.slice a'.cA r.log.cells.length a'.cc)).set (p := ⟨w.heap.size + 1 + 1, 8, none⟩) (show w.heap.size + 1 + 1 < w.heap.size + 1 + 1 + 1 by omega) (.slice a'.sA r.log.seats.length a'.sc)).set (p := ⟨w.heap.size + 1 + 1, 9, none⟩) (show w.heap.size + 1 + 1 < w.heap.size + 1 + 1 + 1 by omega) (.slice a'.eA r.log.ents.length a'.ec))
 have HX1s := Hd x1s
 have HC0 := Hd C0
 have HC1 := Hd C1
 have HC2 := Hd C2
 have HO1 := Hd o1s
 clear x1s C1 C2 C0 B0 B1 B2 o1 o1s
 go_wp2_with fail
 refine (c_toVoteS A c ps _ (HR.out.v.keep HX1s.out) hn HV.out).mono ?_
 rintro e w2 ⟨g, qs, hq, rfl, o2, x2⟩
 simp only [sz_set] at o2
 have D2 := x2.box HC2.out
 have D1 := x2.box HC1.out
 have D0 := x2.box HC0.out
 have X2 := Ext.trans HX1s.out x2
 have HO1' := Hd (HO1.out.kept x2)
 have O2 := Hd o2
 have HQ := Hd hq
 clear b0 b2 f2 z0 z2 o2 hq
 have d0 := bx_cell D0
 have d1 := bx_cell D1
 have d2 := bx_cell D2
 have g0 := bx_frozen D0
 have g1 := bx_frozen D1
 have g2 := bx_frozen D2
 have z0 := bx_lt D0
 have z1 := bx_lt D1
 have z2 := bx_lt D2
 clear D0 D1 D2
 have hs2 := x2.size
 simp only [sz_set] at hs2
 have hup : w.heap.size + 1 + 1 < w1.heap.size := by have := x1.size; simp only [sz_alloc] at this; omega
 go_wp2
 refine bodyPost_ret (v := Rp.val a' (some ⟨g, 0, none⟩) ps.length ps.length r) (by simp [results, Tryz.results61, go_sem, *]) rfl ⟨a', g, qs, rfl, HQ.out.length (Nat.le_refl _), ⟨?_, ?_, ?_, ?_⟩, ?_⟩
 ·refine LgO.wide (B := w.heap.size + 1 + 1 + 1) (T := w1.heap.size) ?_ (by omega) (by simp; omega)
  repeat (first | with_reducible exact HO1'.out | refine LgO.set ?_ (by dsimp only; omega) _)
 ·refine VsO.wide (B := w1.heap.size) (T := w2.heap.size) ?_ (by omega) (by simp)
  repeat (first | with_reducible exact O2.out | refine VsO.set ?_ (by dsimp only; omega) _)
 ·have h1 := HQ.out
  unfold VsS at h1
  rw [h1, List.take_length]
  exact HR.out.e
 ·intro k hk hm
  have h1 := HO1.out.top k hk
  have h2 := (O2.out.low k hm).1
  omega
 ·(repeat (first | with_reducible exact ext_refl _ | with_reducible refine ext_to ?_ _ | with_reducible refine ext_set ?_ (by first | (simp; done) | (simp; omega) | omega) _ | with_reducible refine ext_drew ?_ | with_reducible refine Ext.trans ?_ (by assumption)))
theorem c_eqReplica_same (a b : LAd) (A B : Option Addr) (ca cb : Nat) (ps qs : List VtE) (r : Rp) (hl : r.log.small) (w : World) (ha : RpR w a A ca ps r) (hb : RpR w b B cb qs r) (hn : ps.length ≤ 1048576) (hv : LgS ps) :
  Calls Tryz.prog 74 #[Rp.val a A ps.length ca r, Rp.val b B qs.length cb r] w fun e w' => e = .returned (.bool true) ∧ Ext w w' := by
 have X0 : Ext w ((w.alloc (Rp.obj a A ps.length ca r)).alloc (Rp.obj b B qs.length cb r)) := ext_to (ext_alloc _ _) _
 have HC := Hd (c_eqLog_same a b r.log hl _ (ha.l.keep X0) (hb.l.keep X0))
 have HD := Hd (fun W (h : Ext ((w.alloc (Rp.obj a A ps.length ca r)).alloc (Rp.obj b B qs.length cb r)) W) => c_eqVoteS_same A B ca cb ps qs (ha.e.trans hb.e.symm) hv W (ha.v.keep (Ext.trans X0 h)) (hb.v.keep (Ext.trans X0 h)) hn)
 clear hl ha hb hv
 go_enter Tryz.func74, Tryz.ntmps74
 go_wp2_with fail
 refine HC.out.mono ?_
 rintro e w1 ⟨rfl, x1⟩
 have B1 := x1.box (hOld (o := Rp.obj b B qs.length cb r) (hNew (w := w) (o := Rp.obj a A ps.length ca r) rfl))
 have B2 := x1.box (hNew (w := w.alloc (Rp.obj a A ps.length ca r)) (o := Rp.obj b B qs.length cb r) rfl)
 rw [sz_alloc] at B2
 have b1 := bx_cell B1
 have b2 := bx_cell B2
 go_wp2_with fail
 refine (HD.out _ x1).mono ?_
 rintro e w2 ⟨rfl, x2⟩
 have b3 := bx_cell (x2.box B1)
 have b4 := bx_cell (x2.box B2)
 clear B1 B2 b1 b2
 go_wp2
 go_ret
 exact ⟨rfl, Ext.trans X0 (Ext.trans x1 x2)⟩
end Go.Proofs.YtmphedkbdlckhaaGreat
