/- The laws' own functions on messages and replicas. -/
import Derived.Test.YtpghedeghoegmaaGc
import Derived.Test.YtpghedeghoegmaaMl
import Derived.Test.YtpghedeghoegmaaGb
namespace Go.Proofs.Ytpghedeghoegmaa
open Go.ChangeShapes Go.WideShapes Go.ChangeAt Go.RowKit Go.Sort
set_option linter.unusedVariables false
set_option linter.unusedSimpArgs false

abbrev Mg.val (a : LAd) (m : Mg) : Value := .agg #[.int .i64 m.kind, .int .i64 m.frm, .int .i64 m.view, .int .i64 m.op, .int .i64 m.commit, .int .i64 m.normal, .int .i64 m.nonce, .int .i64 m.client, .int .i64 m.req, .int .i64 m.answer, .int .i64 m.ck, .int .i64 m.cx, .int .i64 m.cv, .int .i64 m.log.base, .slice a.cA m.log.cells.length a.cc, .slice a.sA m.log.seats.length a.sc, .slice a.eA m.log.ents.length a.ec]
abbrev Mg.obj (a : LAd) (m : Mg) : Obj := .cells #[.int .i64 m.kind, .int .i64 m.frm, .int .i64 m.view, .int .i64 m.op, .int .i64 m.commit, .int .i64 m.normal, .int .i64 m.nonce, .int .i64 m.client, .int .i64 m.req, .int .i64 m.answer, .int .i64 m.ck, .int .i64 m.cx, .int .i64 m.cv, .int .i64 m.log.base, .slice a.cA m.log.cells.length a.cc, .slice a.sA m.log.seats.length a.sc, .slice a.eA m.log.ents.length a.ec] 46
abbrev Mg.objL (a : LAd) (m : Mg) : Obj := .cells #[.int .i64 m.kind, .int .i64 m.frm, .int .i64 m.view, .int .i64 m.op, .int .i64 m.commit, .int .i64 m.normal, .int .i64 m.nonce, .int .i64 m.client, .int .i64 m.req, .int .i64 m.answer, .int .i64 m.ck, .int .i64 m.cx, .int .i64 m.cv, .int .i64 m.log.base, .slice a.cA m.log.cells.length a.cc, .slice a.sA m.log.seats.length a.sc, .slice a.eA m.log.ents.length a.ec] 32
abbrev Mg.zobj : Obj := .cells #[.int .i64 0, .int .i64 0, .int .i64 0, .int .i64 0, .int .i64 0, .int .i64 0, .int .i64 0, .int .i64 0, .int .i64 0, .int .i64 0, .int .i64 0, .int .i64 0, .int .i64 0, .int .i64 0, .slice none 0 0, .slice none 0 0, .slice none 0 0] 46
abbrev Mg.hobj (m : Mg) : Obj := .cells #[.int .i64 m.kind, .int .i64 m.frm, .int .i64 m.view, .int .i64 m.op, .int .i64 m.commit, .int .i64 m.normal, .int .i64 m.nonce, .int .i64 m.client, .int .i64 m.req, .int .i64 m.answer, .int .i64 0, .int .i64 0, .int .i64 0, .int .i64 0, .slice none 0 0, .slice none 0 0, .slice none 0 0] 46
abbrev Rp.val (a : LAd) (A : Option Addr) (n c : Nat) (r : Rp) : Value := .agg #[.int .i64 r.me, .int .i64 r.of, .int .i64 r.mode, .int .i64 r.view, .int .i64 r.normal, .int .i64 r.commit, .int .i64 r.log.base, .slice a.cA r.log.cells.length a.cc, .slice a.sA r.log.seats.length a.sc, .slice a.eA r.log.ents.length a.ec, .slice A n c, .int .i64 r.cell, .int .i64 r.nonce]
/-- the replica reads so -/
structure RpR (w : World) (a : LAd) (A : Option Addr) (c : Nat) (ps : List VtE) (r : Rp) : Prop where
  l : LgR w a r.log
  v : VsR w A c ps
  e : ps.map Prod.snd = r.votes
theorem RpR.keep {w w' : World} {a : LAd} {A : Option Addr} {c : Nat} {ps : List VtE} {r : Rp} (h : RpR w a A c ps r) (hx : Ext w w') : RpR w' a A c ps r := ⟨h.l.keep hx, h.v.keep hx, h.e⟩
def vsF (A : Option Addr) (ps : List VtE) : List Nat := blk A ++ ps.flatMap (fun p => p.1.fp)
theorem VsR.len {w : World} {A : Option Addr} {c : Nat} {ps : List VtE} (h : VsR w A c ps) : (ps.length : Int) ≤ 9223372036854775807 := rd_len h.1
/-- an own log stays where older blocks are written -/
theorem LgO.setN {w : World} {B T : Nat} {a : LAd} {l : Lg} (h : LgO w B T a l) {p : Addr} (hp : p.block ∉ a.fp) (u : Value) : LgO (w.setCell p u) B T a l :=
  h.chg (S := [p.block]) ⟨rfl, rfl, rfl, Nat.le_of_eq (World.size_setCell ..).symm, fun k _ hn => Below.heap_setCell _ _ _ _ (fun he => hn (by simp [he]))⟩ (fun k hk hm => by rw [List.mem_singleton] at hm; exact hp (hm ▸ hk))

theorem szV_add {a b : Nat} {left : Int} (h : (a : Int) ≤ left) : szV b (left - a) = szV (a + b) left := by
  by_cases hb : (b : Int) ≤ left - a
  · rw [szV_le hb, szV_le (by omega)]; omega
  · rw [szV_gt hb, szV_gt (by omega)]


theorem c_szMsg (a : LAd) (m : Mg) (left : Int) (h0 : 0 ≤ left) (h1 : left ≤ 1048576) (w : World) (hr : LgR w a m.log) :
    Calls Try.prog 7 #[Mg.val a m, .int .i64 left] w fun e w' => e = .returned (.int .i64 (szV (lgN m.log) left)) ∧ Ext w w' := by
  have hl := lgR_le hr
  have hcon := c_szLog m.log.base a.cA m.log.cells.length a.cc a.sA m.log.seats.length a.sc a.eA m.log.ents.length a.ec left h0 h1 hl.1 hl.2.1 hl.2.2
  have hlg : m.log.cells.length + m.log.seats.length + m.log.ents.length = lgN m.log := rfl
  rw [hlg] at hcon
  clear hl hlg
  by_cases ha : ((lgN m.log : Nat) : Int) ≤ left
  · rw [szV_le ha] at hcon ⊢
    obtain ⟨q, hq, hq0⟩ : ∃ q, left - ((lgN m.log : Nat) : Int) = q ∧ 0 ≤ q := ⟨_, rfl, by omega⟩
    rw [hq] at hcon ⊢
    clear hq ha
    go_enter Try.func7, Try.ntmps7
    go_wp2_with fail
    refine (hcon _).mono ?_
    rintro e w1 ⟨rfl, x1⟩
    go_wp2
    go_ret
    exact ⟨rfl, Ext.trans (ext_alloc _ _) x1⟩
  · rw [szV_gt ha] at hcon ⊢
    clear ha
    go_enter Try.func7, Try.ntmps7
    go_wp2_with fail
    refine (hcon _).mono ?_
    rintro e w1 ⟨rfl, x1⟩
    go_wp2
    go_ret
    exact ⟨rfl, Ext.trans (ext_alloc _ _) x1⟩

set_option maxHeartbeats 2000000 in
theorem c_toMsg (a : LAd) (m : Mg) (w : World) (hr : LgR w a m.log) (hs : m.log.small) :
    Calls Try.prog 9 #[Mg.val a m] w fun e w' => ∃ a' : LAd, e = .returned (Mg.val a' m) ∧ LgO w' w.heap.size w'.heap.size a' m.log ∧ Ext w w' := by
  have HS := Lib.hid hs
  have HR := Lib.hid hr
  clear hs hr
  have X0 : Ext w (((w.alloc (Mg.objL a m)).alloc Mg.zobj).alloc (Mg.hobj m)) := ext_to (ext_to (ext_alloc _ _) _) _
  go_enter Try.func9, Try.ntmps9
  go_wp2_with fail
  refine (c_toCmd _ _ _ _).mono ?_
  rintro e w1 ⟨rfl, x1⟩
  have B0 := x1.box (hOld (o := Mg.hobj m) (hOld (o := Mg.zobj) (hNew (w := w) (o := Mg.objL a m) rfl)))
  have B1 := x1.box (hOld (o := Mg.hobj m) (hNew (w := w.alloc (Mg.objL a m)) (o := Mg.zobj) rfl))
  have B2 := x1.box (hNew (w := (w.alloc (Mg.objL a m)).alloc Mg.zobj) (o := Mg.hobj m) rfl)
  rw [sz_alloc] at B1
  rw [sz_alloc, sz_alloc] at B2
  have X1 := Ext.trans X0 x1
  have b0 := bx_cell B0
  have b2 := bx_cell B2
  have f2 := bx_frozen B2
  have z0 := bx_lt B0
  have z2 := bx_lt B2
  have s1 := X1.size
  have x1s := ext_set (ext_set (ext_set X1 (p := ⟨w.heap.size + 1 + 1, 10, none⟩) (show w.heap.size ≤ w.heap.size + 1 + 1 by omega) (.int .i64 m.ck)) (p := ⟨w.heap.size + 1 + 1, 11, none⟩) (show w.heap.size ≤ w.heap.size + 1 + 1 by omega) (.int .i64 m.cx)) (p := ⟨w.heap.size + 1 + 1, 12, none⟩) (show w.heap.size ≤ w.heap.size + 1 + 1 by omega) (.int .i64 m.cv)
  have C2 := box_put (box_put (box_put B2 10 (.int .i64 m.ck)) 11 (.int .i64 m.cx)) 12 (.int .i64 m.cv)
  have C1 := box_set (p := ⟨w.heap.size + 1 + 1, 12, none⟩) (u := .int .i64 m.cv) (box_set (p := ⟨w.heap.size + 1 + 1, 11, none⟩) (u := .int .i64 m.cx) (box_set (p := ⟨w.heap.size + 1 + 1, 10, none⟩) (u := .int .i64 m.ck) B1 (show w.heap.size + 1 + 1 ≠ w.heap.size + 1 by omega)) (show w.heap.size + 1 + 1 ≠ w.heap.size + 1 by omega)) (show w.heap.size + 1 + 1 ≠ w.heap.size + 1 by omega)
  simp only [List.setIfInBounds_toArray, List.set_cons_zero, List.set_cons_succ] at C2
  have HX1s := Lib.hid x1s
  have HC1 := Lib.hid C1
  have HC2 := Lib.hid C2
  clear x1s C1 C2 B0 B1 B2
  go_wp2_with fail
  refine (c_toLog a m.log _ (HR.out.keep HX1s.out) HS.out.1 HS.out.2.1 HS.out.2.2).mono ?_
  rintro e w2 ⟨a', rfl, o1, x2⟩
  simp only [sz_set] at o1
  have D2 := x2.box HC2.out
  have D1 := x2.box HC1.out
  have X2 := Ext.trans HX1s.out x2
  have O1 := Lib.hid o1
  clear b0 b2 f2 z0 z2 o1
  have d2 := bx_cell D2
  have g2 := bx_frozen D2
  have z2 := bx_lt D2
  have hup : w.heap.size + 1 + 1 < w1.heap.size := by have := x1.size; simp only [sz_alloc] at this; omega
  have HD1 := Lib.hid D1
  have HD2 := Lib.hid D2
  have P2 := box_put (box_put (box_put (box_put D2 13 (.int .i64 m.log.base)) 14 (.slice a'.cA m.log.cells.length a'.cc)) 15 (.slice a'.sA m.log.seats.length a'.sc)) 16 (.slice a'.eA m.log.ents.length a'.ec)
  simp only [List.setIfInBounds_toArray, List.set_cons_zero, List.set_cons_succ] at P2
  have HP2 := Lib.hid P2
  clear D1 D2 P2
  go_wp2_with (with_reducible refine wl_stop 42 ?_)
  refine stop_go (F := fun W => W.heap[w.heap.size + 1 + 1]? = some (Mg.obj a' m) ∧ W.heap[w.heap.size + 1]? = some Mg.zobj ∧ LgO W w1.heap.size w2.heap.size a' m.log ∧ Ext w W ∧ w2.heap.size ≤ W.heap.size) ?_ ?_
  · refine ⟨?_, ?_, ?_, ?_, by simp⟩
    · exact HP2.out
    · exact box_set (box_set (box_set (box_set HD1.out (show w.heap.size + 1 + 1 ≠ w.heap.size + 1 by omega)) (show w.heap.size + 1 + 1 ≠ w.heap.size + 1 by omega)) (show w.heap.size + 1 + 1 ≠ w.heap.size + 1 by omega)) (show w.heap.size + 1 + 1 ≠ w.heap.size + 1 by omega)
    · repeat (first | with_reducible exact O1.out | refine LgO.set ?_ (by dsimp only; omega) _)
    · (repeat (first | with_reducible exact ext_refl _ | with_reducible refine ext_to ?_ _ | with_reducible refine ext_set ?_ (by first | (simp; done) | (simp; omega) | omega) _ | with_reducible refine ext_drew ?_ | with_reducible refine Ext.trans ?_ (by assumption)))
  intro W3 ⟨E2, E1, o3, X3, hs3⟩
  clear d2 g2 z2
  have d1 := bx_cell E1
  have d2 := bx_cell E2
  have g1 := bx_frozen E1
  have z1 := bx_lt E1
  have z2 := bx_lt E2
  have O3 := Lib.hid o3
  have HE1 := Lib.hid E1
  clear E1 E2 o3
  go_wp2_with (with_reducible refine wl_stopS 46 ?_)
  refine stop_store (w.heap.size + 1) #[.int .i64 m.kind, .int .i64 m.frm, .int .i64 m.view, .int .i64 m.op, .int .i64 m.commit, .int .i64 m.normal, .int .i64 m.nonce, .int .i64 m.client, .int .i64 m.req, .int .i64 m.answer, .int .i64 m.ck, .int .i64 m.cx, .int .i64 m.cv, .int .i64 m.log.base, .slice a'.cA m.log.cells.length a'.cc, .slice a'.sA m.log.seats.length a'.sc, .slice a'.eA m.log.ents.length a'.ec] rfl rfl HE1.out (by kernel_rfl) rfl (by simp [Value.oneCell']) ?_
  intro W4 E4 C4
  have hX4 := Lib.hid (chg_new X3 C4 (by omega))
  have hO4 := Lib.hid (O3.out.chg1 C4 (by omega))
  have hs4 := C4.size
  clear C4 d1 d2 g1 z1 z2
  go_wp2
  refine bodyPost_ret (results_box Try.results9 rfl Try.underlying46 (by kernel_rfl) E4) rfl ⟨a', rfl, hO4.out.wide (by omega) (by omega), hX4.out⟩

theorem c_eqMsg_same (a b : LAd) (m : Mg) (hl : m.log.small) (w : World) (ha : LgR w a m.log) (hb : LgR w b m.log) :
    Calls Try.prog 12 #[Mg.val a m, Mg.val b m] w fun e w' => e = .returned (.bool true) ∧ Ext w w' := by
  have X0 : Ext w ((w.alloc (Mg.obj a m)).alloc (Mg.obj b m)) := ext_to (ext_alloc _ _) _
  have HC := Lib.hid (fun W (h : Ext ((w.alloc (Mg.obj a m)).alloc (Mg.obj b m)) W) => c_eqLog_same a b m.log hl W (ha.keep (Ext.trans X0 h)) (hb.keep (Ext.trans X0 h)))
  have hcmd : decide (m.ck = m.ck ∧ m.cx = m.cx ∧ m.cv = m.cv) = true := by simp
  clear hl ha hb
  go_enter Try.func12, Try.ntmps12
  go_wp2_with fail
  refine (c_eqCmd _ _ _ _ _ _ _).mono ?_
  rintro e w1 ⟨rfl, x1⟩
  have B1 := x1.box (hOld (o := Mg.obj b m) (hNew (w := w) (o := Mg.obj a m) rfl))
  have B2 := x1.box (hNew (w := w.alloc (Mg.obj a m)) (o := Mg.obj b m) rfl)
  rw [sz_alloc] at B2
  have b1 := bx_cell B1
  have b2 := bx_cell B2
  clear B1 B2
  simp only [hcmd]
  go_wp2_with fail
  refine (HC.out _ x1).mono ?_
  rintro e w2 ⟨rfl, x2⟩
  go_wp2
  go_ret
  exact ⟨rfl, Ext.trans X0 (Ext.trans x1 x2)⟩

/-- how great a replica is -/
def rpN (ps : List VtE) (r : Rp) : Nat := lgN r.log + (ps.length + vsN ps ps.length)
end Go.Proofs.Ytpghedeghoegmaa
