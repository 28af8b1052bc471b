/- The laws' own functions on messages and replicas. -/
import Derived.Test.YtpghedeghoegmaaPk5
import Derived.Test.YtpghedeghoegmaaPk6
namespace Go.Proofs.Ytpghedeghoegmaa
open Go.ChangeShapes Go.WideShapes Go.ChangeAt Go.RowKit Go.Sort
set_option linter.unusedVariables false
set_option linter.unusedSimpArgs false

abbrev Mg.val (a : LAd) (m : Mg) : Value := .agg #[.int .i64 m.kind, .int .i64 m.frm, .int .i64 m.view, .int .i64 m.op, .int .i64 m.commit, .int .i64 m.normal, .int .i64 m.nonce, .int .i64 m.client, .int .i64 m.req, .int .i64 m.answer, .int .i64 m.ck, .int .i64 m.cx, .int .i64 m.cv, .int .i64 m.log.base, .slice a.cA m.log.cells.length a.cc, .slice a.sA m.log.seats.length a.sc, .slice a.eA m.log.ents.length a.ec]
abbrev Mg.obj (a : LAd) (m : Mg) : Obj := .cells #[.int .i64 m.kind, .int .i64 m.frm, .int .i64 m.view, .int .i64 m.op, .int .i64 m.commit, .int .i64 m.normal, .int .i64 m.nonce, .int .i64 m.client, .int .i64 m.req, .int .i64 m.answer, .int .i64 m.ck, .int .i64 m.cx, .int .i64 m.cv, .int .i64 m.log.base, .slice a.cA m.log.cells.length a.cc, .slice a.sA m.log.seats.length a.sc, .slice a.eA m.log.ents.length a.ec] 46
abbrev Mg.hobj (m : Mg) : Obj := .cells #[.int .i64 m.kind, .int .i64 m.frm, .int .i64 m.view, .int .i64 m.op, .int .i64 m.commit, .int .i64 m.normal, .int .i64 m.nonce, .int .i64 m.client, .int .i64 m.req, .int .i64 m.answer, .int .i64 0, .int .i64 0, .int .i64 0, .int .i64 0, .slice none 0 0, .slice none 0 0, .slice none 0 0] 46
abbrev Rp.val (a : LAd) (A : Option Addr) (n c : Nat) (r : Rp) : Value := .agg #[.int .i64 r.me, .int .i64 r.of, .int .i64 r.mode, .int .i64 r.view, .int .i64 r.normal, .int .i64 r.commit, .int .i64 r.log.base, .slice a.cA r.log.cells.length a.cc, .slice a.sA r.log.seats.length a.sc, .slice a.eA r.log.ents.length a.ec, .slice A n c, .int .i64 r.cell, .int .i64 r.nonce]
/-- the replica reads so -/
structure RpR (w : World) (a : LAd) (A : Option Addr) (c : Nat) (ps : List VtE) (r : Rp) : Prop where
  l : LgR w a r.log
  v : VsR w A c ps
  e : ps.map Prod.snd = r.votes
theorem RpR.keep {w w' : World} {a : LAd} {A : Option Addr} {c : Nat} {ps : List VtE} {r : Rp} (h : RpR w a A c ps r) (hx : Ext w w') : RpR w' a A c ps r := ⟨h.l.keep hx, h.v.keep hx, h.e⟩
theorem VsR.len {w : World} {A : Option Addr} {c : Nat} {ps : List VtE} (h : VsR w A c ps) : (ps.length : Int) ≤ 9223372036854775807 := rd_len h.1
theorem c_eqMsg_same (a b : LAd) (m : Mg) (hl : m.log.small) (w : World) (ha : LgR w a m.log) (hb : LgR w b m.log) :
    Calls Try.prog 12 #[Mg.val a m, Mg.val b m] w fun e w' => e = .returned (.bool true) ∧ Ext w w' := by
  have X0 : Ext w ((w.alloc (Mg.obj a m)).alloc (Mg.obj b m)) := ext_to (ext_alloc _ _) _
  have HC := Lib.hid (fun W (h : Ext ((w.alloc (Mg.obj a m)).alloc (Mg.obj b m)) W) => c_eqLog_same a b m.log hl W (ha.keep (Ext.trans X0 h)) (hb.keep (Ext.trans X0 h)))
  have hcmd : decide (m.ck = m.ck ∧ m.cx = m.cx ∧ m.cv = m.cv) = true := by simp
  clear hl ha hb
  go_enter Try.func12, Try.ntmps12
  go_wp2_with fail
  refine (c_eqCmd _ _ _ _ _ _ _).mono ?_
  rintro e w1 ⟨rfl, x1⟩
  have B1 := x1.box (hOld (o := Mg.obj b m) (hNew (w := w) (o := Mg.obj a m) rfl))
  have B2 := x1.box (hNew (w := w.alloc (Mg.obj a m)) (o := Mg.obj b m) rfl)
  rw [sz_alloc] at B2
  have b1 := bx_cell B1
  have b2 := bx_cell B2
  clear B1 B2
  simp only [hcmd]
  go_wp2_with fail
  refine (HC.out _ x1).mono ?_
  rintro e w2 ⟨rfl, x2⟩
  go_wp2
  go_ret
  exact ⟨rfl, Ext.trans X0 (Ext.trans x1 x2)⟩

end Go.Proofs.Ytpghedeghoegmaa

