/- The laws' own functions on messages and replicas. -/
import Derived.Test.YtpghedeghoegmaaPk3
import Derived.Test.YtpghedeghoegmaaPk4
namespace Go.Proofs.Ytpghedeghoegmaa
open Go.ChangeShapes Go.WideShapes Go.ChangeAt Go.RowKit Go.Sort
set_option linter.unusedVariables false
set_option linter.unusedSimpArgs false
abbrev Mg.val (a : LAd) (m : Mg) : Value := .agg #[.int .i64 m.kind, .int .i64 m.frm, .int .i64 m.view, .int .i64 m.op, .int .i64 m.commit, .int .i64 m.normal, .int .i64 m.nonce, .int .i64 m.client, .int .i64 m.req, .int .i64 m.answer, .int .i64 m.ck, .int .i64 m.cx, .int .i64 m.cv, .int .i64 m.log.base, .slice a.cA m.log.cells.length a.cc, .slice a.sA m.log.seats.length a.sc, .slice a.eA m.log.ents.length a.ec]
abbrev Mg.obj (a : LAd) (m : Mg) : Obj := .cells #[.int .i64 m.kind, .int .i64 m.frm, .int .i64 m.view, .int .i64 m.op, .int .i64 m.commit, .int .i64 m.normal, .int .i64 m.nonce, .int .i64 m.client, .int .i64 m.req, .int .i64 m.answer, .int .i64 m.ck, .int .i64 m.cx, .int .i64 m.cv, .int .i64 m.log.base, .slice a.cA m.log.cells.length a.cc, .slice a.sA m.log.seats.length a.sc, .slice a.eA m.log.ents.length a.ec] 46
abbrev Mg.zobj : Obj := .cells #[.int .i64 0, .int .i64 0, .int .i64 0, .int .i64 0, .int .i64 0, .int .i64 0, .int .i64 0, .int .i64 0, .int .i64 0, .int .i64 0, .int .i64 0, .int .i64 0, .int .i64 0, .int .i64 0, .slice none 0 0, .slice none 0 0, .slice none 0 0] 46
abbrev Mg.hobj (m : Mg) : Obj := .cells #[.int .i64 m.kind, .int .i64 m.frm, .int .i64 m.view, .int .i64 m.op, .int .i64 m.commit, .int .i64 m.normal, .int .i64 m.nonce, .int .i64 m.client, .int .i64 m.req, .int .i64 m.answer, .int .i64 0, .int .i64 0, .int .i64 0, .int .i64 0, .slice none 0 0, .slice none 0 0, .slice none 0 0] 46
abbrev Rp.val (a : LAd) (A : Option Addr) (n c : Nat) (r : Rp) : Value := .agg #[.int .i64 r.me, .int .i64 r.of, .int .i64 r.mode, .int .i64 r.view, .int .i64 r.normal, .int .i64 r.commit, .int .i64 r.log.base, .slice a.cA r.log.cells.length a.cc, .slice a.sA r.log.seats.length a.sc, .slice a.eA r.log.ents.length a.ec, .slice A n c, .int .i64 r.cell, .int .i64 r.nonce]
structure RpR (w : World) (a : LAd) (A : Option Addr) (c : Nat) (ps : List VtE) (r : Rp) : Prop where
 l : LgR w a r.log
 v : VsR w A c ps
 e : ps.map Prod.snd = r.votes
theorem RpR.keep {w w' : World} {a : LAd} {A : Option Addr} {c : Nat} {ps : List VtE} {r : Rp} (h : RpR w a A c ps r) (hx : Ext w w') : RpR w' a A c ps r := ⟨h.l.keep hx, h.v.keep hx, h.e⟩
theorem VsR.len {w : World} {A : Option Addr} {c : Nat} {ps : List VtE} (h : VsR w A c ps) : (ps.length : Int) ≤ 9223372036854775807 := rd_len h.1
end Go.Proofs.Ytpghedeghoegmaa
