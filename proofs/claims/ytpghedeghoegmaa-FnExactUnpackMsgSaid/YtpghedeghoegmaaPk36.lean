/- The laws' own functions on rows of what is sent: marked, held. -/
import Derived.Test.YtpghedeghoegmaaPk8
import Derived.Test.YtpghedeghoegmaaPk6
namespace Go.Proofs.Ytpghedeghoegmaa
open Go.ChangeShapes Go.WideShapes Go.ChangeAt Go.RowKit Go.Sort
set_option linter.unusedVariables false
set_option linter.unusedSimpArgs false

instance : Inhabited Mg := ⟨⟨0, 0, 0, 0, 0, 0, 0, 0, 0, 0, 0, 0, 0, Lg.none⟩⟩
instance : Inhabited Ot := ⟨⟨0, default⟩⟩
theorem OtE.len (p : OtE) : (OtE.enc p).length = 18 := rfl
def Ot.mk' (k : Int) (v : Ot) : Ot := ⟨k, ⟨k + 1, k + 1 + 1, k + 1 + 1 + 1, k + 1 + 1 + 1 + 1, k + 1 + 1 + 1 + 1 + 1, k + 1 + 1 + 1 + 1 + 1 + 1, k + 1 + 1 + 1 + 1 + 1 + 1 + 1, k + 1 + 1 + 1 + 1 + 1 + 1 + 1 + 1, k + 1 + 1 + 1 + 1 + 1 + 1 + 1 + 1 + 1, k + 1 + 1 + 1 + 1 + 1 + 1 + 1 + 1 + 1 + 1, k + 1 + 1 + 1 + 1 + 1 + 1 + 1 + 1 + 1 + 1 + 1, k + 1 + 1 + 1 + 1 + 1 + 1 + 1 + 1 + 1 + 1 + 1 + 1, k + 1 + 1 + 1 + 1 + 1 + 1 + 1 + 1 + 1 + 1 + 1 + 1 + 1, v.msg.log.mk' (k + 1 + 1 + 1 + 1 + 1 + 1 + 1 + 1 + 1 + 1 + 1 + 1 + 1 + 1 + 1) (k + 1 + 1 + 1 + 1 + 1 + 1 + 1 + 1 + 1 + 1 + 1 + 1 + 1 + 1)⟩⟩
def Ot.mN (v : Ot) : Int := 15 + v.msg.log.mN
/-- the number that the j-th element's marks begin with -/
def OtE.Ks (k : Int) (ps : List OtE) : Nat → Int
  | 0 => k
  | j + 1 => OtE.Ks k ps j + match ps[j]? with | some p => p.2.mN | none => 0
def OtE.M (k : Int) (ps : List OtE) (i : Nat) : OtE := match ps[i]? with
  | some p => (p.1, p.2.mk' (OtE.Ks k ps i))
  | none => (LAd.none, (⟨LAd.none, default⟩ : OtE).2)
def OtE.mks (k : Int) (ps : List OtE) : List OtE := (List.range ps.length).map (OtE.M k ps)
end Go.Proofs.Ytpghedeghoegmaa

/- The laws' comparison of rows of what is sent: equal ones are equal. -/
namespace Go.Proofs.Ytpghedeghoegmaa
open Go.ChangeShapes Go.WideShapes Go.ChangeAt Go.RowKit Go.Sort
set_option linter.unusedVariables false
set_option linter.unusedSimpArgs false

/-- what is sent, as a value -/
abbrev OtE.cells (a : LAd) (o : Ot) : Array Value := #[.int .i64 o.to, .int .i64 o.msg.kind, .int .i64 o.msg.frm, .int .i64 o.msg.view, .int .i64 o.msg.op, .int .i64 o.msg.commit, .int .i64 o.msg.normal, .int .i64 o.msg.nonce, .int .i64 o.msg.client, .int .i64 o.msg.req, .int .i64 o.msg.answer, .int .i64 o.msg.ck, .int .i64 o.msg.cx, .int .i64 o.msg.cv, .int .i64 o.msg.log.base, .slice a.cA o.msg.log.cells.length a.cc, .slice a.sA o.msg.log.seats.length a.sc, .slice a.eA o.msg.log.ents.length a.ec]
abbrev Mg.cs (a : LAd) (m : Mg) : Array Value := #[.int .i64 m.kind, .int .i64 m.frm, .int .i64 m.view, .int .i64 m.op, .int .i64 m.commit, .int .i64 m.normal, .int .i64 m.nonce, .int .i64 m.client, .int .i64 m.req, .int .i64 m.answer, .int .i64 m.ck, .int .i64 m.cx, .int .i64 m.cv, .int .i64 m.log.base, .slice a.cA m.log.cells.length a.cc, .slice a.sA m.log.seats.length a.sc, .slice a.eA m.log.ents.length a.ec]

end Go.Proofs.Ytpghedeghoegmaa

