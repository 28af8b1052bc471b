/- Votes: their box, the bounds of a good log. -/
import Derived.Test.YtmpjokdidomafaaGreatCl
import Derived.Test.YtmpjokdidomafaaGreatDt
namespace Go.Proofs.YtmpjokdidomafaaGreat
open Go.ChangeShapes Go.WideShapes Go.ChangeAt Go.RowKit Go.Sort
set_option linter.unusedVariables false
set_option linter.unusedSimpArgs false

abbrev Vt.obj (a : LAd) (v : Vt) : Obj := .cells #[.int .i64 v.kind, .int .i64 v.frm, .int .i64 v.view, .int .i64 v.normal, .int .i64 v.op, .int .i64 v.commit, .int .i64 v.log.base, .slice a.cA v.log.cells.length a.cc, .slice a.sA v.log.seats.length a.sc, .slice a.eA v.log.ents.length a.ec] 111
theorem logOk_b {l : Lg} (h : logOk l = true) : 0 ≤ l.base ∧ l.base ≤ 1000000000 ∧ l.ents.length ≤ 60 := by
  have h1 := of_decide_eq_true h
  have := (inB_yes _ _ _).1 h1.1
  exact ⟨this.1, this.2, h1.2.2.1⟩
end Go.Proofs.YtmpjokdidomafaaGreat
