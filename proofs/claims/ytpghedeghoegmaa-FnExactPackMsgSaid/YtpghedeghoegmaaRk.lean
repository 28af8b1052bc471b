/- A log has a number; a vote is right: of the reference and of the program. -/
import Derived.Test.YtpghedeghoegmaaGe
import Derived.Test.YtpghedeghoegmaaRp
namespace Go.Proofs.Ytpghedeghoegmaa
open Go.ChangeShapes Go.WideShapes Go.ChangeAt Go.RowKit Go.Sort
set_option linter.unusedVariables false
set_option linter.unusedSimpArgs false

/-- the log is right, and n from its base to its end -/
def hasNum (l : Lg) (n : Int) : Bool := logOk l && inB n l.base l.fin
theorem hasNum_ok {l : Lg} {n : Int} (h : hasNum l n = true) : logOk l = true ∧ l.base ≤ n ∧ n ≤ l.fin := by
  unfold hasNum at h
  rw [Bool.and_eq_true, inB_yes] at h
  exact h

def vtKind (k : Int) : Bool := k == 3 || k == 5 || k == 6 || k == 9
/-- a vote of a replica of so many is right -/
def vtOk (of : Int) (v : Vt) : Bool := vtKind v.kind && inB v.frm 0 (of - 1) && inB v.view 0 1000000000 && inB v.normal 0 1000000000 && inB v.op 0 1000000000 && hasNum v.log v.commit
theorem vtOk_num {of : Int} {v : Vt} (h : vtOk of v = true) : hasNum v.log v.commit = true := by
  unfold vtOk at h
  simp only [Bool.and_eq_true] at h
  exact h.2

end Go.Proofs.Ytpghedeghoegmaa
