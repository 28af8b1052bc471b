/- run of the program: a command is run. -/
import Derived.Test.YtednimdklbmjgaaIp
import Derived.Test.YtednimdklbmjgaaRb
import Derived.Lib.MinMax
namespace Go.Proofs.Ytednimdklbmjgaa
open Go.ChangeShapes Go.WideShapes Go.ChangeAt Go.RowKit Go.Sort
set_option linter.unusedVariables false
set_option linter.unusedSimpArgs false

theorem Ow.boxed {α : Type} {enc : α → List Value} {e T : TypeId} {sz : Nat} {w w' : World} {B p : Nat} {cs : Array Value} {A : Option Addr} {n c : Nat} {l : List α} (h : Ow enc e sz w B (.slice A n c) l) (hb : w.heap[p]? = some (.cells cs T (0, 0))) (hne : T ≠ e) (hg : Chg w w' [p]) : Ow enc e sz w' B (.slice A n c) l :=
  h.chg hg (fun k hk hm => by rw [List.mem_singleton] at hm; subst hm; exact box_apart hb h hne hk)
end Go.Proofs.Ytednimdklbmjgaa
