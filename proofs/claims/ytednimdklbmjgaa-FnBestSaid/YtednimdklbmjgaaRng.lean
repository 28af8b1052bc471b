/- Contracts of the functions on one range. -/
import Derived.Test.YtednimdklbmjgaaProg
import Derived.Test.YtednimdklbmjgaaGa
namespace Go.Proofs.Ytednimdklbmjgaa
open Go.ChangeShapes Go.WideShapes Go.ChangeAt Go.RowKit Go.Sort
set_option linter.unusedVariables false

structure Rng where
  lo : Int
  hi : Int
deriving DecidableEq

def Rng.enc (r : Rng) : List Value := [.int .i64 r.lo, .int .i64 r.hi]
abbrev Rng.agg (r : Rng) : Value := .agg #[.int .i64 r.lo, .int .i64 r.hi]
def Rng.ok (r : Rng) : Bool := decide (0 ≤ r.lo) && decide (r.lo < r.hi) && decide (r.hi ≤ 1000)

def meet (a b : Rng) : Rng := ⟨max a.lo b.lo, min a.hi b.hi⟩
def Rng.zero : Rng := ⟨0, 0⟩
def meetB (a b : Rng) : Bool := a.ok && b.ok && (meet a b).ok
def meetV (a b : Rng) : Rng := if meetB a b then meet a b else Rng.zero

theorem c_l1Max (a b : Int) (w : World) : Calls Try.prog 53 #[.int .i64 a, .int .i64 b] w fun e w' => e = .returned (.int .i64 (max a b)) ∧ Ext w w' := by
  go_enter Try.func53, Try.ntmps53
  go_wp2
  all_goals
    go_ret
    exact ⟨ret_int (by omega), ext_refl _⟩
def meetsB (lo hi lo' hi' : Int) : Bool := decide (lo < hi') && decide (lo' < hi)
theorem meetB_meets (lo hi lo' hi' : Int) : meetB ⟨lo, hi⟩ ⟨lo', hi'⟩ = (Rng.ok ⟨lo, hi⟩ && Rng.ok ⟨lo', hi'⟩ && meetsB lo hi lo' hi') := by
  unfold meetB meet Rng.ok meetsB
  rw [Bool.eq_iff_iff]
  simp only [Bool.and_eq_true, decide_eq_true_eq]
  omega

end Go.Proofs.Ytednimdklbmjgaa
