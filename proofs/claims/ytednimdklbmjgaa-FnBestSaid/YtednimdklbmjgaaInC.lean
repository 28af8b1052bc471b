/- slices.Insert at cells and seats. -/
import Derived.Test.YtednimdklbmjgaaCpy
import Derived.Test.YtednimdklbmjgaaDl
namespace Go.Proofs.Ytednimdklbmjgaa
open Go.ChangeShapes Go.WideShapes Go.ChangeAt Go.RowKit Go.Sort
set_option linter.unusedVariables false
theorem szCel : (Try.prog.info? 63).map (·.size) = some 2 := by kernel_rfl
theorem oneCel (x : Cel) : ∀ u ∈ x.enc, u.oneCell' = true := by intro u hu; simp [Cel.enc] at hu; rcases hu with rfl | rfl <;> rfl
theorem boxCel {w : World} {p : Nat} {x0 x1 : Int} (hv : w.heap[p]? = some (.cells #[.int .i64 x0, .int .i64 x1] 63 (0, 0))) : ∀ (j : Nat) (u : Value), ((⟨x0, x1⟩ : Cel).enc)[j]? = some u → w.cell? ((⟨p, 0, none⟩ : Addr).add j) = some u := fun j u hj => by
  rw [Addr.add_lit, Nat.zero_add, bx_cell hv j]
  simpa [Cel.enc] using hj
theorem szSea : (Try.prog.info? 65).map (·.size) = some 3 := by kernel_rfl
theorem oneSea (x : Sea) : ∀ u ∈ x.enc, u.oneCell' = true := by intro u hu; simp [Sea.enc] at hu; rcases hu with rfl | rfl | rfl <;> rfl
theorem boxSea {w : World} {p : Nat} {x0 x1 x2 : Int} (hv : w.heap[p]? = some (.cells #[.int .i64 x0, .int .i64 x1, .int .i64 x2] 65 (0, 0))) : ∀ (j : Nat) (u : Value), ((⟨x0, x1, x2⟩ : Sea).enc)[j]? = some u → w.cell? ((⟨p, 0, none⟩ : Addr).add j) = some u := fun j u hj => by
  rw [Addr.add_lit, Nat.zero_add, bx_cell hv j]
  simpa [Sea.enc] using hj
end Go.Proofs.Ytednimdklbmjgaa
