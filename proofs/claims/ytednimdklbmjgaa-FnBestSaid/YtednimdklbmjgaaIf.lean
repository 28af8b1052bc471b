/- RunAll, image and Committed of the program. -/
import Derived.Test.YtednimdklbmjgaaIe
import Derived.Test.YtednimdklbmjgaaRd
namespace Go.Proofs.Ytednimdklbmjgaa
open Go.ChangeShapes Go.WideShapes Go.ChangeAt Go.RowKit Go.Sort
set_option linter.unusedVariables false
set_option linter.unusedSimpArgs false

abbrev Ent.zobj : Obj := .cells #[.int .i64 0, .int .i64 0, .int .i64 0, .int .i64 0, .int .i64 0] 53
/-- what RunAll hands back -/
def AlW (B : Nat) (m : Img) (v : Value) (W : World) : Prop := ∃ A c A' c' Z n z, v = .tuple #[Im.val A m.1.length c A' m.2.length c', .slice Z n z] ∧ Ow Cel.enc 63 2 W (B) (.slice A m.1.length c) m.1 ∧ Ow Sea.enc 65 3 W (B) (.slice A' m.2.length c') m.2
theorem AlW.mono (b B : Nat) (m : Img) : Rm.Mono (relE b) (AlW B m) := fun v w w' ⟨A, c, A', c', Z, n, z, h, h1, h2⟩ hx => ⟨A, c, A', c', Z, n, z, h, h1.kept hx, h2.kept hx⟩
theorem AlW.inv {B : Nat} {m : Img} {A A' : Option Addr} {n c n' c' : Nat} {x : Value} {W : World} (h : AlW B m (.tuple #[Im.val A n c A' n' c', x]) W) : Ow Cel.enc 63 2 W (B) (.slice A m.1.length c) m.1 ∧ Ow Sea.enc 65 3 W (B) (.slice A' m.2.length c') m.2 := by
  obtain ⟨A2, c2, A3, c3, _, _, _, he, h1, h2⟩ := h
  simp only [Value.tuple.injEq, Value.agg.injEq, Array.mk.injEq, List.cons.injEq, Value.slice.injEq, true_and, and_true] at he
  obtain ⟨⟨⟨rfl, rfl, rfl⟩, rfl, rfl, rfl⟩, _⟩ := he
  exact ⟨h1, h2⟩
end Go.Proofs.Ytednimdklbmjgaa
