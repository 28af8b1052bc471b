/- A slice of bytes that came in. -/
import Derived.Test.YtednimdklbmjgaaOpen
import Derived.Test.YtednimdklbmjgaaCur
namespace Go.Proofs.Ytednimdklbmjgaa
open Go.ChangeShapes Go.WideShapes Go.ChangeAt Go.RowKit Go.Joins Go.Deep
set_option linter.unusedVariables false

/-- the bytes, however many -/
def BytesR (w : World) (A : Option Addr) (n : Nat) : Prop := 0 < n → ∃ b o, A = some ⟨b, o, none⟩ ∧ b < w.heap.size ∧ ∀ k, k < n → ∃ y : Nat, y ≤ 255 ∧ w.cell? ⟨b, o + k, none⟩ = some (.int .u8 y)
theorem Try.cellsU8 : Try.prog.cellsOf 5 = 1 := by kernel_rfl
set_option maxRecDepth 100000 in
theorem open_code {H : Type} {enc : TypeId × Value → H} {W : World} {base b0 : Nat} {sp : Nat → Bool} {held : Bool} {v : Value} {d : DataW H} {p : List MemPlace}
    (hv : Value.okWide Try.prog W .any base 22 v) (h : DataW.Trod enc Try.prog W b0 sp held 22 v d p) : ∃ A n c, v = .slice A n c ∧ n ≤ c ∧ c ≤ maxLen ∧ BytesR W A n := by
  obtain ⟨a0, len, cap, rfl⟩ := okWide_slice Try.underlying22 hv
  obtain ⟨fuel, hf⟩ := h
  rcases open_slice Try.underlying22 hf with ⟨hcs, hx⟩ | ⟨a, len', cap', m, n, D, Pl, hcs, hb, hl, hm, hmm, hx, hi⟩
  · simp only [Value.cells, List.cons.injEq, and_true, Value.slice.injEq] at hcs
    obtain ⟨rfl, rfl, rfl⟩ := hcs
    exact ⟨none, 0, 0, rfl, Nat.le_refl _, by unfold maxLen; omega, fun h => absurd h (by simp)⟩
  · simp only [Value.cells, List.cons.injEq, and_true, Value.slice.injEq] at hcs
    obtain ⟨rfl, rfl, rfl⟩ := hcs
    have hlm : len ≤ m := by rw [hmm]; split <;> omega
    refine ⟨some a, len, cap, rfl, hl, hm, fun hpos => ?_⟩
    have each : ∀ i, i < len → ∃ y : Nat, y ≤ 255 ∧ W.cell? (a.add i) = some (.int .u8 y) := by
      intro i hin
      obtain ⟨cs', hc, ht'⟩ := hi i (by omega)
      rw [Try.cellsU8, Nat.mul_one] at hc
      obtain ⟨_, hcl, hat⟩ := World.cells?_some hc
      obtain ⟨z, hz, _, hwf⟩ := DataW.trod_int Try.underlying5 ht'
      have h0 := hat 0 (by omega)
      rw [hz] at h0
      have hb2 : 0 ≤ z ∧ z ≤ 255 := by simpa [Lit.wf, IntKind.min, IntKind.max, IntKind.signed, IntKind.bits] using hwf
      refine ⟨z.toNat, by omega, ?_⟩
      rw [show ((z.toNat : Nat) : Int) = z by omega]
      simpa [Addr.add] using h0
    obtain ⟨b, o, s⟩ := a
    obtain ⟨y0, _, hc0⟩ := each 0 hpos
    have hs : s = none := by
      cases s with
      | none => rfl
      | some q =>
        exfalso
        simp [Addr.add, World.cell?] at hc0
        split at hc0 <;> simp at hc0
    subst hs
    have hlt : b < W.heap.size := by
      have := block_lt_of_cell hc0
      simpa [Addr.add] using this
    refine ⟨b, o, rfl, hlt, fun k hk => ?_⟩
    obtain ⟨y, hy, hc⟩ := each k hk
    refine ⟨y, hy, ?_⟩
    rwa [Addr.add_lit] at hc
end Go.Proofs.Ytednimdklbmjgaa
