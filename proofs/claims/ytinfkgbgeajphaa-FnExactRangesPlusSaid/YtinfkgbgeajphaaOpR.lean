/- Arguments that are slices of ranges, opened. -/
import Derived.Test.YtinfkgbgeajphaaOpen
import Derived.Test.YtinfkgbgeajphaaFlR
namespace Go.Proofs.Ytinfkgbgeajphaa
open Go.ChangeShapes Go.WideShapes Go.ChangeAt Go.RowKit Go.Joins Go.Deep
set_option linter.unusedVariables false

theorem Try.cellsRows_Rng : Try.prog.cellsOf 23 = 2 := by kernel_rfl

set_option maxRecDepth 100000 in
theorem open_RangeS {H : Type} {enc : TypeId × Value → H} {W : World} {base b0 : Nat} {sp : Nat → Bool} {held : Bool} {v : Value} {d : DataW H} {p : List MemPlace}
    (hv : Value.okWide Try.prog W .any base 32 v) (h : DataW.Trod enc Try.prog W b0 sp held 32 v d p) : ∃ A c l, v = .slice A l.length c ∧ Rd Rng.enc 2 W A c l := by
  obtain ⟨A, c, rows, rfl, hr, hl, hm, hc⟩ := open_flat Try.underlying32 Try.underlying23 (by kernel_rfl) (fun j f hf => by
    match j with
    | 0 => simp at hf; subst hf; exact Try.underlying3
    | 1 => simp at hf; subst hf; exact Try.underlying3
    | j + 2 => simp at hf) Try.cellsRows_Rng (by decide) hv h
  refine ⟨A, c, rows.map (fun r => ⟨r.getD 0 0, r.getD 1 0⟩), by simp, by simpa using hl, hm, fun hpos => ?_⟩
  obtain ⟨b, o, e, hb, hcell⟩ := hc (by simpa using hpos)
  refine ⟨b, o, e, hb, fun k hk j u hu => ?_⟩
  have hk' : k < rows.length := by simpa using hk
  refine hcell k hk' j u ?_
  have hlen := hr rows[k] (List.getElem_mem hk')
  rw [← hu]
  simp only [List.getElem_map, Rng.enc]
  match hrow : rows[k], hlen with
  | [x0, x1], _ => simp
end Go.Proofs.Ytinfkgbgeajphaa
