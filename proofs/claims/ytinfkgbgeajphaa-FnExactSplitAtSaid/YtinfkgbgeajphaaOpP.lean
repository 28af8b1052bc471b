/- Arguments that are slices of parts, opened. -/
import Derived.Test.YtinfkgbgeajphaaOpen
import Derived.Test.YtinfkgbgeajphaaFlP
namespace Go.Proofs.Ytinfkgbgeajphaa
open Go.ChangeShapes Go.WideShapes Go.ChangeAt Go.RowKit Go.Joins Go.Deep
set_option linter.unusedVariables false

theorem Try.cellsRows_Prt : Try.prog.cellsOf 94 = 3 := by kernel_rfl

set_option maxRecDepth 100000 in
theorem open_PartS {H : Type} {enc : TypeId × Value → H} {W : World} {base b0 : Nat} {sp : Nat → Bool} {held : Bool} {v : Value} {d : DataW H} {p : List MemPlace}
    (hv : Value.okWide Try.prog W .any base 56 v) (h : DataW.Trod enc Try.prog W b0 sp held 56 v d p) : ∃ A c l, v = .slice A l.length c ∧ Rd Prt.enc 3 W A c l := by
  obtain ⟨A, c, rows, rfl, hr, hl, hm, hc⟩ := open_flat Try.underlying56 Try.underlying94 (by kernel_rfl) (fun j f hf => by
    match j with
    | 0 => simp at hf; subst hf; exact Try.underlying3
    | 1 => simp at hf; subst hf; exact Try.underlying3
    | 2 => simp at hf; subst hf; exact Try.underlying3
    | j + 3 => simp at hf) Try.cellsRows_Prt (by decide) hv h
  refine ⟨A, c, rows.map (fun r => ⟨r.getD 0 0, r.getD 1 0, r.getD 2 0⟩), by simp, by simpa using hl, hm, fun hpos => ?_⟩
  obtain ⟨b, o, e, hb, hcell⟩ := hc (by simpa using hpos)
  refine ⟨b, o, e, hb, fun k hk j u hu => ?_⟩
  have hk' : k < rows.length := by simpa using hk
  refine hcell k hk' j u ?_
  have hlen := hr rows[k] (List.getElem_mem hk')
  rw [← hu]
  simp only [List.getElem_map, Prt.enc]
  match hrow : rows[k], hlen with
  | [x0, x1, x2], _ => simp
end Go.Proofs.Ytinfkgbgeajphaa
