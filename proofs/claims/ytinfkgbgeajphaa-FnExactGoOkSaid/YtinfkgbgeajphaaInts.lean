/- What a struct of whole numbers, structs of them among its fields, reads as: whole numbers. -/
import Derived.Test.YtinfkgbgeajphaaLaw
namespace Go.Proofs.Ytinfkgbgeajphaa
open Go.ChangeShapes Go.WideShapes Go.ChangeAt Go.RowKit Go.Joins Go.Deep
set_option linter.unusedVariables false

def allInts (P : Program) : Nat → TypeId → Bool
  | 0, _ => false
  | n + 1, t => match P.underlying t with
    | some (.int .i64) => true
    | some (.struct fs) => (List.range (P.cellsOf t)).all fun j => (List.range fs.size).any fun i => match fs[i]? with
      | some f => decide (f.offset ≤ j) && decide (j < f.offset + P.cellsOf f.type) && allInts P n f.type
      | none => false
    | _ => false

theorem trod_ints {H : Type} {enc : TypeId × Value → H} {P : Program} {w : World} {base : Nat} {spare : Nat → Bool} {held : Bool} : ∀ (n : Nat) (t : TypeId) (fuel : Nat) (cs : List Value) (x : DataW H × List MemPlace),
    allInts P n t = true → DataW.trod enc P w base spare held fuel t cs = some x → ∀ j, j < cs.length → ∃ z : Int, cs[j]? = some (.int .i64 z)
  | 0, _, _, _, _, h, _, _, _ => by simp [allInts] at h
  | n + 1, t, fuel, cs, x, h, ht, j, hj => by
    unfold allInts at h
    split at h
    · rename_i hu
      obtain ⟨z, rfl, _⟩ := DataW.trod_int hu ht
      simp only [List.length_singleton] at hj
      obtain rfl : j = 0 := by omega
      exact ⟨z, rfl⟩
    · rename_i fs hu
      obtain ⟨ys, m, rfl, hy, hlen, hyl, hff⟩ := DataW.trod_struct hu ht
      rw [hlen] at hj
      have h1 := List.all_eq_true.1 h j (List.mem_range.2 hj)
      obtain ⟨i, hi, h2⟩ := List.any_eq_true.1 h1
      split at h2
      · rename_i f hf
        simp only [Bool.and_eq_true, decide_eq_true_eq] at h2
        obtain ⟨⟨h3, h4⟩, h5⟩ := h2
        have h6 := hff i f hf
        have hil : i < ys.length := by rw [hyl]; exact (List.mem_range.1 hi)
        rw [List.getElem?_eq_getElem hil] at h6
        obtain ⟨z, hz⟩ := trod_ints n f.type m _ _ h5 h6 (j - f.offset) (by simp only [List.length_take, List.length_drop]; omega)
        refine ⟨z, ?_⟩
        rw [List.getElem?_take, if_pos (by omega), List.getElem?_drop] at hz
        rwa [show f.offset + (j - f.offset) = j by omega] at hz
      · cases h2
    · cases h

/-- such a struct, by value -/
theorem open_ints {P : Program} {H : Type} {enc : TypeId × Value → H} {W : World} {base b0 : Nat} {sp : Nat → Bool} {held : Bool} {t : TypeId} {fs : Array Field} {v : Value} {d : DataW H} {p : List MemPlace} (k : Nat)
    (hu : P.underlying t = some (.struct fs)) (hk : P.cellsOf t = k) (ha : allInts P 5 t = true) (hv : Value.okWide P W .any base t v) (h : DataW.Trod enc P W b0 sp held t v d p) : ∃ zs : List Int, zs.length = k ∧ v = .agg (zs.map (Value.int .i64)).toArray := by
  obtain ⟨cs, rfl, hsz⟩ := okWide_struct hu hv
  obtain ⟨fuel, hf⟩ := h
  have hi := trod_ints 5 t fuel _ _ ha hf
  have hi : ∀ j, j < cs.toList.length → ∃ z : Int, cs.toList[j]? = some (.int .i64 z) := hi
  obtain ⟨zs, hl, hz⟩ : ∃ l : List Int, l.length = cs.toList.length ∧ ∀ i (hi : i < l.length), cs.toList[i]? = some (.int .i64 l[i]) := by
    clear hf hv
    generalize cs.toList = l at hi
    clear hsz
    induction l with
    | nil => exact ⟨[], rfl, fun i hi => absurd hi (by simp)⟩
    | cons a l ih =>
      obtain ⟨zs, h1, h2⟩ := ih (fun j hj => by simpa using hi (j + 1) (by simp; omega))
      obtain ⟨z, hz⟩ := hi 0 (by simp)
      refine ⟨z :: zs, by simp [h1], fun i hi => ?_⟩
      cases i with
      | zero => simpa using hz
      | succ i => simpa using h2 i (by simpa using hi)
  refine ⟨zs, by rw [hl, ← hk, ← hsz]; simp, ?_⟩
  congr 1
  apply Array.ext'
  apply List.ext_getElem?
  intro i
  by_cases hin : i < zs.length
  · rw [hz i hin]; simp [hin]
  · rw [List.getElem?_eq_none (by omega), List.getElem?_eq_none (by simp; omega)]

theorem list8 {α : Type} {l : List α} (h : l.length = 8) : ∃ a b c d e f g i, l = [a, b, c, d, e, f, g, i] := by
  match l, h with
  | [a, b, c, d, e, f, g, i], _ => exact ⟨a, b, c, d, e, f, g, i, rfl⟩
end Go.Proofs.Ytinfkgbgeajphaa
