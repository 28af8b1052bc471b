/- slices.Insert at any own row; the program's put. -/
import Derived.Test.YtednimdklbmjgaaIa
import Derived.Test.YtednimdklbmjgaaIm
namespace Go.Proofs.Ytednimdklbmjgaa
open Go.ChangeShapes Go.WideShapes Go.ChangeAt Go.RowKit Go.Sort
set_option linter.unusedVariables false
set_option linter.unusedSimpArgs false

theorem put_set {l : List Cel} {t v : Int} (h : hasC l t = true) : ∃ h : lbC l t < l.length, l[lbC l t].key = t ∧ putC l t v = l.set (lbC l t) ⟨t, v⟩ := by
  have hl : lbC l t < l.length := by
    rcases Nat.lt_or_ge (lbC l t) l.length with h3 | h3
    · exact h3
    · unfold hasC at h; rw [List.getElem?_eq_none h3] at h; simp at h
  refine ⟨hl, ?_, ?_⟩
  · unfold hasC at h
    rw [List.getElem?_eq_getElem hl] at h
    simp only [beq_iff_eq] at h
    omega
  · unfold putC
    rw [if_pos h, List.set_eq_take_append_cons_drop, if_pos hl]
    rfl
theorem val_row (l : List Cel) (k : Nat) (hk : k < l.length) (t v : Int) (ht : l[k].key = t) : (l.flatMap Cel.enc).set (k * 2 + 1) (.int .i64 v) = (l.set k ⟨t, v⟩).flatMap Cel.enc := by
  have h := setAll_one Cel.enc_len l k hk ⟨t, v⟩
  rw [← h]
  have g0 := flat_get Cel.enc_len l k hk 0 (by omega)
  have e0 : (l.flatMap Cel.enc).set (k * 2) (.int .i64 t) = l.flatMap Cel.enc := list_set_self (by simpa [hk, Cel.enc, ht] using g0)
  simp only [Cel.enc, setAll]
  rw [e0]
end Go.Proofs.Ytednimdklbmjgaa
