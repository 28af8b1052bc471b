/- MsgFits of the program and of the reference agree. -/
import Derived.Test.YtpghedeghoegmaaMs
namespace Go.Proofs.Ytpghedeghoegmaa
open Go.ChangeShapes Go.WideShapes Go.ChangeAt Go.RowKit Go.Sort
set_option linter.unusedVariables false
set_option linter.unusedSimpArgs false

def iAll (m : Mg) (f : ByteArray) : Bool := iFld m f 0 && (iFld m f 1 && (iFld m f 2 && (iFld m f 3 && (iFld m f 4 && (iFld m f 5 && (iFld m f 6 && (iFld m f 7 && iFld m f 8)))))))
theorem iTo_all (m : Mg) (f : ByteArray) : decide (iTo m f 9) = iAll m f := by
  rw [Bool.eq_iff_iff, decide_eq_true_iff]
  simp only [iAll, Bool.and_eq_true]
  constructor
  · intro h
    exact ⟨h 0 (by omega), h 1 (by omega), h 2 (by omega), h 3 (by omega), h 4 (by omega), h 5 (by omega), h 6 (by omega), h 7 (by omega), h 8 (by omega)⟩
  · rintro ⟨h0, h1, h2, h3, h4, h5, h6, h7, h8⟩ j hj
    have h9 : j = 0 ∨ j = 1 ∨ j = 2 ∨ j = 3 ∨ j = 4 ∨ j = 5 ∨ j = 6 ∨ j = 7 ∨ j = 8 := by omega
    rcases h9 with rfl | rfl | rfl | rfl | rfl | rfl | rfl | rfl | rfl <;> assumption
def iBits (f : ByteArray) : List Bool := [sHas f 70, sHas f 86, sHas f 79, sHas f 67, sHas f 78, sHas f 110, sHas f 99, sHas f 114, sHas f 65, sHas f 120, sHas f 76, f.toList.isEmpty]
def sBits (f : ByteArray) : List Bool := [sHas f 102, sHas f 118, sHas f 111, sHas f 99, sHas f 110, sHas f 107, sHas f 67, sHas f 82, sHas f 65, sHas f 100, sHas f 108, f.toList.isEmpty]
set_option maxRecDepth 100000 in
theorem bits_eq (k : Int) : iBits (iForm k) = sBits (sForm k) ∧ (sHas (sForm k) 108 = false → sHas (sForm k) 110 = false) := by
  unfold iForm sForm
  repeat' split
  all_goals (first | contradiction | decide +kernel)
theorem iLets : iLet 0 = 70 ∧ iLet 1 = 86 ∧ iLet 2 = 79 ∧ iLet 3 = 67 ∧ iLet 4 = 78 ∧ iLet 5 = 110 ∧ iLet 6 = 99 ∧ iLet 7 = 114 ∧ iLet 8 = 65 := by decide
theorem fOne_num (h : Bool) (b x lo hi : Int) (he : fOk b x = inB x lo hi) : fOne h b x = numOk h x lo hi := by unfold fOne numOk; rw [he]
theorem fits_eq (m : Mg) : iFits m = sFits m := by
  obtain ⟨hb, hn⟩ := bits_eq m.kind
  unfold iFits sFits
  rw [iTo_all]
  generalize iForm m.kind = F at *
  generalize sForm m.kind = S at *
  simp only [iBits, sBits, List.cons.injEq, and_true] at hb
  obtain ⟨e1, e2, e3, e4, e5, e6, e7, e8, e9, e10, e11, e12⟩ := hb
  obtain ⟨l0, l1, l2, l3, l4, l5, l6, l7, l8⟩ := iLets
  simp only [iAll, iFld, l0, l1, l2, l3, l4, l5, l6, l7, l8, iVal, e1, e2, e3, e4, e5, e6, e7, e8, e9, e12, sN]
  rw [fOne_num _ 70 m.frm 0 4 (by simp [fOk]), fOne_num _ 86 m.view 0 1000000000 (by simp [fOk]), fOne_num _ 79 m.op 0 1000000000 (by simp [fOk]), fOne_num _ 67 m.commit 0 1000000000 (by simp [fOk]), fOne_num _ 78 m.normal 0 1000000000 (by simp [fOk]), fOne_num _ 110 m.nonce 0 1000000000 (by simp [fOk]), fOne_num _ 99 m.client 0 1000000000 (by simp [fOk]), fOne_num _ 114 m.req 1 1000000000 (by simp [fOk]), fOne_num _ 65 m.answer (-1) 1000000000 (by simp [fOk])]
  have hc : iCmd m F = sCmd m S := by unfold iCmd sCmd; rw [e10]
  rw [hc]
  have hkey : numOk (sHas S 118) m.view 0 1000000000 = true → numOk (sHas S 110) m.normal 0 1000000000 = true → sHas S 108 = false → decide (m.normal ≤ m.view) = true := by
    intro hv hm hl
    rw [hn hl] at hm
    simp only [numOk, Bool.false_and, Bool.not_false, Bool.true_and, Bool.false_or, beq_iff_eq] at hm
    have h0 : 0 ≤ m.view := by
      unfold numOk inB at hv
      cases hs : sHas S 118 <;> simp [hs] at hv <;> omega
    simp
    omega
  unfold iLog sLog
  rw [e11]
  generalize numOk (sHas S 102) m.frm 0 4 = b1 at *
  generalize numOk (sHas S 118) m.view 0 1000000000 = b2 at *
  generalize numOk (sHas S 111) m.op 0 1000000000 = b3 at *
  generalize numOk (sHas S 99) m.commit 0 1000000000 = b4 at *
  generalize numOk (sHas S 110) m.normal 0 1000000000 = b5 at *
  generalize numOk (sHas S 107) m.nonce 0 1000000000 = b6 at *
  generalize numOk (sHas S 67) m.client 0 1000000000 = b7 at *
  generalize numOk (sHas S 82) m.req 1 1000000000 = b8 at *
  generalize numOk (sHas S 65) m.answer (-1) 1000000000 = b9 at *
  generalize decide (m.normal ≤ m.view) = d at *
  generalize hasNum m.log m.commit = x at *
  generalize isZ m.log = y at *
  generalize sCmd m S = c at *
  generalize S.toList.isEmpty = z at *
  cases hl : sHas S 108
  · have hk := fun a b => hkey a b hl
    rw [Bool.eq_iff_iff]
    simp only [Bool.and_eq_true, Bool.false_eq_true, if_false]
    constructor
    · rintro ⟨⟨⟨h0, h1, h2, h3, h4, h5, h6, h7, h8, h9⟩, h10⟩, h11⟩
      exact ⟨h0, h1, h8, h9, h2, h3, h4, h5, h6, h7, ⟨h10, hk h2 h5⟩, h11⟩
    · rintro ⟨h0, h1, h8, h9, h2, h3, h4, h5, h6, h7, ⟨h10, _⟩, h11⟩
      exact ⟨⟨⟨h0, h1, h2, h3, h4, h5, h6, h7, h8, h9⟩, h10⟩, h11⟩
  · rw [Bool.eq_iff_iff]
    simp only [Bool.and_eq_true, if_true]
    constructor
    · rintro ⟨⟨⟨h0, h1, h2, h3, h4, h5, h6, h7, h8, h9⟩, h10⟩, h11, h12⟩
      exact ⟨h0, h1, h8, h9, h2, h3, h4, h5, h6, h7, ⟨h10, h12⟩, h11⟩
    · rintro ⟨h0, h1, h8, h9, h2, h3, h4, h5, h6, h7, ⟨h10, h12⟩, h11⟩
      exact ⟨⟨⟨h0, h1, h2, h3, h4, h5, h6, h7, h8, h9⟩, h10⟩, h11, h12⟩
end Go.Proofs.Ytpghedeghoegmaa
