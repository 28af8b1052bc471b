/- MsgFits of the program and of the reference agree. -/
import Derived.Test.YtpghedeghoegmaaPk16
import Derived.Test.YtpghedeghoegmaaPk10
namespace Go.Proofs.Ytpghedeghoegmaa
open Go.ChangeShapes Go.WideShapes Go.ChangeAt Go.RowKit Go.Sort
set_option linter.unusedVariables false
set_option linter.unusedSimpArgs false

def iAll (m : Mg) (f : ByteArray) : Bool := iFld m f 0 && (iFld m f 1 && (iFld m f 2 && (iFld m f 3 && (iFld m f 4 && (iFld m f 5 && (iFld m f 6 && (iFld m f 7 && iFld m f 8)))))))
theorem iTo_all (m : Mg) (f : ByteArray) : decide (iTo m f 9) = iAll m f := by
  rw [Bool.eq_iff_iff, decide_eq_true_iff]
  simp only [iAll, Bool.and_eq_true]
  constructor
  · intro h
    exact ⟨h 0 (by omega), h 1 (by omega), h 2 (by omega), h 3 (by omega), h 4 (by omega), h 5 (by omega), h 6 (by omega), h 7 (by omega), h 8 (by omega)⟩
  · rintro ⟨h0, h1, h2, h3, h4, h5, h6, h7, h8⟩ j hj
    have h9 : j = 0 ∨ j = 1 ∨ j = 2 ∨ j = 3 ∨ j = 4 ∨ j = 5 ∨ j = 6 ∨ j = 7 ∨ j = 8 := by omega
    rcases h9 with rfl | rfl | rfl | rfl | rfl | rfl | rfl | rfl | rfl <;> assumption
def iBits (f : ByteArray) : List Bool := [sHas f 70, sHas f 86, sHas f 79, sHas f 67, sHas f 78, sHas f 110, sHas f 99, sHas f 114, sHas f 65, sHas f 120, sHas f 76, f.toList.isEmpty]
def sBits (f : ByteArray) : List Bool := [sHas f 102, sHas f 118, sHas f 111, sHas f 99, sHas f 110, sHas f 107, sHas f 67, sHas f 82, sHas f 65, sHas f 100, sHas f 108, f.toList.isEmpty]
set_option maxRecDepth 100000 in
theorem bits_eq (k : Int) : iBits (iForm k) = sBits (sForm k) ∧ (sHas (sForm k) 108 = false → sHas (sForm k) 110 = false) := by
  unfold iForm sForm
  repeat' split
  all_goals (first | contradiction | decide +kernel)
theorem iLets : iLet 0 = 70 ∧ iLet 1 = 86 ∧ iLet 2 = 79 ∧ iLet 3 = 67 ∧ iLet 4 = 78 ∧ iLet 5 = 110 ∧ iLet 6 = 99 ∧ iLet 7 = 114 ∧ iLet 8 = 65 := by decide
theorem fOne_num (h : Bool) (b x lo hi : Int) (he : fOk b x = inB x lo hi) : fOne h b x = numOk h x lo hi := by unfold fOne numOk; rw [he]
theorem fits_eq (m : Mg) : iFits m = sFits m := by
  obtain ⟨hb, hn⟩ := bits_eq m.kind
  unfold iFits sFits
  rw [iTo_all]
  generalize iForm m.kind = F at *
  generalize sForm m.kind = S at *
  simp only [iBits, sBits, List.cons.injEq, and_true] at hb
  obtain ⟨e1, e2, e3, e4, e5, e6, e7, e8, e9, e10, e11, e12⟩ := hb
  obtain ⟨l0, l1, l2, l3, l4, l5, l6, l7, l8⟩ := iLets
  simp only [iAll, iFld, l0, l1, l2, l3, l4, l5, l6, l7, l8, iVal, e1, e2, e3, e4, e5, e6, e7, e8, e9, e12, sN]
  rw [fOne_num _ 70 m.frm 0 4 (by simp [fOk]), fOne_num _ 86 m.view 0 1000000000 (by simp [fOk]), fOne_num _ 79 m.op 0 1000000000 (by simp [fOk]), fOne_num _ 67 m.commit 0 1000000000 (by simp [fOk]), fOne_num _ 78 m.normal 0 1000000000 (by simp [fOk]), fOne_num _ 110 m.nonce 0 1000000000 (by simp [fOk]), fOne_num _ 99 m.client 0 1000000000 (by simp [fOk]), fOne_num _ 114 m.req 1 1000000000 (by simp [fOk]), fOne_num _ 65 m.answer (-1) 1000000000 (by simp [fOk])]
  have hc : iCmd m F = sCmd m S := by unfold iCmd sCmd; rw [e10]
  rw [hc]
  have hkey : numOk (sHas S 118) m.view 0 1000000000 = true → numOk (sHas S 110) m.normal 0 1000000000 = true → sHas S 108 = false → decide (m.normal ≤ m.view) = true := by
    intro hv hm hl
    rw [hn hl] at hm
    simp only [numOk, Bool.false_and, Bool.not_false, Bool.true_and, Bool.false_or, beq_iff_eq] at hm
    have h0 : 0 ≤ m.view := by
      unfold numOk inB at hv
      cases hs : sHas S 118 <;> simp [hs] at hv <;> omega
    simp
    omega
  unfold iLog sLog
  rw [e11]
  generalize numOk (sHas S 102) m.frm 0 4 = b1 at *
  generalize numOk (sHas S 118) m.view 0 1000000000 = b2 at *
  generalize numOk (sHas S 111) m.op 0 1000000000 = b3 at *
  generalize numOk (sHas S 99) m.commit 0 1000000000 = b4 at *
  generalize numOk (sHas S 110) m.normal 0 1000000000 = b5 at *
  generalize numOk (sHas S 107) m.nonce 0 1000000000 = b6 at *
  generalize numOk (sHas S 67) m.client 0 1000000000 = b7 at *
  generalize numOk (sHas S 82) m.req 1 1000000000 = b8 at *
  generalize numOk (sHas S 65) m.answer (-1) 1000000000 = b9 at *
  generalize decide (m.normal ≤ m.view) = d at *
  generalize hasNum m.log m.commit = x at *
  generalize isZ m.log = y at *
  generalize sCmd m S = c at *
  generalize S.toList.isEmpty = z at *
  cases hl : sHas S 108
  · have hk := fun a b => hkey a b hl
    rw [Bool.eq_iff_iff]
    simp only [Bool.and_eq_true, Bool.false_eq_true, if_false]
    constructor
    · rintro ⟨⟨⟨h0, h1, h2, h3, h4, h5, h6, h7, h8, h9⟩, h10⟩, h11⟩
      exact ⟨h0, h1, h8, h9, h2, h3, h4, h5, h6, h7, ⟨h10, hk h2 h5⟩, h11⟩
    · rintro ⟨h0, h1, h8, h9, h2, h3, h4, h5, h6, h7, ⟨h10, _⟩, h11⟩
      exact ⟨⟨⟨h0, h1, h2, h3, h4, h5, h6, h7, h8, h9⟩, h10⟩, h11⟩
  · rw [Bool.eq_iff_iff]
    simp only [Bool.and_eq_true, if_true]
    constructor
    · rintro ⟨⟨⟨h0, h1, h2, h3, h4, h5, h6, h7, h8, h9⟩, h10⟩, h11, h12⟩
      exact ⟨h0, h1, h8, h9, h2, h3, h4, h5, h6, h7, ⟨h10, h12⟩, h11⟩
    · rintro ⟨h0, h1, h8, h9, h2, h3, h4, h5, h6, h7, ⟨h10, h12⟩, h11⟩
      exact ⟨⟨⟨h0, h1, h2, h3, h4, h5, h6, h7, h8, h9⟩, h10⟩, h11, h12⟩
end Go.Proofs.Ytpghedeghoegmaa

/- Search in rows of cells and seats. -/
namespace Go.Proofs.Ytpghedeghoegmaa
open Go.ChangeShapes Go.WideShapes Go.ChangeAt Go.RowKit Go.Sort
set_option linter.unusedVariables false
set_option linter.unusedSimpArgs false

end Go.Proofs.Ytpghedeghoegmaa

/- Cells that ascend: where one is, and its value, of the program. -/
namespace Go.Proofs.Ytpghedeghoegmaa
open Go.ChangeShapes Go.WideShapes Go.ChangeAt Go.RowKit Go.Sort
set_option linter.unusedVariables false
set_option linter.unusedSimpArgs false

/-- cells that are right -/
structure CsOk (l : List Cel) : Prop where
  len : l.length ≤ 40
  num : ∀ (i : Nat) (h : i < l.length), 0 ≤ l[i].key ∧ l[i].key ≤ 1000000000 ∧ 0 ≤ l[i].value ∧ l[i].value ≤ 1000000000
  asc : ∀ (i j : Nat) (hi : i < l.length) (hj : j < l.length), i < j → l[i].key < l[j].key
theorem CTo.ok {l : List Cel} (h : CTo l l.length) (hl : l.length ≤ 40) : CsOk l := by
  have hs : ∀ (i : Nat) (h : i < l.length), (wh l[i].key && wh l[i].value && cLow l i l[i].key) = true := fun i hi => by rw [← cStep_at hi]; exact h i hi
  refine ⟨hl, fun i hi => ?_, fun i j hi hj hij => ?_⟩
  · have := hs i hi
    simp only [wh, inB, Bool.and_eq_true, decide_eq_true_eq] at this
    omega
  · have hadj : ∀ (k : Nat) (hk : k + 1 < l.length), l[k].key < l[k + 1].key := fun k hk => by
      have h1 := hs (k + 1) hk
      rw [cLow_at (show k < l.length by omega)] at h1
      simp only [Bool.and_eq_true, Bool.not_eq_true', decide_eq_false_iff_not] at h1
      omega
    have hup : ∀ (d : Nat) (hd : i + 1 + d < l.length), l[i].key < l[i + 1 + d].key := fun d => by
      induction d with
      | zero => intro hd; exact hadj i hd
      | succ d ih =>
        intro hd
        have h1 := ih (by omega)
        have h2 := hadj (i + 1 + d) (by omega)
        simp only [Nat.add_assoc] at h1 h2 ⊢
        omega
    have := hup (j - (i + 1)) (by omega)
    simp only [show i + 1 + (j - (i + 1)) = j by omega] at this
    exact this
/-- how many cells lie below the key -/
def lbC : List Cel → Int → Nat
  | [], _ => 0
  | x :: r, t => if x.key - t < 0 then lbC r t + 1 else 0
theorem lbC_le : ∀ (l : List Cel) (t : Int), lbC l t ≤ l.length
  | [], _ => Nat.le_refl _
  | x :: r, t => by
    have := lbC_le r t
    unfold lbC
    split <;> simp <;> omega
def hasC (l : List Cel) (t : Int) : Bool := match l[lbC l t]? with | some x => x.key - t == 0 | none => false
def valC (l : List Cel) (t : Int) : Int := match l[lbC l t]? with | some x => if (x.key - t == 0) = true then x.value else -1 | none => -1

end Go.Proofs.Ytpghedeghoegmaa

/- Seats that ascend: where one is, of the program. -/
namespace Go.Proofs.Ytpghedeghoegmaa
open Go.ChangeShapes Go.WideShapes Go.ChangeAt Go.RowKit Go.Sort
set_option linter.unusedVariables false
set_option linter.unusedSimpArgs false

/-- seats that are right -/
structure SsOk (l : List Sea) : Prop where
  len : l.length ≤ 10
  num : ∀ (i : Nat) (h : i < l.length), 0 ≤ l[i].client ∧ l[i].client ≤ 1000000000 ∧ 1 ≤ l[i].req ∧ l[i].req ≤ 1000000000 ∧ -1 ≤ l[i].answer ∧ l[i].answer ≤ 1000000000
  asc : ∀ (i j : Nat) (hi : i < l.length) (hj : j < l.length), i < j → l[i].client < l[j].client
theorem STo.ok {l : List Sea} (h : STo l l.length) (hl : l.length ≤ 10) : SsOk l := by
  have hs : ∀ (i : Nat) (h : i < l.length), (wh l[i].client && inB l[i].req 1 1000000000 && inB l[i].answer (-1) 1000000000 && sLow l i l[i].client) = true := fun i hi => by rw [← sStep_at hi]; exact h i hi
  refine ⟨hl, fun i hi => ?_, fun i j hi hj hij => ?_⟩
  · have := hs i hi
    simp only [wh, inB, Bool.and_eq_true, decide_eq_true_eq] at this
    omega
  · have hadj : ∀ (k : Nat) (hk : k + 1 < l.length), l[k].client < l[k + 1].client := fun k hk => by
      have h1 := hs (k + 1) hk
      rw [sLow_at (show k < l.length by omega)] at h1
      simp only [Bool.and_eq_true, Bool.not_eq_true', decide_eq_false_iff_not] at h1
      omega
    have hup : ∀ (d : Nat) (hd : i + 1 + d < l.length), l[i].client < l[i + 1 + d].client := fun d => by
      induction d with
      | zero => intro hd; exact hadj i hd
      | succ d ih =>
        intro hd
        have h1 := ih (by omega)
        have h2 := hadj (i + 1 + d) (by omega)
        simp only [Nat.add_assoc] at h1 h2 ⊢
        omega
    have := hup (j - (i + 1)) (by omega)
    simp only [show i + 1 + (j - (i + 1)) = j by omega] at this
    exact this
/-- how many cells lie below the key -/
def lbS : List Sea → Int → Nat
  | [], _ => 0
  | x :: r, t => if x.client - t < 0 then lbS r t + 1 else 0
theorem lbS_le : ∀ (l : List Sea) (t : Int), lbS l t ≤ l.length
  | [], _ => Nat.le_refl _
  | x :: r, t => by
    have := lbS_le r t
    unfold lbS
    split <;> simp <;> omega
def hasS (l : List Sea) (t : Int) : Bool := match l[lbS l t]? with | some x => x.client - t == 0 | none => false


end Go.Proofs.Ytpghedeghoegmaa

