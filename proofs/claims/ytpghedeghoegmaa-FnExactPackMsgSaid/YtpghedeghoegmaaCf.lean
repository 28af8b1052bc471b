/- Cells that ascend: where one is, and its value, of the program. -/
import Derived.Test.YtpghedeghoegmaaBs
namespace Go.Proofs.Ytpghedeghoegmaa
open Go.ChangeShapes Go.WideShapes Go.ChangeAt Go.RowKit Go.Sort
set_option linter.unusedVariables false
set_option linter.unusedSimpArgs false

/-- cells that are right -/
structure CsOk (l : List Cel) : Prop where
  len : l.length ≤ 40
  num : ∀ (i : Nat) (h : i < l.length), 0 ≤ l[i].key ∧ l[i].key ≤ 1000000000 ∧ 0 ≤ l[i].value ∧ l[i].value ≤ 1000000000
  asc : ∀ (i j : Nat) (hi : i < l.length) (hj : j < l.length), i < j → l[i].key < l[j].key
theorem CTo.ok {l : List Cel} (h : CTo l l.length) (hl : l.length ≤ 40) : CsOk l := by
  have hs : ∀ (i : Nat) (h : i < l.length), (wh l[i].key && wh l[i].value && cLow l i l[i].key) = true := fun i hi => by rw [← cStep_at hi]; exact h i hi
  refine ⟨hl, fun i hi => ?_, fun i j hi hj hij => ?_⟩
  · have := hs i hi
    simp only [wh, inB, Bool.and_eq_true, decide_eq_true_eq] at this
    omega
  · have hadj : ∀ (k : Nat) (hk : k + 1 < l.length), l[k].key < l[k + 1].key := fun k hk => by
      have h1 := hs (k + 1) hk
      rw [cLow_at (show k < l.length by omega)] at h1
      simp only [Bool.and_eq_true, Bool.not_eq_true', decide_eq_false_iff_not] at h1
      omega
    have hup : ∀ (d : Nat) (hd : i + 1 + d < l.length), l[i].key < l[i + 1 + d].key := fun d => by
      induction d with
      | zero => intro hd; exact hadj i hd
      | succ d ih =>
        intro hd
        have h1 := ih (by omega)
        have h2 := hadj (i + 1 + d) (by omega)
        simp only [Nat.add_assoc] at h1 h2 ⊢
        omega
    have := hup (j - (i + 1)) (by omega)
    simp only [show i + 1 + (j - (i + 1)) = j by omega] at this
    exact this
/-- how many cells lie below the key -/
def lbC : List Cel → Int → Nat
  | [], _ => 0
  | x :: r, t => if x.key - t < 0 then lbC r t + 1 else 0
theorem lbC_le : ∀ (l : List Cel) (t : Int), lbC l t ≤ l.length
  | [], _ => Nat.le_refl _
  | x :: r, t => by
    have := lbC_le r t
    unfold lbC
    split <;> simp <;> omega
theorem lbC_lo : ∀ {l : List Cel} {t : Int} (i : Nat) (h : i < l.length), i < lbC l t → l[i].key - t < 0
  | [], _, i, h, _ => absurd h (by simp)
  | x :: r, t, i, h, hi => by
    unfold lbC at hi
    by_cases hx : x.key - t < 0
    · rw [if_pos hx] at hi
      cases i with
      | zero => exact hx
      | succ i => exact lbC_lo (l := r) i (by simpa using h) (by omega)
    · rw [if_neg hx] at hi
      omega
theorem lbC_at : ∀ {l : List Cel} {t : Int} (n : Nat) (_ : lbC l t = n) (h : n < l.length), ¬ l[n].key - t < 0
  | [], _, _, _, h => absurd h (by simp)
  | x :: r, t, n, hn, h => by
    unfold lbC at hn
    by_cases hx : x.key - t < 0
    · rw [if_pos hx] at hn
      subst hn
      exact lbC_at (l := r) _ rfl (by simpa using h)
    · rw [if_neg hx] at hn
      subst hn
      exact hx
theorem lbC_hi {l : List Cel} {t : Int} (ha : CsOk l) (i : Nat) (h : i < l.length) (hi : lbC l t ≤ i) : ¬ l[i].key - t < 0 := by
  have h0 : lbC l t < l.length := by omega
  have h1 := lbC_at (lbC l t) rfl h0
  by_cases he : lbC l t = i
  · simp only [he] at h1; exact h1
  · have := ha.asc (lbC l t) i h0 h (by omega)
    omega
def hasC (l : List Cel) (t : Int) : Bool := match l[lbC l t]? with | some x => x.key - t == 0 | none => false
def valC (l : List Cel) (t : Int) : Int := match l[lbC l t]? with | some x => if (x.key - t == 0) = true then x.value else -1 | none => -1

end Go.Proofs.Ytpghedeghoegmaa
