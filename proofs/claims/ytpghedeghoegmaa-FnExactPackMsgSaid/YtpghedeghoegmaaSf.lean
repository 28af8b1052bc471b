/- Seats that ascend: where one is, of the program. -/
import Derived.Test.YtpghedeghoegmaaCf
namespace Go.Proofs.Ytpghedeghoegmaa
open Go.ChangeShapes Go.WideShapes Go.ChangeAt Go.RowKit Go.Sort
set_option linter.unusedVariables false
set_option linter.unusedSimpArgs false

/-- seats that are right -/
structure SsOk (l : List Sea) : Prop where
  len : l.length ≤ 10
  num : ∀ (i : Nat) (h : i < l.length), 0 ≤ l[i].client ∧ l[i].client ≤ 1000000000 ∧ 1 ≤ l[i].req ∧ l[i].req ≤ 1000000000 ∧ -1 ≤ l[i].answer ∧ l[i].answer ≤ 1000000000
  asc : ∀ (i j : Nat) (hi : i < l.length) (hj : j < l.length), i < j → l[i].client < l[j].client
theorem STo.ok {l : List Sea} (h : STo l l.length) (hl : l.length ≤ 10) : SsOk l := by
  have hs : ∀ (i : Nat) (h : i < l.length), (wh l[i].client && inB l[i].req 1 1000000000 && inB l[i].answer (-1) 1000000000 && sLow l i l[i].client) = true := fun i hi => by rw [← sStep_at hi]; exact h i hi
  refine ⟨hl, fun i hi => ?_, fun i j hi hj hij => ?_⟩
  · have := hs i hi
    simp only [wh, inB, Bool.and_eq_true, decide_eq_true_eq] at this
    omega
  · have hadj : ∀ (k : Nat) (hk : k + 1 < l.length), l[k].client < l[k + 1].client := fun k hk => by
      have h1 := hs (k + 1) hk
      rw [sLow_at (show k < l.length by omega)] at h1
      simp only [Bool.and_eq_true, Bool.not_eq_true', decide_eq_false_iff_not] at h1
      omega
    have hup : ∀ (d : Nat) (hd : i + 1 + d < l.length), l[i].client < l[i + 1 + d].client := fun d => by
      induction d with
      | zero => intro hd; exact hadj i hd
      | succ d ih =>
        intro hd
        have h1 := ih (by omega)
        have h2 := hadj (i + 1 + d) (by omega)
        simp only [Nat.add_assoc] at h1 h2 ⊢
        omega
    have := hup (j - (i + 1)) (by omega)
    simp only [show i + 1 + (j - (i + 1)) = j by omega] at this
    exact this
/-- how many cells lie below the key -/
def lbS : List Sea → Int → Nat
  | [], _ => 0
  | x :: r, t => if x.client - t < 0 then lbS r t + 1 else 0
theorem lbS_le : ∀ (l : List Sea) (t : Int), lbS l t ≤ l.length
  | [], _ => Nat.le_refl _
  | x :: r, t => by
    have := lbS_le r t
    unfold lbS
    split <;> simp <;> omega
theorem lbS_lo : ∀ {l : List Sea} {t : Int} (i : Nat) (h : i < l.length), i < lbS l t → l[i].client - t < 0
  | [], _, i, h, _ => absurd h (by simp)
  | x :: r, t, i, h, hi => by
    unfold lbS at hi
    by_cases hx : x.client - t < 0
    · rw [if_pos hx] at hi
      cases i with
      | zero => exact hx
      | succ i => exact lbS_lo (l := r) i (by simpa using h) (by omega)
    · rw [if_neg hx] at hi
      omega
theorem lbS_at : ∀ {l : List Sea} {t : Int} (n : Nat) (_ : lbS l t = n) (h : n < l.length), ¬ l[n].client - t < 0
  | [], _, _, _, h => absurd h (by simp)
  | x :: r, t, n, hn, h => by
    unfold lbS at hn
    by_cases hx : x.client - t < 0
    · rw [if_pos hx] at hn
      subst hn
      exact lbS_at (l := r) _ rfl (by simpa using h)
    · rw [if_neg hx] at hn
      subst hn
      exact hx
theorem lbS_hi {l : List Sea} {t : Int} (ha : SsOk l) (i : Nat) (h : i < l.length) (hi : lbS l t ≤ i) : ¬ l[i].client - t < 0 := by
  have h0 : lbS l t < l.length := by omega
  have h1 := lbS_at (lbS l t) rfl h0
  by_cases he : lbS l t = i
  · simp only [he] at h1; exact h1
  · have := ha.asc (lbS l t) i h0 h (by omega)
    omega
def hasS (l : List Sea) (t : Int) : Bool := match l[lbS l t]? with | some x => x.client - t == 0 | none => false


end Go.Proofs.Ytpghedeghoegmaa
