/- Numbers as bytes, the check of bytes, frames: plain lists, no program in sight. -/
import Derived.Test.YtpghedeghoegmaaGa
namespace Go.Proofs.Ytpghedeghoegmaa
open Go.ChangeShapes Go.WideShapes Go.ChangeAt Go.RowKit Go.Sort
set_option linter.unusedVariables false
set_option linter.unusedSimpArgs false

/-- a number's bytes, seven bits each -/
def putF : Nat → Nat → List Nat
  | 0, x => [x]
  | f + 1, x => if x < 128 then [x] else (x % 128 + 128) :: putF f (x / 128)
def putN (x : Nat) : List Nat := putF x x
theorem putF_any : ∀ (f g x : Nat), x ≤ f → x ≤ g → putF f x = putF g x
  | 0, 0, _, _, _ => rfl
  | 0, g + 1, x, h, _ => by
    obtain rfl : x = 0 := by omega
    rfl
  | f + 1, 0, x, _, h => by
    obtain rfl : x = 0 := by omega
    rfl
  | f + 1, g + 1, x, h, k => by
    unfold putF
    split
    · rfl
    · rw [putF_any f g (x / 128) (by omega) (by omega)]
theorem putN_small {x : Nat} (h : x < 128) : putN x = [x] := by
  unfold putN
  cases x with
  | zero => rfl
  | succ x => rw [putF, if_pos h]
theorem putN_big {x : Nat} (h : ¬ x < 128) : putN x = (x % 128 + 128) :: putN (x / 128) := by
  unfold putN
  cases x with
  | zero => omega
  | succ x =>
    rw [putF, if_neg h, putF_any x ((x + 1) / 128) ((x + 1) / 128) (by omega) (Nat.le_refl _)]
theorem putN_pos (x : Nat) : 0 < (putN x).length := by
  by_cases h : x < 128
  · rw [putN_small h]; simp
  · rw [putN_big h]; simp
/-- read a number: at most f bytes, the k-th one first; the number and how many bytes -/
def getA : Nat → Nat → List Nat → Option (Nat × Nat)
  | 0, _, _ => none
  | _ + 1, _, [] => none
  | f + 1, k, d :: r => if d < 128 then (if d = 0 ∧ 0 < k then none else some (d, 1)) else (getA f (k + 1) r).map fun p => (d % 128 + 128 * p.1, p.2 + 1)
theorem get_put : ∀ (f k x : Nat) (r : List Nat), x < 128 ^ f → (k = 0 ∧ 0 < f ∨ 0 < x) → getA f k (putN x ++ r) = some (x, (putN x).length)
  | 0, k, x, r, h, h0 => by
    rw [Nat.pow_zero] at h
    omega
  | f + 1, k, x, r, h, h0 => by
    by_cases hs : x < 128
    · rw [putN_small hs]
      show getA (f + 1) k (x :: r) = _
      rw [getA, if_pos hs, if_neg (by omega)]
      rfl
    · rw [putN_big hs]
      show getA (f + 1) k ((x % 128 + 128) :: (putN (x / 128) ++ r)) = _
      have hlt : x / 128 < 128 ^ f := by
        rw [Nat.pow_succ] at h
        exact Nat.div_lt_of_lt_mul (by rw [Nat.mul_comm]; exact h)
      rw [getA, if_neg (by omega), get_put f (k + 1) (x / 128) r hlt (.inr (by omega))]
      simp only [Option.map_some, List.length_cons, Option.some.injEq, Prod.mk.injEq, and_true]
      omega
theorem get_of : ∀ (f k : Nat) (l : List Nat) (v n : Nat), (∀ x ∈ l, x < 256) → getA f k l = some (v, n) → n ≤ l.length ∧ l.take n = putN v ∧ v < 128 ^ f ∧ (k = 0 ∨ 0 < v) ∧ 0 < n
  | 0, _, _, _, _, _, h => by cases h
  | f + 1, _, [], _, _, _, h => by cases h
  | f + 1, k, d :: r, v, n, hb, h => by
    rw [getA] at h
    split at h
    · rename_i hd
      split at h
      · cases h
      · simp only [Option.some.injEq, Prod.mk.injEq] at h
        obtain ⟨rfl, rfl⟩ := h
        refine ⟨by simp, ?_, ?_, by omega, by omega⟩
        · rw [putN_small hd]; rfl
        · rw [Nat.pow_succ]
          have := Nat.one_le_two_pow (n := 0)
          have h1 : 1 ≤ 128 ^ f := Nat.one_le_pow _ _ (by omega)
          omega
    · rename_i hd
      cases hg : getA f (k + 1) r with
      | none => rw [hg] at h; cases h
      | some p =>
        rw [hg] at h
        simp only [Option.map_some, Option.some.injEq, Prod.mk.injEq] at h
        obtain ⟨rfl, rfl⟩ := h
        obtain ⟨h1, h2, h3, h4, h5⟩ := get_of f (k + 1) r p.1 p.2 (fun x hx => hb x (List.mem_cons_of_mem _ hx)) hg
        have hd2 := hb d List.mem_cons_self
        have hp : 0 < p.1 := by omega
        refine ⟨by simp; omega, ?_, ?_, .inr (by omega), by omega⟩
        · rw [List.take_succ_cons, h2, putN_big (x := d % 128 + 128 * p.1) (by omega)]
          congr 1
          · omega
          · congr 1; omega
        · rw [Nat.pow_succ]
          have : 128 * p.1 + 128 ≤ 128 ^ f * 128 := by omega
          omega
theorem putN_bytes : ∀ (f x : Nat), x ≤ f → ∀ y ∈ putF f x, y < 256
  | 0, x, h, y, hy => by
    simp only [putF, List.mem_singleton] at hy
    omega
  | f + 1, x, h, y, hy => by
    unfold putF at hy
    split at hy
    · simp only [List.mem_singleton] at hy
      omega
    · rcases List.mem_cons.1 hy with rfl | hy
      · omega
      · exact putN_bytes f (x / 128) (by omega) y hy

/-! ### the check -/
def crcS (r : Nat) : Nat := if r % 2 = 1 then (r / 2) ^^^ 3988292384 else r / 2
def crcI : Nat → Nat → Nat
  | 0, r => r
  | n + 1, r => crcI n (crcS r)
def crcB (r x : Nat) : Nat := crcI 8 (r ^^^ x)
def crcL (l : List Nat) (r : Nat) : Nat := l.foldl crcB r
def crc (l : List Nat) : Nat := crcL l 4294967295 ^^^ 4294967295
theorem crcS_lt {r : Nat} (h : r < 4294967296) : crcS r < 4294967296 := by
  unfold crcS
  split
  · exact Nat.xor_lt_two_pow (n := 32) (by omega) (by omega)
  · omega
theorem crcI_lt : ∀ (n : Nat) {r : Nat}, r < 4294967296 → crcI n r < 4294967296
  | 0, _, h => h
  | n + 1, _, h => crcI_lt n (crcS_lt h)
theorem crcB_lt {r x : Nat} (h : r < 4294967296) (hx : x < 256) : crcB r x < 4294967296 := crcI_lt 8 (Nat.xor_lt_two_pow (n := 32) h (by omega))
theorem crcL_lt : ∀ (l : List Nat) {r : Nat}, r < 4294967296 → (∀ x ∈ l, x < 256) → crcL l r < 4294967296
  | [], _, h, _ => h
  | x :: l, r, h, hb => crcL_lt l (crcB_lt h (hb x List.mem_cons_self)) (fun y hy => hb y (List.mem_cons_of_mem _ hy))
theorem crc_lt {l : List Nat} (hb : ∀ x ∈ l, x < 256) : crc l < 4294967296 := Nat.xor_lt_two_pow (n := 32) (crcL_lt l (by omega) hb) (by omega)
theorem xor_cancel {a b c : Nat} (h : a ^^^ c = b ^^^ c) : a = b := by
  have h1 := congrArg (· ^^^ c) h
  simpa [Nat.xor_assoc] using h1
theorem half_bit {r : Nat} (h : r < 4294967296) : (r / 2).testBit 31 = false := Nat.testBit_lt_two_pow (by omega)
theorem crcS_inj {r s : Nat} (hr : r < 4294967296) (hs : s < 4294967296) (h : crcS r = crcS s) : r = s := by
  have hp : Nat.testBit 3988292384 31 = true := by decide
  unfold crcS at h
  split at h <;> split at h
  · have := xor_cancel h
    omega
  · exfalso
    have h1 := congrArg (fun n => Nat.testBit n 31) h
    simp only [Nat.testBit_xor, half_bit hr, half_bit hs, hp] at h1
    cases h1
  · exfalso
    have h1 := congrArg (fun n => Nat.testBit n 31) h
    simp only [Nat.testBit_xor, half_bit hr, half_bit hs, hp] at h1
    cases h1
  · omega
theorem crcI_inj : ∀ (n : Nat) {r s : Nat}, r < 4294967296 → s < 4294967296 → crcI n r = crcI n s → r = s
  | 0, _, _, _, _, h => h
  | n + 1, _, _, hr, hs, h => crcS_inj hr hs (crcI_inj n (crcS_lt hr) (crcS_lt hs) h)
theorem crcL_inj : ∀ (l : List Nat) {r s : Nat}, r < 4294967296 → s < 4294967296 → (∀ x ∈ l, x < 256) → crcL l r = crcL l s → r = s
  | [], _, _, _, _, _, h => h
  | x :: l, r, s, hr, hs, hb, h => by
    have hx := hb x List.mem_cons_self
    have h1 := crcL_inj l (crcB_lt hr hx) (crcB_lt hs hx) (fun y hy => hb y (List.mem_cons_of_mem _ hy)) h
    exact xor_cancel (crcI_inj 8 (Nat.xor_lt_two_pow (n := 32) hr (by omega)) (Nat.xor_lt_two_pow (n := 32) hs (by omega)) h1)
/-- one byte turned: another check -/
theorem crc_turned {l : List Nat} (hb : ∀ x ∈ l, x < 256) {i y : Nat} (hi : i < l.length) (hy : y < 256) (hne : y ≠ l[i]) : crc (l.set i y) ≠ crc l := by
  intro h
  have h0 := xor_cancel h
  rw [show l.set i y = l.take i ++ y :: l.drop (i + 1) by rw [List.set_eq_take_append_cons_drop, if_pos hi]] at h0
  have hl : l = l.take i ++ l[i] :: l.drop (i + 1) := by rw [← List.drop_eq_getElem_cons hi, List.take_append_drop]
  have h1 : crcL l 4294967295 = crcL (l.drop (i + 1)) (crcB (crcL (l.take i) 4294967295) l[i]) := by
    conv => lhs; rw [hl]
    unfold crcL
    rw [List.foldl_append, List.foldl_cons]
  have h2 : crcL (l.take i ++ y :: l.drop (i + 1)) 4294967295 = crcL (l.drop (i + 1)) (crcB (crcL (l.take i) 4294967295) y) := by
    unfold crcL
    rw [List.foldl_append, List.foldl_cons]
  rw [h1, h2] at h0
  have hr : crcL (l.take i) 4294967295 < 4294967296 := crcL_lt _ (by omega) (fun x hx => hb x (List.mem_of_mem_take hx))
  have hli := hb _ (List.getElem_mem hi)
  have h3 := crcL_inj (l.drop (i + 1)) (crcB_lt hr hy) (crcB_lt hr hli) (fun x hx => hb x (List.mem_of_mem_drop hx)) h0
  have h4 := crcI_inj 8 (Nat.xor_lt_two_pow (n := 32) hr (by omega)) (Nat.xor_lt_two_pow (n := 32) hr (by omega)) h3
  rw [Nat.xor_comm _ y, Nat.xor_comm _ l[i]] at h4
  exact hne (xor_cancel h4)
/-! ### frames -/
def le4 (n : Nat) : List Nat := [n % 256, n / 256 % 256, n / 65536 % 256, n / 16777216 % 256]
theorem le4_sum {n : Nat} (h : n < 4294967296) : n % 256 + n / 256 % 256 * 256 + n / 65536 % 256 * 65536 + n / 16777216 % 256 * 16777216 = n := by omega
def frame (b : List Nat) : List Nat := putN b.length ++ (b ++ le4 (crc b))
end Go.Proofs.Ytpghedeghoegmaa
