/- Numbers as bytes, the check of bytes, frames: plain lists, no program in sight. -/
import Derived.Test.YtpghedeghoegmaaPk1
import Derived.Test.YtpghedeghoegmaaPk6
namespace Go.Proofs.Ytpghedeghoegmaa
open Go.ChangeShapes Go.WideShapes Go.ChangeAt Go.RowKit Go.Sort
set_option linter.unusedVariables false
set_option linter.unusedSimpArgs false
def putF : Nat → Nat → List Nat
 | 0, x => [x]
 | f + 1, x => if x < 128 then [x] else (x % 128 + 128) :: putF f (x / 128)
def putN (x : Nat) : List Nat := putF x x
theorem putF_any : ∀ (f g x : Nat), x ≤ f → x ≤ g → putF f x = putF g x
 | 0, 0, _, _, _ => rfl
 | 0, g + 1, x, h, _ => by
  obtain rfl : x = 0 := by omega
  rfl
 | f + 1, 0, x, _, h => by
  obtain rfl : x = 0 := by omega
  rfl
 | f + 1, g + 1, x, h, k => by
  unfold putF
  split
  ·rfl
  ·rw [putF_any f g (x / 128) (by omega) (by omega)]
theorem putN_small {x : Nat} (h : x < 128) : putN x = [x] := by
 unfold putN
 cases x with
 | zero => rfl
 | succ x => rw [putF, if_pos h]
theorem putN_big {x : Nat} (h : ¬ x < 128) : putN x = (x % 128 + 128) :: putN (x / 128) := by
 unfold putN
 cases x with
 | zero => omega
 | succ x =>
  rw [putF, if_neg h, putF_any x ((x + 1) / 128) ((x + 1) / 128) (by omega) (Nat.le_refl _)]
theorem putN_pos (x : Nat) : 0 < (putN x).length := by
 by_cases h : x < 128
 ·rw [putN_small h]; simp
 ·rw [putN_big h]; simp
def getA : Nat → Nat → List Nat → Option (Nat × Nat)
 | 0, _, _ => none
 | _ + 1, _, [] => none
 | f + 1, k, d :: r => if d < 128 then (if d = 0 ∧ 0 < k then none else some (d, 1)) else (getA f (k + 1) r).map fun p => (d % 128 + 128 * p.1, p.2 + 1)
theorem get_put : ∀ (f k x : Nat) (r : List Nat), x < 128 ^ f → (k = 0 ∧ 0 < f ∨ 0 < x) → getA f k (putN x ++ r) = some (x, (putN x).length)
 | 0, k, x, r, h, h0 => by
  rw [Nat.pow_zero] at h
  omega
 | f + 1, k, x, r, h, h0 => by
  by_cases hs : x < 128
  ·rw [putN_small hs]
   show getA (f + 1) k (x :: r) = _
   rw [getA, if_pos hs, if_neg (by omega)]
   rfl
  ·rw [putN_big hs]
   show getA (f + 1) k ((x % 128 + 128) :: (putN (x / 128) ++ r)) = _
   have hlt : x / 128 < 128 ^ f := by
    rw [Nat.pow_succ] at h
    exact Nat.div_lt_of_lt_mul (by rw [Nat.mul_comm]; exact h)
   rw [getA, if_neg (by omega), get_put f (k + 1) (x / 128) r hlt (.inr (by omega))]
   simp only [Option.map_some, List.length_cons, Option.some.injEq, Prod.mk.injEq, and_true]
   omega
theorem get_of : ∀ (f k : Nat) (l : List Nat) (v n : Nat), (∀ x ∈ l, x < 256) → getA f k l = some (v, n) → n ≤ l.length ∧ l.take n = putN v ∧ v < 128 ^ f ∧ (k = 0 ∨ 0 < v) ∧ 0 < n
 | 0, _, _, _, _, _, h => by cases h
 | f + 1, _, [], _, _, _, h => by cases h
 | f + 1, k, d :: r, v, n, hb, h => by
  rw [getA] at h
  split at h
  ·rename_i hd
   split at h
   ·cases h
   ·simp only [Option.some.injEq, Prod.mk.injEq] at h
    obtain ⟨rfl, rfl⟩ := h
    refine ⟨by simp, ?_, ?_, by omega, by omega⟩
    ·rw [putN_small hd]; rfl
    ·rw [Nat.pow_succ]
     have := Nat.one_le_two_pow (n := 0)
     have h1 : 1 ≤ 128 ^ f := Nat.one_le_pow _ _ (by omega)
     omega
  ·rename_i hd
   cases hg : getA f (k + 1) r with
   | none => rw [hg] at h; cases h
   | some p =>
    rw [hg] at h
    simp only [Option.map_some, Option.some.injEq, Prod.mk.injEq] at h
    obtain ⟨rfl, rfl⟩ := h
    obtain ⟨h1, h2, h3, h4, h5⟩ := get_of f (k + 1) r p.1 p.2 (fun x hx => hb x (List.mem_cons_of_mem _ hx)) hg
    have hd2 := hb d List.mem_cons_self
    have hp : 0 < p.1 := by omega
    refine ⟨by simp; omega, ?_, ?_, .inr (by omega), by omega⟩
    ·rw [Tc, h2, putN_big (x := d % 128 + 128 * p.1) (by omega)]
     congr 1
     ·omega
     ·congr 1; omega
    ·rw [Nat.pow_succ]
     have : 128 * p.1 + 128 ≤ 128 ^ f * 128 := by omega
     omega
theorem putN_bytes : ∀ (f x : Nat), x ≤ f → ∀ y ∈ putF f x, y < 256
 | 0, x, h, y, hy => by
  simp only [putF, Mi] at hy
  omega
 | f + 1, x, h, y, hy => by
  unfold putF at hy
  split at hy
  ·simp only [Mi] at hy
   omega
  ·rcases List.mem_cons.1 hy with rfl | hy
   ·omega
   ·exact putN_bytes f (x / 128) (by omega) y hy
def crcS (r : Nat) : Nat := if r % 2 = 1 then (r / 2) ^^^ 3988292384 else r / 2
def crcI : Nat → Nat → Nat
 | 0, r => r
 | n + 1, r => crcI n (crcS r)
def crcB (r x : Nat) : Nat := crcI 8 (r ^^^ x)
def crcL (l : List Nat) (r : Nat) : Nat := l.foldl crcB r
def crc (l : List Nat) : Nat := crcL l 4294967295 ^^^ 4294967295
theorem crcS_lt {r : Nat} (h : r < 4294967296) : crcS r < 4294967296 := by
 unfold crcS
 split
 ·exact Nat.xor_lt_two_pow (n := 32) (by omega) (by omega)
 ·omega
theorem crcI_lt : ∀ (n : Nat) {r : Nat}, r < 4294967296 → crcI n r < 4294967296
 | 0, _, h => h
 | n + 1, _, h => crcI_lt n (crcS_lt h)
theorem crcB_lt {r x : Nat} (h : r < 4294967296) (hx : x < 256) : crcB r x < 4294967296 := crcI_lt 8 (Nat.xor_lt_two_pow (n := 32) h (by omega))
theorem crcL_lt : ∀ (l : List Nat) {r : Nat}, r < 4294967296 → (∀ x ∈ l, x < 256) → crcL l r < 4294967296
 | [], _, h, _ => h
 | x :: l, r, h, hb => crcL_lt l (crcB_lt h (hb x List.mem_cons_self)) (fun y hy => hb y (List.mem_cons_of_mem _ hy))
theorem crc_lt {l : List Nat} (hb : ∀ x ∈ l, x < 256) : crc l < 4294967296 := Nat.xor_lt_two_pow (n := 32) (crcL_lt l (by omega) hb) (by omega)
theorem xor_cancel {a b c : Nat} (h : a ^^^ c = b ^^^ c) : a = b := by
 have h1 := congrArg (· ^^^ c) h
 simpa [Nat.xor_assoc] using h1
theorem half_bit {r : Nat} (h : r < 4294967296) : (r / 2).testBit 31 = false := Nat.testBit_lt_two_pow (by omega)
theorem crcS_inj {r s : Nat} (hr : r < 4294967296) (hs : s < 4294967296) (h : crcS r = crcS s) : r = s := by
 have hp : Nat.testBit 3988292384 31 = true := by decide
 unfold crcS at h
 split at h <;> split at h
 ·have := xor_cancel h
  omega
 ·exfalso
  have h1 := congrArg (fun n => Nat.testBit n 31) h
  simp only [Nat.testBit_xor, half_bit hr, half_bit hs, hp] at h1
  cases h1
 ·exfalso
  have h1 := congrArg (fun n => Nat.testBit n 31) h
  simp only [Nat.testBit_xor, half_bit hr, half_bit hs, hp] at h1
  cases h1
 ·omega
theorem crcI_inj : ∀ (n : Nat) {r s : Nat}, r < 4294967296 → s < 4294967296 → crcI n r = crcI n s → r = s
 | 0, _, _, _, _, h => h
 | n + 1, _, _, hr, hs, h => crcS_inj hr hs (crcI_inj n (crcS_lt hr) (crcS_lt hs) h)
theorem crcL_inj : ∀ (l : List Nat) {r s : Nat}, r < 4294967296 → s < 4294967296 → (∀ x ∈ l, x < 256) → crcL l r = crcL l s → r = s
 | [], _, _, _, _, _, h => h
 | x :: l, r, s, hr, hs, hb, h => by
  have hx := hb x List.mem_cons_self
  have h1 := crcL_inj l (crcB_lt hr hx) (crcB_lt hs hx) (fun y hy => hb y (List.mem_cons_of_mem _ hy)) h
  exact xor_cancel (crcI_inj 8 (Nat.xor_lt_two_pow (n := 32) hr (by omega)) (Nat.xor_lt_two_pow (n := 32) hs (by omega)) h1)
theorem crc_turned {l : List Nat} (hb : ∀ x ∈ l, x < 256) {i y : Nat} (hi : i < l.length) (hy : y < 256) (hne : y ≠ l[i]) : crc (l.set i y) ≠ crc l := by
 intro h
 have h0 := xor_cancel h
 rw [show l.set i y = l.take i ++ y :: l.drop (i + 1) by rw [List.set_eq_take_append_cons_drop, if_pos hi]] at h0
 have hl : l = l.take i ++ l[i] :: l.drop (i + 1) := by rw [← List.drop_eq_getElem_cons hi, List.take_append_drop]
 have h1 : crcL l 4294967295 = crcL (l.drop (i + 1)) (crcB (crcL (l.take i) 4294967295) l[i]) := by
  conv => lhs; rw [hl]
  unfold crcL
  rw [List.foldl_append, List.foldl_cons]
 have h2 : crcL (l.take i ++ y :: l.drop (i + 1)) 4294967295 = crcL (l.drop (i + 1)) (crcB (crcL (l.take i) 4294967295) y) := by
  unfold crcL
  rw [List.foldl_append, List.foldl_cons]
 rw [h1, h2] at h0
 have hr : crcL (l.take i) 4294967295 < 4294967296 := crcL_lt _ (by omega) (fun x hx => hb x (List.mem_of_mem_take hx))
 have hli := hb _ (List.getElem_mem hi)
 have h3 := crcL_inj (l.drop (i + 1)) (crcB_lt hr hy) (crcB_lt hr hli) (fun x hx => hb x (List.mem_of_mem_drop hx)) h0
 have h4 := crcI_inj 8 (Nat.xor_lt_two_pow (n := 32) hr (by omega)) (Nat.xor_lt_two_pow (n := 32) hr (by omega)) h3
 rw [Nat.xor_comm _ y, Nat.xor_comm _ l[i]] at h4
 exact hne (xor_cancel h4)
def le4 (n : Nat) : List Nat := [n % 256, n / 256 % 256, n / 65536 % 256, n / 16777216 % 256]
def frame (b : List Nat) : List Nat := putN b.length ++ (b ++ le4 (crc b))
def bEnc (x : Nat) : List Value := [.int .u8 x]
theorem bEnc_len (x : Nat) : (bEnc x).length = 1 := rfl
theorem bEnc_one (x : Nat) : ∀ u ∈ bEnc x, u.oneCell' = true := by
 intro u hu
 simp only [bEnc, Mi] at hu
 subst hu
 rfl
theorem Try.infoU8 : (Try.prog.info? 5).map (fun i => (i.zero, i.size, i.bytes)) = some (some (.int .u8 0), 1, 1) := by kernel_rfl
theorem putN_len9 {x : Nat} (h : x < 9223372036854775808) : (putN x).length ≤ 9 := by
 have : ∀ (n y : Nat), 0 < n → y < 128 ^ n → (putN y).length ≤ n := by
  intro n
  induction n with
  | zero => intro y h; omega
  | succ n ih =>
   intro y _ hy
   by_cases hs : y < 128
   ·rw [putN_small hs]; simp
   ·rw [putN_big hs, List.length_cons]
    have hlt : y / 128 < 128 ^ n := by
     rw [Nat.pow_succ] at hy
     exact Nat.div_lt_of_lt_mul (by rw [Nat.mul_comm]; exact hy)
    cases n with
    | zero => rw [Nat.pow_zero] at hlt; omega
    | succ n => have := ih (y / 128) (by omega) hlt; omega
 exact this 9 x (by omega) (by omega)
theorem ext_app2 {w w' w0 : World} {B : Nat} {v : Value} {l : List Nat} (hx : Ext w0 w) (hg : w.grownBy w' v.ownBlock) (ho : Ow bEnc 5 1 w B v l) (hB : w0.heap.size ≤ B) : Ext w0 w' := ext_grown hx hg (fun g he => by have := ho.lt g he; omega)
set_option maxRecDepth 100000 in
set_option maxHeartbeats 4000000 in
theorem c_sPutNum (x : Nat) (hx : x < 9223372036854775808) (w : World) : Calls Try.prog 29 #[.int .i64 x] w fun e w' => (∃ A c, e = .returned (.slice A (putN x).length c) ∧ Ow bEnc 5 1 w' w.heap.size (.slice A (putN x).length c) (putN x)) ∧ Ext w w' := by
 obtain ⟨i0, hi, hz0, hz1, hz2⟩ := info_parts Try.infoU8
 go_enter Try.func29, Try.ntmps29
 go_wp2
 go_loopw [0, 3] (fun xv o wr => ∃ (y : Nat) (l : List Nat), xv = .int .i64 y ∧ y ≤ x ∧ l.length + (putN y).length ≤ 64 ∧ Hid (l ++ putN y = putN x) ∧ Ow bEnc 5 1 wr w.heap.size o l ∧ Ext w wr) (fun xv _ _ => (intOf xv).toNat)
 case atStart => exact ⟨x, [], rfl, Nat.le_refl _, by have := putN_len9 hx; simp; omega, Hd rfl, own_empty (hNew rfl) (Nat.le_refl _), ext_alloc _ _⟩
 case round =>
  obtain ⟨y, l, rfl, hyx, hlen, HL, ho, X⟩ := hrel
  obtain ⟨Ao, co, rfl⟩ := ho.form
  have HO := Hd ho
  have hs := X.size
  clear ho
  by_cases hlt : 127 < y
  ·have g0 : decide ((127 : Int) < (y : Int)) = true := by simp; omega
   have HN := Hd (show (l ++ [y % 128 + 128]) ++ putN (y / 128) = putN x by rw [← HL.out, show putN y = (y % 128 + 128) :: putN (y / 128) from putN_big (by omega), List.append_assoc]; rfl)
   have hln : (putN y).length = (putN (y / 128)).length + 1 := by rw [putN_big (by omega), List.length_cons]
   have HB := Hd (show ((y : Int) % 128 + 128) = ((y % 128 + 128 : Nat) : Int) by omega)
   have hw8 : IntKind.u8.wrap ((y : Int) % 128 + 128) = (y : Int) % 128 + 128 := by rw [IntKind.wrap_u8]; omega
   have hw64 : IntKind.i64.wrap ((y : Int) % 128 + 128) = (y : Int) % 128 + 128 := by rw [IntKind.wrap_i64]; omega
   go_wp2_with (at_builtin; rw [HB.out]; refine wl_app (enc := bEnc) rfl _ _ 34 rfl w.heap.size 5 i0 (.int .u8 0) 1 1 Try.underlying34 hi hz0 hz1 hz2 rfl (by decide) bEnc_len bEnc_one (.slice Ao l.length co) l rfl (HO.out.kept (ext_alloc _ _)) (some ⟨wr.heap.size, 0, none⟩) 1 [y % 128 + 128] 1 rfl rfl (Rd.one (hNew rfl) rfl) ?c1 ?c2 ?c3 ?_)
   case c1 => unfold maxLen; (try simp) <;> omega
   case c2 => (try simp) <;> omega
   case c3 => (try simp) <;> omega
   intro v' w4 ho4 hg4
   have X4 := ext_app2 (ext_to X _) hg4 (HO.out.kept (ext_alloc _ _)) (Nat.le_refl _)
   clear hg4
   go_wp2
   go_roundw
   case rel => exact ⟨y / 128, l ++ [y % 128 + 128], by go_num, by omega, by rw [List.length_append, List.length_singleton]; omega, HN, ho4, X4⟩
   case measure => simp [intOf] <;> omega
  ·have g0 : decide ((127 : Int) < (y : Int)) = false := by simp; omega
   have HN := Hd (show l ++ [y] = putN x by rw [← HL.out, putN_small (by omega)])
   have hb : IntKind.u8.wrap (y : Int) = (y : Int) := by rw [IntKind.wrap_u8]; omega
   go_wp2_with (at_builtin; refine wl_app (enc := bEnc) rfl _ _ 34 rfl w.heap.size 5 i0 (.int .u8 0) 1 1 Try.underlying34 hi hz0 hz1 hz2 rfl (by decide) bEnc_len bEnc_one (.slice Ao l.length co) l rfl (HO.out.kept (ext_alloc _ _)) (some ⟨wr.heap.size, 0, none⟩) 1 [y] 1 rfl rfl (Rd.one (hNew rfl) rfl) ?c1 ?c2 ?c3 ?_)
   case c1 => unfold maxLen; (try simp) <;> omega
   case c2 => (try simp) <;> omega
   case c3 => (try simp) <;> omega
   intro v' w4 ho4 hg4
   have X4 := ext_app2 (ext_to X _) hg4 (HO.out.kept (ext_alloc _ _)) (Nat.le_refl _)
   obtain ⟨A4, c4, rfl⟩ := ho4.form
   rw [HN.out] at ho4 ⊢
   have HO4 := Hd ho4
   clear hg4 ho4
   go_wp2
   go_ret
   exact ⟨⟨A4, c4, rfl, HO4.out⟩, X4⟩
set_option maxRecDepth 100000 in
set_option maxHeartbeats 4000000 in
theorem c_iPutNum (x : Nat) (hx : x < 9223372036854775808) (w : World) : Calls Try.prog 36 #[.int .i64 x] w fun e w' => (∃ A c, e = .returned (.slice A (putN x).length c) ∧ Ow bEnc 5 1 w' w.heap.size (.slice A (putN x).length c) (putN x)) ∧ Ext w w' := by
 obtain ⟨i0, hi, hz0, hz1, hz2⟩ := info_parts Try.infoU8
 go_enter Try.func36, Try.ntmps36
 go_wp2
 go_loopw [0, 3] (fun xv o wr => ∃ (y : Nat) (l : List Nat), xv = .int .i64 y ∧ y ≤ x ∧ l.length + (putN y).length ≤ 64 ∧ Hid (l ++ putN y = putN x) ∧ Ow bEnc 5 1 wr w.heap.size o l ∧ Ext w wr) (fun xv _ _ => (intOf xv).toNat)
 case atStart => exact ⟨x, [], rfl, Nat.le_refl _, by have := putN_len9 hx; simp; omega, Hd rfl, own_empty (hNew rfl) (Nat.le_refl _), ext_alloc _ _⟩
 case round =>
  obtain ⟨y, l, rfl, hyx, hlen, HL, ho, X⟩ := hrel
  obtain ⟨Ao, co, rfl⟩ := ho.form
  have HO := Hd ho
  have hs := X.size
  clear ho
  by_cases hlt : 127 < y
  ·have g0 : decide ((127 : Int) < (y : Int)) = true := by simp; omega
   have HN := Hd (show (l ++ [y % 128 + 128]) ++ putN (y / 128) = putN x by rw [← HL.out, show putN y = (y % 128 + 128) :: putN (y / 128) from putN_big (by omega), List.append_assoc]; rfl)
   have hln : (putN y).length = (putN (y / 128)).length + 1 := by rw [putN_big (by omega), List.length_cons]
   have HB := Hd (show ((y : Int) % 128 + 128) = ((y % 128 + 128 : Nat) : Int) by omega)
   have hw8 : IntKind.u8.wrap ((y : Int) % 128 + 128) = (y : Int) % 128 + 128 := by rw [IntKind.wrap_u8]; omega
   have hw64 : IntKind.i64.wrap ((y : Int) % 128 + 128) = (y : Int) % 128 + 128 := by rw [IntKind.wrap_i64]; omega
   go_wp2_with (at_builtin; rw [HB.out]; refine wl_app (enc := bEnc) rfl _ _ 34 rfl w.heap.size 5 i0 (.int .u8 0) 1 1 Try.underlying34 hi hz0 hz1 hz2 rfl (by decide) bEnc_len bEnc_one (.slice Ao l.length co) l rfl (HO.out.kept (ext_alloc _ _)) (some ⟨wr.heap.size, 0, none⟩) 1 [y % 128 + 128] 1 rfl rfl (Rd.one (hNew rfl) rfl) ?c1 ?c2 ?c3 ?_)
   case c1 => unfold maxLen; (try simp) <;> omega
   case c2 => (try simp) <;> omega
   case c3 => (try simp) <;> omega
   intro v' w4 ho4 hg4
   have X4 := ext_app2 (ext_to X _) hg4 (HO.out.kept (ext_alloc _ _)) (Nat.le_refl _)
   clear hg4
   go_wp2
   go_roundw
   case rel => exact ⟨y / 128, l ++ [y % 128 + 128], by go_num, by omega, by rw [List.length_append, List.length_singleton]; omega, HN, ho4, X4⟩
   case measure => simp [intOf] <;> omega
  ·have g0 : decide ((127 : Int) < (y : Int)) = false := by simp; omega
   have HN := Hd (show l ++ [y] = putN x by rw [← HL.out, putN_small (by omega)])
   have hb : IntKind.u8.wrap (y : Int) = (y : Int) := by rw [IntKind.wrap_u8]; omega
   go_wp2_with (at_builtin; refine wl_app (enc := bEnc) rfl _ _ 34 rfl w.heap.size 5 i0 (.int .u8 0) 1 1 Try.underlying34 hi hz0 hz1 hz2 rfl (by decide) bEnc_len bEnc_one (.slice Ao l.length co) l rfl (HO.out.kept (ext_alloc _ _)) (some ⟨wr.heap.size, 0, none⟩) 1 [y] 1 rfl rfl (Rd.one (hNew rfl) rfl) ?c1 ?c2 ?c3 ?_)
   case c1 => unfold maxLen; (try simp) <;> omega
   case c2 => (try simp) <;> omega
   case c3 => (try simp) <;> omega
   intro v' w4 ho4 hg4
   have X4 := ext_app2 (ext_to X _) hg4 (HO.out.kept (ext_alloc _ _)) (Nat.le_refl _)
   obtain ⟨A4, c4, rfl⟩ := ho4.form
   rw [HN.out] at ho4 ⊢
   have HO4 := Hd ho4
   clear hg4 ho4
   go_wp2
   go_ret
   exact ⟨⟨A4, c4, rfl, HO4.out⟩, X4⟩
def isZ (l : Lg) : Bool := (l.base == 0) && ((l.cells.length == 0) && (l.seats.length == 0)) && (l.ents.length == 0)
theorem isZ_eq {l : Lg} (h : isZ l = true) : l = Lg.none := by
 obtain ⟨b, c, s, e⟩ := l
 simp [isZ] at h
 obtain ⟨⟨rfl, rfl, rfl⟩, rfl⟩ := h
 rfl
abbrev zimg : Value := .agg #[.slice none 0 0, .slice none 0 0]
abbrev zlog : Value := .agg #[.int .i64 0, .slice none 0 0, .slice none 0 0, .slice none 0 0]
set_option maxHeartbeats 2000000 in
theorem c_sSameImage0 (cA : Option Addr) (n cc : Nat) (sA : Option Addr) (m sc : Nat) (w : World) (hn : n ≤ 1048576) (hm : m ≤ 1048576) :
  Calls Try.prog 99 #[.agg #[.slice cA n cc, .slice sA m sc], zimg] w fun e w' => e = .returned (.bool ((n == 0) && (m == 0))) ∧ Ext w w' := by
 have X0 : Ext w ((w.alloc (.cells #[.slice cA n cc, .slice sA m sc] 41)).alloc (.cells #[.slice none 0 0, .slice none 0 0] 41)) := ext_to (ext_alloc _ _) _
 by_cases h1 : n = 0
 ·by_cases h2 : m = 0
  ·subst h1 h2
   go_enter Try.func99, Try.ntmps99
   go_wp2
   go_loopw [5] (fun i wr => i = .int .i64 0 ∧ Ext ((w.alloc (.cells #[.slice cA 0 cc, .slice sA 0 sc] 41)).alloc (.cells #[.slice none 0 0, .slice none 0 0] 41)) wr) (fun _ _ => 0)
   case atStart => exact ⟨rfl, ext_refl _⟩
   case round =>
    obtain ⟨rfl, hx⟩ := hrel
    have b1 := bx_cell (hx.box (hOld (o := .cells #[.slice none 0 0, .slice none 0 0] 41) (hNew (w := w) (o := .cells #[.slice cA 0 cc, .slice sA 0 sc] 41) rfl)))
    go_wp2
    go_loopw [6] (fun i wr => i = .int .i64 0 ∧ Ext ((w.alloc (.cells #[.slice cA 0 cc, .slice sA 0 sc] 41)).alloc (.cells #[.slice none 0 0, .slice none 0 0] 41)) wr) (fun _ _ => 0)
    case atStart => exact ⟨rfl, hx⟩
    case round =>
     clear b1 hx
     obtain ⟨rfl, hx⟩ := hrel
     have b1 := bx_cell (hx.box (hOld (o := .cells #[.slice none 0 0, .slice none 0 0] 41) (hNew (w := w) (o := .cells #[.slice cA 0 cc, .slice sA 0 sc] 41) rfl)))
     go_wp2
     go_ret
     exact ⟨rfl, Ext.trans X0 hx⟩
  ·subst h1
   have g2 : ((m : Int) != 0) = true := by simp [bne]; omega
   have hv : false = ((0 == 0) && (m == 0)) := by simp [h2]
   have HV := Hd hv
   clear h2 hv
   go_enter Try.func99, Try.ntmps99
   go_wp2
   go_ret
   exact ⟨ret_bool HV.out, X0⟩
 ·have g2 : ((n : Int) != 0) = true := by simp [bne]; omega
  have hv : false = ((n == 0) && (m == 0)) := by simp [h1]
  have HV := Hd hv
  clear h1 hv
  go_enter Try.func99, Try.ntmps99
  go_wp2
  go_ret
  exact ⟨ret_bool HV.out, X0⟩
set_option maxHeartbeats 2000000 in
theorem c_sSameLog0 (a : LAd) (l : Lg) (w : World) (hs1 : l.cells.length ≤ 1048576) (hs2 : l.seats.length ≤ 1048576) (hs3 : l.ents.length ≤ 1048576) :
  Calls Try.prog 63 #[Lg.val a l, zlog] w fun e w' => e = .returned (.bool (isZ l)) ∧ Ext w w' := by
 have X0 : Ext w ((w.alloc (Lg.obj a l)).alloc (.cells #[.int .i64 0, .slice none 0 0, .slice none 0 0, .slice none 0 0] 44)) := ext_to (ext_alloc _ _) _
 by_cases h1 : l.base = 0
 ·by_cases h2 : l.ents.length = 0
  ·have hcon := c_sSameImage0 a.cA l.cells.length a.cc a.sA l.seats.length a.sc ((w.alloc (Lg.obj a l)).alloc (.cells #[.int .i64 0, .slice none 0 0, .slice none 0 0, .slice none 0 0] 44)) hs1 hs2
   have g1 : (l.base != 0) = false := by simp [bne, h1]
   have g2 : ((l.ents.length : Int) != 0) = false := by simp [bne, h2]
   cases q : (l.cells.length == 0) && (l.seats.length == 0)
   ·rw [q] at hcon
    have HV := Hd (show false = isZ l by simp [isZ, h1, h2, q])
    have HC := Hd hcon
    clear q hcon h1 h2
    go_enter Try.func63, Try.ntmps63
    go_wp2_with fail
    refine HC.out.mono ?_
    rintro e w1 ⟨rfl, x1⟩
    go_wp2
    go_ret
    exact ⟨ret_bool HV.out, Ext.trans X0 x1⟩
   ·rw [q] at hcon
    have HV := Hd (show true = isZ l by simp [isZ, h1, h2, q])
    have HC := Hd hcon
    have g3 : decide ((0 : Int) < (l.ents.length : Int)) = false := by simp [h2]
    have g4 : decide (0 < l.ents.length) = false := by simp [h2]
    have g5 : ¬ 0 < l.ents.length := by omega
    clear q hcon h1 h2
    go_enter Try.func63, Try.ntmps63
    go_wp2_with fail
    refine HC.out.mono ?_
    rintro e w1 ⟨rfl, x1⟩
    go_wp2
    go_loopw [5] (fun i wr => i = .int .i64 0 ∧ Ext ((w.alloc (Lg.obj a l)).alloc (.cells #[.int .i64 0, .slice none 0 0, .slice none 0 0, .slice none 0 0] 44)) wr) (fun _ _ => 0)
    case atStart => exact ⟨rfl, x1⟩
    case round =>
     obtain ⟨rfl, hx⟩ := hrel
     have b1 := bx_cell (hx.box (hOld (o := .cells #[.int .i64 0, .slice none 0 0, .slice none 0 0, .slice none 0 0] 44) (hNew (w := w) (o := Lg.obj a l) rfl)))
     go_wp2
     go_ret
     exact ⟨ret_bool HV.out, Ext.trans X0 hx⟩
  ·have HV := Hd (show false = isZ l by simp [isZ, h2])
   have g1 : (l.base != 0) = false := by simp [bne, h1]
   have g2 : ((l.ents.length : Int) != 0) = true := by simpa [bne] using h2
   clear h1 h2
   go_enter Try.func63, Try.ntmps63
   go_wp2
   go_ret
   exact ⟨ret_bool HV.out, X0⟩
 ·have HV := Hd (show false = isZ l by simp [isZ, h1])
  have g1 : (l.base != 0) = true := by simp [bne, h1]
  clear h1
  go_enter Try.func63, Try.ntmps63
  go_wp2
  go_ret
  exact ⟨ret_bool HV.out, X0⟩
theorem c_equal0C (A : Option Addr) (n c : Nat) (w : World) (hn : n ≤ 1048576) : Calls Try.prog 126 #[.slice A n c, .slice none 0 0] w fun e w' => e = .returned (.bool (n == 0)) ∧ Ext w w' := by
 by_cases h1 : n = 0
 ·subst h1
  go_enter Try.func126, Try.ntmps126
  go_wp2
  go_loopw [13] (fun i wr => i = .int .i64 0 ∧ Ext w wr) (fun _ _ => 0)
  case atStart => exact ⟨rfl, ext_refl _⟩
  case round =>
   obtain ⟨rfl, hx⟩ := hrel
   go_wp2
   go_ret
   exact ⟨rfl, hx⟩
 ·have g2 : ((n : Int) != 0) = true := by simp [bne]; omega
  have HV := Hd (show false = (n == 0) by simp [h1])
  clear h1
  go_enter Try.func126, Try.ntmps126
  go_wp2
  go_ret
  exact ⟨ret_bool HV.out, ext_refl _⟩
theorem c_equal0S (A : Option Addr) (n c : Nat) (w : World) (hn : n ≤ 1048576) : Calls Try.prog 127 #[.slice A n c, .slice none 0 0] w fun e w' => e = .returned (.bool (n == 0)) ∧ Ext w w' := by
 by_cases h1 : n = 0
 ·subst h1
  go_enter Try.func127, Try.ntmps127
  go_wp2
  go_loopw [13] (fun i wr => i = .int .i64 0 ∧ Ext w wr) (fun _ _ => 0)
  case atStart => exact ⟨rfl, ext_refl _⟩
  case round =>
   obtain ⟨rfl, hx⟩ := hrel
   go_wp2
   go_ret
   exact ⟨rfl, hx⟩
 ·have g2 : ((n : Int) != 0) = true := by simp [bne]; omega
  have HV := Hd (show false = (n == 0) by simp [h1])
  clear h1
  go_enter Try.func127, Try.ntmps127
  go_wp2
  go_ret
  exact ⟨ret_bool HV.out, ext_refl _⟩
theorem c_equal0E (A : Option Addr) (n c : Nat) (w : World) (hn : n ≤ 1048576) : Calls Try.prog 101 #[.slice A n c, .slice none 0 0] w fun e w' => e = .returned (.bool (n == 0)) ∧ Ext w w' := by
 by_cases h1 : n = 0
 ·subst h1
  go_enter Try.func101, Try.ntmps101
  go_wp2
  go_loopw [13] (fun i wr => i = .int .i64 0 ∧ Ext w wr) (fun _ _ => 0)
  case atStart => exact ⟨rfl, ext_refl _⟩
  case round =>
   obtain ⟨rfl, hx⟩ := hrel
   go_wp2
   go_ret
   exact ⟨rfl, hx⟩
 ·have g2 : ((n : Int) != 0) = true := by simp [bne]; omega
  have HV := Hd (show false = (n == 0) by simp [h1])
  clear h1
  go_enter Try.func101, Try.ntmps101
  go_wp2
  go_ret
  exact ⟨ret_bool HV.out, ext_refl _⟩
theorem c_iSameImage0 (cA : Option Addr) (n cc : Nat) (sA : Option Addr) (m sc : Nat) (w : World) (hn : n ≤ 1048576) (hm : m ≤ 1048576) :
  Calls Try.prog 100 #[.agg #[.slice cA n cc, .slice sA m sc], zimg] w fun e w' => e = .returned (.bool ((n == 0) && (m == 0))) ∧ Ext w w' := by
 go_enter Try.func100, Try.ntmps100
 go_wp2_with (first | (go_at_call 126; refine (c_equal0C _ _ _ _ hn).mono ?_; rintro e w1 ⟨rfl, hx⟩; obtain ⟨hc1, hf1, hs1⟩ := hx.rules; (try simp at hs1); have z0 : w.heap.size < w1.heap.size := (by omega); have z1 : w.heap.size + 1 < w1.heap.size := (by omega)) | (go_at_call 127; refine (c_equal0S _ _ _ _ hm).mono ?_; rintro e w1 ⟨rfl, hx⟩; obtain ⟨hc1, hf1, hs1⟩ := hx.rules; (try simp at hs1); have z0 : w.heap.size < w1.heap.size := (by omega); have z1 : w.heap.size + 1 < w1.heap.size := (by omega)))
 all_goals
  go_ret
  refine ⟨ret_bool ?_, ?_⟩
  ·(first | (simp [*]; done) | (simp_all; done))
  ·(repeat (first | with_reducible exact ext_refl _ | with_reducible refine ext_to ?_ _ | with_reducible refine ext_set ?_ (by first | (simp; done) | (simp; omega) | omega) _ | with_reducible refine ext_drew ?_ | with_reducible refine Ext.trans ?_ (by assumption)))
theorem c_iSameLog0 (a : LAd) (l : Lg) (w : World) (hs1 : l.cells.length ≤ 1048576) (hs2 : l.seats.length ≤ 1048576) (hs3 : l.ents.length ≤ 1048576) :
  Calls Try.prog 64 #[Lg.val a l, zlog] w fun e w' => e = .returned (.bool (isZ l)) ∧ Ext w w' := by
 obtain ⟨y, hy⟩ : ∃ y, (l.cells.length == 0 && l.seats.length == 0) = y := ⟨_, rfl⟩
 obtain ⟨z, hz⟩ : ∃ z, (l.ents.length == 0) = z := ⟨_, rfl⟩
 have HV := Hd (show (l.base == 0 && y && z) = isZ l by unfold isZ; rw [hy, hz])
 have hI := fun W => c_iSameImage0 a.cA l.cells.length a.cc a.sA l.seats.length a.sc W hs1 hs2
 have hE := fun W => c_equal0E a.eA l.ents.length a.ec W hs3
 rw [hy] at hI
 rw [hz] at hE
 have HI := Hd hI
 have HE := Hd hE
 clear hy hz hI hE
 go_enter Try.func64, Try.ntmps64
 go_wp2_with (first | (go_at_call 100; refine (HI.out _).mono ?_; rintro e w1 ⟨rfl, hx⟩; obtain ⟨hc1, hf1, hs1⟩ := hx.rules; (try simp at hs1); have z0 : w.heap.size < w1.heap.size := (by omega); have z1 : w.heap.size + 1 < w1.heap.size := (by omega)) | (go_at_call 101; refine (HE.out _).mono ?_; rintro e w1 ⟨rfl, hx⟩; obtain ⟨hc1, hf1, hs1⟩ := hx.rules; (try simp at hs1); have z0 : w.heap.size < w1.heap.size := (by omega); have z1 : w.heap.size + 1 < w1.heap.size := (by omega)))
 all_goals
  go_ret
  refine ⟨ret_bool ?_, ?_⟩
  ·rw [← HV.out]
   (first | (simp [*]; done) | (simp_all; done))
  ·(repeat (first | with_reducible exact ext_refl _ | with_reducible refine ext_to ?_ _ | with_reducible refine ext_set ?_ (by first | (simp; done) | (simp; omega) | omega) _ | with_reducible refine ext_drew ?_ | with_reducible refine Ext.trans ?_ (by assumption)))
theorem c_isLogZero (a : LAd) (l : Lg) (w : World) (hs1 : l.cells.length ≤ 1048576) (hs2 : l.seats.length ≤ 1048576) (hs3 : l.ents.length ≤ 1048576) :
  Calls Try.prog 77 #[Lg.val a l] w fun e w' => e = .returned (.bool (isZ l)) ∧ Ext w w' := by
 go_enter Try.func77, Try.ntmps77
 go_wp2_with fail
 refine (c_iSameLog0 a l _ hs1 hs2 hs3).mono ?_
 rintro e w1 ⟨rfl, x1⟩
 go_wp2
 go_ret
 exact ⟨rfl, Ext.trans (ext_alloc _ _) x1⟩
end Go.Proofs.Ytpghedeghoegmaa
