/- Numbers written as bytes: PutNum of the reference and of the program. -/
import Derived.Test.YtpghedeghoegmaaGd
import Derived.Test.YtpghedeghoegmaaAp
import Derived.Test.YtpghedeghoegmaaGe
import Derived.Test.YtpghedeghoegmaaBy
namespace Go.Proofs.Ytpghedeghoegmaa
open Go.ChangeShapes Go.WideShapes Go.ChangeAt Go.RowKit Go.Sort
set_option linter.unusedVariables false
set_option linter.unusedSimpArgs false

/-- a row of bytes -/
def bEnc (x : Nat) : List Value := [.int .u8 x]
theorem bEnc_len (x : Nat) : (bEnc x).length = 1 := rfl
theorem bEnc_one (x : Nat) : ∀ u ∈ bEnc x, u.oneCell' = true := by
  intro u hu
  simp only [bEnc, List.mem_singleton] at hu
  subst hu
  rfl
theorem Try.infoU8 : (Try.prog.info? 5).map (fun i => (i.zero, i.size, i.bytes)) = some (some (.int .u8 0), 1, 1) := by kernel_rfl
theorem putN_len9 {x : Nat} (h : x < 9223372036854775808) : (putN x).length ≤ 9 := by
  have : ∀ (n y : Nat), 0 < n → y < 128 ^ n → (putN y).length ≤ n := by
    intro n
    induction n with
    | zero => intro y h; omega
    | succ n ih =>
      intro y _ hy
      by_cases hs : y < 128
      · rw [putN_small hs]; simp
      · rw [putN_big hs, List.length_cons]
        have hlt : y / 128 < 128 ^ n := by
          rw [Nat.pow_succ] at hy
          exact Nat.div_lt_of_lt_mul (by rw [Nat.mul_comm]; exact hy)
        cases n with
        | zero => rw [Nat.pow_zero] at hlt; omega
        | succ n => have := ih (y / 128) (by omega) hlt; omega
  exact this 9 x (by omega) (by omega)
theorem ext_app2 {w w' w0 : World} {B : Nat} {v : Value} {l : List Nat} (hx : Ext w0 w) (hg : w.grownBy w' v.ownBlock) (ho : Ow bEnc 5 1 w B v l) (hB : w0.heap.size ≤ B) : Ext w0 w' := ext_grown hx hg (fun g he => by have := ho.lt g he; omega)
set_option maxRecDepth 100000 in
set_option maxHeartbeats 4000000 in
theorem c_sPutNum (x : Nat) (hx : x < 9223372036854775808) (w : World) : Calls Try.prog 29 #[.int .i64 x] w fun e w' => (∃ A c, e = .returned (.slice A (putN x).length c) ∧ Ow bEnc 5 1 w' w.heap.size (.slice A (putN x).length c) (putN x)) ∧ Ext w w' := by
  obtain ⟨i0, hi, hz0, hz1, hz2⟩ := info_parts Try.infoU8
  go_enter Try.func29, Try.ntmps29
  go_wp2
  go_loopw [0, 3] (fun xv o wr => ∃ (y : Nat) (l : List Nat), xv = .int .i64 y ∧ y ≤ x ∧ l.length + (putN y).length ≤ 64 ∧ Hid (l ++ putN y = putN x) ∧ Ow bEnc 5 1 wr w.heap.size o l ∧ Ext w wr) (fun xv _ _ => (intOf xv).toNat)
  case atStart => exact ⟨x, [], rfl, Nat.le_refl _, by have := putN_len9 hx; simp; omega, Lib.hid rfl, own_empty (hNew rfl) (Nat.le_refl _), ext_alloc _ _⟩
  case round =>
    obtain ⟨y, l, rfl, hyx, hlen, HL, ho, X⟩ := hrel
    obtain ⟨Ao, co, rfl⟩ := ho.form
    have HO := Lib.hid ho
    have hs := X.size
    clear ho
    by_cases hlt : 127 < y
    · have g0 : decide ((127 : Int) < (y : Int)) = true := by simp; omega
      have HN := Lib.hid (show (l ++ [y % 128 + 128]) ++ putN (y / 128) = putN x by rw [← HL.out, show putN y = (y % 128 + 128) :: putN (y / 128) from putN_big (by omega), List.append_assoc]; rfl)
      have hln : (putN y).length = (putN (y / 128)).length + 1 := by rw [putN_big (by omega), List.length_cons]
      have HB := Lib.hid (show ((y : Int) % 128 + 128) = ((y % 128 + 128 : Nat) : Int) by omega)
      have hw8 : IntKind.u8.wrap ((y : Int) % 128 + 128) = (y : Int) % 128 + 128 := by rw [IntKind.wrap_u8]; omega
      have hw64 : IntKind.i64.wrap ((y : Int) % 128 + 128) = (y : Int) % 128 + 128 := by rw [IntKind.wrap_i64]; omega
      go_wp2_with (at_builtin; rw [HB.out]; refine wl_app (enc := bEnc) rfl _ _ 34 rfl w.heap.size 5 i0 (.int .u8 0) 1 1 Try.underlying34 hi hz0 hz1 hz2 rfl (by decide) bEnc_len bEnc_one (.slice Ao l.length co) l rfl (HO.out.kept (ext_alloc _ _)) (some ⟨wr.heap.size, 0, none⟩) 1 [y % 128 + 128] 1 rfl rfl (Rd.one (hNew rfl) rfl) ?c1 ?c2 ?c3 ?_)
      case c1 => unfold maxLen; (try simp) <;> omega
      case c2 => (try simp) <;> omega
      case c3 => (try simp) <;> omega
      intro v' w4 ho4 hg4
      have X4 := ext_app2 (ext_to X _) hg4 (HO.out.kept (ext_alloc _ _)) (Nat.le_refl _)
      clear hg4
      go_wp2
      go_roundw
      case rel => exact ⟨y / 128, l ++ [y % 128 + 128], by go_num, by omega, by rw [List.length_append, List.length_singleton]; omega, HN, ho4, X4⟩
      case measure => simp [intOf] <;> omega
    · have g0 : decide ((127 : Int) < (y : Int)) = false := by simp; omega
      have HN := Lib.hid (show l ++ [y] = putN x by rw [← HL.out, putN_small (by omega)])
      have hb : IntKind.u8.wrap (y : Int) = (y : Int) := by rw [IntKind.wrap_u8]; omega
      go_wp2_with (at_builtin; refine wl_app (enc := bEnc) rfl _ _ 34 rfl w.heap.size 5 i0 (.int .u8 0) 1 1 Try.underlying34 hi hz0 hz1 hz2 rfl (by decide) bEnc_len bEnc_one (.slice Ao l.length co) l rfl (HO.out.kept (ext_alloc _ _)) (some ⟨wr.heap.size, 0, none⟩) 1 [y] 1 rfl rfl (Rd.one (hNew rfl) rfl) ?c1 ?c2 ?c3 ?_)
      case c1 => unfold maxLen; (try simp) <;> omega
      case c2 => (try simp) <;> omega
      case c3 => (try simp) <;> omega
      intro v' w4 ho4 hg4
      have X4 := ext_app2 (ext_to X _) hg4 (HO.out.kept (ext_alloc _ _)) (Nat.le_refl _)
      obtain ⟨A4, c4, rfl⟩ := ho4.form
      rw [HN.out] at ho4 ⊢
      have HO4 := Lib.hid ho4
      clear hg4 ho4
      go_wp2
      go_ret
      exact ⟨⟨A4, c4, rfl, HO4.out⟩, X4⟩
set_option maxRecDepth 100000 in
set_option maxHeartbeats 4000000 in
theorem c_iPutNum (x : Nat) (hx : x < 9223372036854775808) (w : World) : Calls Try.prog 36 #[.int .i64 x] w fun e w' => (∃ A c, e = .returned (.slice A (putN x).length c) ∧ Ow bEnc 5 1 w' w.heap.size (.slice A (putN x).length c) (putN x)) ∧ Ext w w' := by
  obtain ⟨i0, hi, hz0, hz1, hz2⟩ := info_parts Try.infoU8
  go_enter Try.func36, Try.ntmps36
  go_wp2
  go_loopw [0, 3] (fun xv o wr => ∃ (y : Nat) (l : List Nat), xv = .int .i64 y ∧ y ≤ x ∧ l.length + (putN y).length ≤ 64 ∧ Hid (l ++ putN y = putN x) ∧ Ow bEnc 5 1 wr w.heap.size o l ∧ Ext w wr) (fun xv _ _ => (intOf xv).toNat)
  case atStart => exact ⟨x, [], rfl, Nat.le_refl _, by have := putN_len9 hx; simp; omega, Lib.hid rfl, own_empty (hNew rfl) (Nat.le_refl _), ext_alloc _ _⟩
  case round =>
    obtain ⟨y, l, rfl, hyx, hlen, HL, ho, X⟩ := hrel
    obtain ⟨Ao, co, rfl⟩ := ho.form
    have HO := Lib.hid ho
    have hs := X.size
    clear ho
    by_cases hlt : 127 < y
    · have g0 : decide ((127 : Int) < (y : Int)) = true := by simp; omega
      have HN := Lib.hid (show (l ++ [y % 128 + 128]) ++ putN (y / 128) = putN x by rw [← HL.out, show putN y = (y % 128 + 128) :: putN (y / 128) from putN_big (by omega), List.append_assoc]; rfl)
      have hln : (putN y).length = (putN (y / 128)).length + 1 := by rw [putN_big (by omega), List.length_cons]
      have HB := Lib.hid (show ((y : Int) % 128 + 128) = ((y % 128 + 128 : Nat) : Int) by omega)
      have hw8 : IntKind.u8.wrap ((y : Int) % 128 + 128) = (y : Int) % 128 + 128 := by rw [IntKind.wrap_u8]; omega
      have hw64 : IntKind.i64.wrap ((y : Int) % 128 + 128) = (y : Int) % 128 + 128 := by rw [IntKind.wrap_i64]; omega
      go_wp2_with (at_builtin; rw [HB.out]; refine wl_app (enc := bEnc) rfl _ _ 34 rfl w.heap.size 5 i0 (.int .u8 0) 1 1 Try.underlying34 hi hz0 hz1 hz2 rfl (by decide) bEnc_len bEnc_one (.slice Ao l.length co) l rfl (HO.out.kept (ext_alloc _ _)) (some ⟨wr.heap.size, 0, none⟩) 1 [y % 128 + 128] 1 rfl rfl (Rd.one (hNew rfl) rfl) ?c1 ?c2 ?c3 ?_)
      case c1 => unfold maxLen; (try simp) <;> omega
      case c2 => (try simp) <;> omega
      case c3 => (try simp) <;> omega
      intro v' w4 ho4 hg4
      have X4 := ext_app2 (ext_to X _) hg4 (HO.out.kept (ext_alloc _ _)) (Nat.le_refl _)
      clear hg4
      go_wp2
      go_roundw
      case rel => exact ⟨y / 128, l ++ [y % 128 + 128], by go_num, by omega, by rw [List.length_append, List.length_singleton]; omega, HN, ho4, X4⟩
      case measure => simp [intOf] <;> omega
    · have g0 : decide ((127 : Int) < (y : Int)) = false := by simp; omega
      have HN := Lib.hid (show l ++ [y] = putN x by rw [← HL.out, putN_small (by omega)])
      have hb : IntKind.u8.wrap (y : Int) = (y : Int) := by rw [IntKind.wrap_u8]; omega
      go_wp2_with (at_builtin; refine wl_app (enc := bEnc) rfl _ _ 34 rfl w.heap.size 5 i0 (.int .u8 0) 1 1 Try.underlying34 hi hz0 hz1 hz2 rfl (by decide) bEnc_len bEnc_one (.slice Ao l.length co) l rfl (HO.out.kept (ext_alloc _ _)) (some ⟨wr.heap.size, 0, none⟩) 1 [y] 1 rfl rfl (Rd.one (hNew rfl) rfl) ?c1 ?c2 ?c3 ?_)
      case c1 => unfold maxLen; (try simp) <;> omega
      case c2 => (try simp) <;> omega
      case c3 => (try simp) <;> omega
      intro v' w4 ho4 hg4
      have X4 := ext_app2 (ext_to X _) hg4 (HO.out.kept (ext_alloc _ _)) (Nat.le_refl _)
      obtain ⟨A4, c4, rfl⟩ := ho4.form
      rw [HN.out] at ho4 ⊢
      have HO4 := Lib.hid ho4
      clear hg4 ho4
      go_wp2
      go_ret
      exact ⟨⟨A4, c4, rfl, HO4.out⟩, X4⟩
end Go.Proofs.Ytpghedeghoegmaa
