/- The check of bytes: Crc of the reference and of the program. -/
import Derived.Test.YtpghedeghoegmaaPk19
namespace Go.Proofs.Ytpghedeghoegmaa
open Go.ChangeShapes Go.WideShapes Go.ChangeAt Go.RowKit Go.Sort
set_option linter.unusedVariables false
set_option linter.unusedSimpArgs false

theorem of_nat (n a : Nat) (h : a < 2 ^ n) : (BitVec.ofInt n (a : Int)).toNat = a := by
  rw [BitVec.ofInt_natCast, BitVec.toNat_ofNat]; exact Nat.mod_eq_of_lt h
theorem bx64 (a b : Nat) (ha : a < 4294967296) (hb : b < 4294967296) : bits .xor .i64 (a : Int) (b : Int) = ((a ^^^ b : Nat) : Int) := by
  have hx : a ^^^ b < 2 ^ 32 := Nat.xor_lt_two_pow (by omega) (by omega)
  show IntKind.i64.wrap ((BitVec.ofInt 64 (a : Int) ^^^ BitVec.ofInt 64 (b : Int)).toNat : Int) = _
  rw [BitVec.toNat_xor, of_nat 64 a (by omega), of_nat 64 b (by omega), IntKind.wrap_i64]
  omega
theorem wrap_u32n (a : Nat) (h : a < 4294967296) : IntKind.u32.wrap (a : Int) = (a : Int) := by
  simp [IntKind.wrap, IntKind.bits, IntKind.signed]
  omega
theorem bx32 (a b : Nat) (ha : a < 4294967296) (hb : b < 4294967296) : bits .xor .u32 (a : Int) (b : Int) = ((a ^^^ b : Nat) : Int) := by
  have hx : a ^^^ b < 2 ^ 32 := Nat.xor_lt_two_pow (by omega) (by omega)
  show IntKind.u32.wrap ((BitVec.ofInt 32 (a : Int) ^^^ BitVec.ofInt 32 (b : Int)).toNat : Int) = _
  rw [BitVec.toNat_xor, of_nat 32 a (by omega), of_nat 32 b (by omega), wrap_u32n _ (by omega)]
theorem ba32 (a : Nat) (ha : a < 4294967296) : bits .and .u32 (a : Int) 1 = ((a % 2 : Nat) : Int) := by
  have hx : a &&& 1 = a % 2 := Nat.and_one_is_mod a
  show IntKind.u32.wrap ((BitVec.ofInt 32 (a : Int) &&& BitVec.ofInt 32 ((1 : Nat) : Int)).toNat : Int) = _
  rw [BitVec.toNat_and, of_nat 32 a (by omega), of_nat 32 1 (by omega), hx, wrap_u32n _ (by omega)]
theorem crcI_next {j r : Nat} (h : j < 8) : crcI (8 - j) r = crcI (8 - (j + 1)) (crcS r) := by
  obtain ⟨m, hm⟩ : ∃ m, 8 - j = m + 1 := ⟨7 - j, by omega⟩
  rw [hm, show 8 - (j + 1) = m by omega]
  rfl
theorem crcL_next {l : List Nat} {k r : Nat} (hk : k < l.length) : crcL (l.drop k) r = crcL (l.drop (k + 1)) (crcB r l[k]) := by
  rw [List.drop_eq_getElem_cons hk]
  rfl
def Byt (l : List Nat) : Prop := ∀ x ∈ l, x < 256

set_option maxRecDepth 100000 in
set_option maxHeartbeats 4000000 in
theorem c_sCrc (A : Option Addr) (c : Nat) (l : List Nat) (w : World) (hr : Rd bEnc 1 w A c l) (hb : Byt l) (hn : l.length ≤ 1048576) : Calls Try.prog 71 #[.slice A l.length c] w fun e w' => e = .returned (.int .i64 (crc l)) ∧ Ext w w' := by
  have HR := Lib.hid hr
  have HB := Lib.hid hb
  clear hr hb
  go_enter Try.func71, Try.ntmps71
  go_wp2
  go_loop [3, 4] (fun n i => ∃ k r : Nat, k ≤ l.length ∧ i = .int .i64 k ∧ n = .int .i64 r ∧ r < 4294967296 ∧ Hid (crcL (l.drop k) r = crcL l 4294967295)) (fun _ i => l.length - (intOf i).toNat)
  case atStart => exact ⟨0, 4294967295, Nat.zero_le _, rfl, rfl, by omega, Lib.hid rfl⟩
  case round =>
    obtain ⟨k, r, hk, rfl, rfl, hr32, HC⟩ := hrel
    by_cases hlt : k < l.length
    · obtain ⟨zb, zo, hA, hzb, z0⟩ := HR.out.atB hlt
      subst hA
      have hx := HB.out l[k] (List.getElem_mem hlt)
      obtain ⟨x, hxe⟩ : ∃ x, l[k] = x := ⟨_, rfl⟩
      have HN := Lib.hid (crcL_next (r := r) hlt)
      rw [hxe] at z0 hx HN
      have hw0 : IntKind.i64.wrap (x : Int) = (x : Int) := by rw [IntKind.wrap_i64]; omega
      have hx0 := bx64 r x hr32 (by omega)
      have hq : r ^^^ x < 4294967296 := Nat.xor_lt_two_pow (n := 32) (by omega) (by omega)
      obtain ⟨q, hqe⟩ : ∃ q, r ^^^ x = q := ⟨_, rfl⟩
      have HQ := Lib.hid (show crcI 8 q = crcB r x by rw [← hqe]; rfl)
      rw [hqe] at hx0 hq
      clear hqe hxe
      go_wp2
      go_loop [3, 5] (fun n i => ∃ j s : Nat, j ≤ 8 ∧ i = .int .i64 j ∧ n = .int .i64 s ∧ s < 4294967296 ∧ Hid (crcI (8 - j) s = crcB r x)) (fun _ i => 8 - (intOf i).toNat)
      case atStart => exact ⟨0, q, by omega, rfl, rfl, hq, HQ⟩
      case round =>
        clear z0 hw0 hx0
        obtain ⟨j, s, hj, rfl, rfl, hs32, HS⟩ := hrel
        by_cases hjt : j < 8
        · have HJ := Lib.hid (crcI_next (r := s) hjt)
          have hcs := crcS_lt hs32
          by_cases ho : s % 2 = 1
          · have hodd : (((s : Int) % 2) == 1) = true := by simp; omega
            have hx2 : bits .xor .i64 ((s : Int) / 2) 3988292384 = ((crcS s : Nat) : Int) := by
              rw [show ((s : Int) / 2) = ((s / 2 : Nat) : Int) by omega]
              unfold crcS
              rw [if_pos ho]
              exact bx64 (s / 2) 3988292384 (by omega) (by omega)
            go_wp2
            go_round
            case rel => exact ⟨j + 1, crcS s, by omega, by go_num, rfl, hcs, by rw [← HJ.out]; exact HS⟩
            case measure => simp [intOf] <;> omega
          · have hodd : (((s : Int) % 2) == 1) = false := by simp; omega
            have hx2 : ((s : Int) / 2) = ((crcS s : Nat) : Int) := by
              unfold crcS
              rw [if_neg ho]
              omega
            go_wp2
            go_round
            case rel => exact ⟨j + 1, crcS s, by omega, by go_num, by go_num, hcs, by rw [← HJ.out]; exact HS⟩
            case measure => simp [intOf] <;> omega
        · obtain rfl : j = 8 := by omega
          have hse : s = crcB r x := HS.out
          go_wp2
          go_round
          case rel => exact ⟨k + 1, s, by omega, by go_num, rfl, hs32, Lib.hid (by rw [← HC.out, HN.out, hse])⟩
          case measure => simp [intOf] <;> omega
    · obtain rfl : k = l.length := by omega
      have hend : r = crcL l 4294967295 := by
        have := HC.out
        rw [List.drop_length] at this
        exact this
      have hx3 : bits .xor .i64 (r : Int) 4294967295 = ((crc l : Nat) : Int) := by
        unfold crc
        rw [← hend]
        exact bx64 r 4294967295 hr32 (by omega)
      clear hend
      go_wp2
      go_ret
      exact ⟨rfl, ext_refl _⟩

set_option maxRecDepth 100000 in
set_option maxHeartbeats 4000000 in
theorem c_iCrc (A : Option Addr) (c : Nat) (l : List Nat) (w : World) (hr : Rd bEnc 1 w A c l) (hb : Byt l) (hn : l.length ≤ 1048576) : Calls Try.prog 81 #[.slice A l.length c] w fun e w' => e = .returned (.int .i64 (crc l)) ∧ Ext w w' := by
  have HR := Lib.hid hr
  have HB := Lib.hid hb
  clear hr hb
  go_enter Try.func81, Try.ntmps81
  go_wp2
  go_loop [3, 5, 6, 9] (fun n _ _ i => ∃ k r : Nat, k ≤ l.length ∧ i = .int .i64 k ∧ n = .int .u32 r ∧ r < 4294967296 ∧ Hid (crcL (l.drop k) r = crcL l 4294967295)) (fun _ _ _ i => l.length - (intOf i).toNat)
  case atStart => exact ⟨0, 4294967295, Nat.zero_le _, rfl, rfl, by omega, Lib.hid rfl⟩
  case round =>
    obtain ⟨k, r, hk, rfl, rfl, hr32, HC⟩ := hrel
    by_cases hlt : k < l.length
    · obtain ⟨zb, zo, hA, hzb, z0⟩ := HR.out.atB hlt
      subst hA
      have hx := HB.out l[k] (List.getElem_mem hlt)
      obtain ⟨x, hxe⟩ : ∃ x, l[k] = x := ⟨_, rfl⟩
      have HN := Lib.hid (crcL_next (r := r) hlt)
      rw [hxe] at z0 hx HN
      have hw0 : IntKind.u32.wrap (x : Int) = (x : Int) := wrap_u32n x (by omega)
      have hx0 := bx32 r x hr32 (by omega)
      have hq : r ^^^ x < 4294967296 := Nat.xor_lt_two_pow (n := 32) (by omega) (by omega)
      obtain ⟨q, hqe⟩ : ∃ q, r ^^^ x = q := ⟨_, rfl⟩
      have HQ := Lib.hid (show crcI 8 q = crcB r x by rw [← hqe]; rfl)
      rw [hqe] at hx0 hq
      clear hqe hxe
      go_wp2
      go_loop [3, 6, 17] (fun n _ i => ∃ j s : Nat, j ≤ 8 ∧ i = .int .i64 j ∧ n = .int .u32 s ∧ s < 4294967296 ∧ Hid (crcI (8 - j) s = crcB r x)) (fun _ _ i => 8 - (intOf i).toNat)
      case atStart => exact ⟨0, q, by omega, rfl, rfl, hq, HQ⟩
      case round =>
        clear z0 hw0 hx0
        obtain ⟨j, s, hj, rfl, rfl, hs32, HS⟩ := hrel
        by_cases hjt : j < 8
        · have HJ := Lib.hid (crcI_next (r := s) hjt)
          have hcs := crcS_lt hs32
          have hand := ba32 s hs32
          by_cases ho : s % 2 = 1
          · have ho2 : ((s % 2 : Nat) : Int) = 1 := by omega
            rw [ho2] at hand
            have hx2 : bits .xor .u32 ((s : Int) / 2) 3988292384 = ((crcS s : Nat) : Int) := by
              rw [show ((s : Int) / 2) = ((s / 2 : Nat) : Int) by omega]
              unfold crcS
              rw [if_pos ho]
              exact bx32 (s / 2) 3988292384 (by omega) (by omega)
            clear ho2
            go_wp2
            go_round
            case rel => exact ⟨j + 1, crcS s, by omega, by go_num, rfl, hcs, by rw [← HJ.out]; exact HS⟩
            case measure => simp [intOf] <;> omega
          · have ho2 : ((s % 2 : Nat) : Int) = 0 := by omega
            rw [ho2] at hand
            have hx2 : ((s : Int) / 2) = ((crcS s : Nat) : Int) := by
              unfold crcS
              rw [if_neg ho]
              omega
            clear ho2
            go_wp2
            go_round
            case rel => exact ⟨j + 1, crcS s, by omega, by go_num, by go_num, hcs, by rw [← HJ.out]; exact HS⟩
            case measure => simp [intOf] <;> omega
        · obtain rfl : j = 8 := by omega
          have hse : s = crcB r x := HS.out
          go_wp2
          go_round
          case rel => exact ⟨k + 1, s, by omega, by go_num, rfl, hs32, Lib.hid (by rw [← HC.out, HN.out, hse])⟩
          case measure => simp [intOf] <;> omega
    · obtain rfl : k = l.length := by omega
      have hend : r = crcL l 4294967295 := by
        have := HC.out
        rw [List.drop_length] at this
        exact this
      have hcl := crc_lt HB.out
      have hx3 : bits .xor .u32 IntKind.u32.max (r : Int) = ((crc l : Nat) : Int) := by
        unfold crc
        rw [← hend, Nat.xor_comm]
        exact bx32 4294967295 r (by omega) hr32
      have hx4 : wrap64 ((crc l : Nat) : Int) = ((crc l : Nat) : Int) := by unfold wrap64; omega
      clear hend
      go_wp2
      go_ret
      exact ⟨rfl, ext_refl _⟩
end Go.Proofs.Ytpghedeghoegmaa

