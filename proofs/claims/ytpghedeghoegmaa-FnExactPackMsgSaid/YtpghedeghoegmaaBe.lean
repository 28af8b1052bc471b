/- Rows of bytes: equal, marked, held, copied. -/
import Derived.Test.YtpghedeghoegmaaCc
namespace Go.Proofs.Ytpghedeghoegmaa
open Go.ChangeShapes Go.WideShapes Go.ChangeAt Go.RowKit Go.Sort
set_option linter.unusedVariables false
set_option linter.unusedSimpArgs false

set_option maxHeartbeats 2000000 in
theorem c_eqByteS_same (A B : Option Addr) (ca cb : Nat) (l : List Nat) (w : World) (ha : Rd bEnc 1 w A ca l) (hb : Rd bEnc 1 w B cb l) (hn : l.length ≤ 1099511627776) :
    Calls Try.prog 11 #[.slice A l.length ca, .slice B l.length cb] w fun e w' => e = .returned (.bool true) ∧ Ext w w' := by
  have hl' : ((l.length : Int) != (l.length : Int)) = false := by simp
  have HA := Lib.hid ha
  have HB := Lib.hid hb
  clear ha hb
  go_enter Try.func11, Try.ntmps11
  go_wp2
  go_loopw [5] (fun i wr => ∃ k : Nat, k ≤ l.length ∧ i = .int .i64 k ∧ Ext w wr) (fun i _ => l.length - (intOf i).toNat)
  case atStart => exact ⟨0, Nat.zero_le _, rfl, ext_refl _⟩
  case round =>
    obtain ⟨k, hk, rfl, hx⟩ := hrel
    by_cases hlt : k < l.length
    · obtain ⟨ab, ao, rfl, hab, a0⟩ := (HA.out.keep hx).atB hlt
      obtain ⟨bb, bo, rfl, hbb, b0⟩ := (HB.out.keep hx).atB hlt
      have t0 : (((l[k] : Nat) : Int) != ((l[k] : Nat) : Int)) = false := by simp
      go_wp2
      (refine wp_region_mix' (fun _ _ _ _ _ hq => hq) 9 (by kernel_rfl) (by kernel_rfl) (fun hg => ?_); simp only [headOps, List.take_succ_cons, List.take_zero, List.filter_cons, List.filter_nil, isAlloc, Bool.not_false, Bool.false_eq_true, if_true, if_false, List.append_nil, List.drop_succ_cons, List.drop_zero])
      (repeat (first | (refine wpMix_plain rfl rfl ?_; go_big_quiet_step (fail); refine wpQuiet_nil ?_) | (refine wpMix_skip rfl rfl ?_; simp only [Act.put, List.setIfInBounds_toArray, List.set_cons_zero, List.set_cons_succ])))
      (refine wpMix_nil ?_; intro w2 hw2)
      go_wp2
      go_roundw
      case rel => exact ⟨k + 1, by omega, by go_num, Ext.trans hx hw2⟩
      case measure => simp [intOf]; omega
    · have hkl : k = l.length := by omega
      go_wp2
      go_ret
      exact ⟨rfl, hx⟩

def bMark (k : Nat) (i : Nat) : Nat := (k + i) % 256
def marksB (k n : Nat) : List Nat := (List.range n).map (bMark k)
theorem marksB_len (k n : Nat) : (marksB k n).length = n := by simp [marksB]
theorem marksB_at (k n j : Nat) (hj : j < n) : (marksB k n)[j]'(by simpa [marksB] using hj) = (k + j) % 256 := by simp [marksB, bMark]

set_option maxHeartbeats 2000000 in
theorem c_markByteS (A : Option Addr) (c : Nat) (l : List Nat) (B : Nat) (k : Nat) (w : World) (h : Ow bEnc 5 1 w B (.slice A l.length c) l) (h1 : k ≤ 1099511627776) (hn : l.length ≤ 1099511627776) :
    Calls Try.prog 14 #[.slice A l.length c, .int .i64 k] w fun e w' => e = .returned (.int .i64 ((k + l.length : Nat) : Int)) ∧ Ow bEnc 5 1 w' B (.slice A l.length c) (marksB k l.length) ∧ w.grownBy w' (Value.slice A l.length c).ownBlock := by
  unfold Ow at h
  go_enter Try.func14, Try.ntmps14
  go_wp2
  go_loopw [1, 5] (fun q i wr => ∃ j : Nat, j ≤ l.length ∧ i = .int .i64 j ∧ q = .int .i64 ((k + j : Nat) : Int) ∧ wr.ownsRow B 5 1 (.slice A l.length c) l.length ((mixed (bMark k) l j).flatMap bEnc) ∧ w.grownBy wr (Value.slice A l.length c).ownBlock) (fun _ i _ => l.length - (intOf i).toNat)
  case atStart => exact ⟨0, Nat.zero_le _, rfl, by simp, by rw [mixed_zero]; exact h, World.grownBy.refl _ _⟩
  case round =>
    obtain ⟨j, hj, rfl, rfl, hown, hgr⟩ := hrel
    by_cases hlt : j < l.length
    · obtain ⟨g, rfl, hgB, hgl⟩ := ownsRow_form hown (by omega)
      obtain ⟨x0, e0⟩ : ∃ x, wr.cell? ⟨g, j, none⟩ = some x := ⟨_, (World.ownsRow.cellAt hown j (by omega)).trans (List.getElem?_eq_getElem (by rw [hown.1]; omega))⟩
      have hfz := World.ownsRow.frozenAt hown
      have HO := Lib.hid hown
      have HG := Lib.hid hgr
      have hwr : IntKind.u8.wrap ((k + j : Nat) : Int) = (((k + j) % 256 : Nat) : Int) := by rw [IntKind.wrap_u8]; omega
      clear hown h hgr
      go_wp2
      have s0 := World.ownsRow.stored HO.out j (.int .u8 (((k + j) % 256 : Nat) : Int))
      have hnext := setAll_mixed bEnc_len (bMark k) l j hlt
      go_roundw
      case rel => exact ⟨j + 1, by omega, by go_num, by go_num, ownsRow_congr s0.1 (by rw [Nat.mul_one] at hnext; exact hnext), grown_trans HG.out s0.2⟩
      case measure => simp [intOf]; omega
    · have hkl : j = l.length := by omega
      go_wp2
      go_ret
      refine ⟨ret_int (by first | rfl | omega), ?_, hgr⟩
      unfold Ow marksB
      rw [List.length_map, List.length_range]
      exact ownsRow_congr hown (by rw [hkl, mixed_all])

set_option maxHeartbeats 2000000 in
theorem c_heldByteS (A : Option Addr) (c : Nat) (n : Nat) (k : Nat) (w : World) (h : Rd bEnc 1 w A c (marksB k n)) (h1 : k ≤ 1099511627776) (hn : n ≤ 1099511627776) :
    Calls Try.prog 15 #[.slice A n c, .int .i64 k] w fun e w' => e = .returned (.int .i64 ((k + n : Nat) : Int)) ∧ Ext w w' := by
  go_enter Try.func15, Try.ntmps15
  go_wp2
  go_loop [1, 5] (fun q i => ∃ j : Nat, j ≤ n ∧ i = .int .i64 j ∧ q = .int .i64 ((k + j : Nat) : Int)) (fun _ i => n - (intOf i).toNat)
  case atStart => exact ⟨0, Nat.zero_le _, rfl, by simp⟩
  case round =>
    obtain ⟨j, hj, rfl, rfl⟩ := hrel
    by_cases hlt : j < n
    · have hlt' : j < (marksB k n).length := by rw [marksB_len]; exact hlt
      obtain ⟨b, o, rfl, hb, a0⟩ := h.atB hlt'
      rw [marksB_at k n j hlt] at a0
      have hwr : IntKind.u8.wrap ((k + j : Nat) : Int) = (((k + j) % 256 : Nat) : Int) := by rw [IntKind.wrap_u8]; omega
      have t0 : ((((k + j) % 256 : Nat) : Int) != (((k + j) % 256 : Nat) : Int)) = false := by simp
      clear h
      go_wp2
      go_round
      case rel => exact ⟨j + 1, by omega, by go_num, by go_num⟩
      case measure => simp [intOf]; omega
    · have hkl : j = n := by omega
      go_wp2
      go_ret
      exact ⟨ret_int (by first | rfl | omega), ext_refl _⟩
end Go.Proofs.Ytpghedeghoegmaa
