/- RangesHave of the reference and of the program. -/
import Derived.Test.YtinfkgbgeajphaaRgs
import Derived.Test.YtinfkgbgeajphaaBox
namespace Go.Proofs.Ytinfkgbgeajphaa
open Go.ChangeShapes Go.WideShapes Go.ChangeAt Go.RowKit Go.Sort
set_option linter.unusedVariables false
set_option linter.unusedSimpArgs false

def atStep (b : Rng) (y : Int) : Int := if b.lo ≤ y ∧ y < b.hi then b.hi else y
def atF (l : List Rng) (x : Int) : Nat → Int
  | 0 => x
  | k + 1 => atStep (l.getD k ⟨0, 0⟩) (atF l x k)
def haveB (l : List Rng) (lo hi : Int) : Bool := decide (hi ≤ atF l lo l.length)
theorem atF_hit {l : List Rng} {x : Int} {k : Nat} (hk : k < l.length) {y : Int} (hy : atF l x k = y) (h1 : l[k].lo ≤ y) (h2 : y < l[k].hi) : atF l x (k + 1) = l[k].hi := by simp [atF, hk, hy, atStep, h1, h2]
theorem atF_miss {l : List Rng} {x : Int} {k : Nat} (hk : k < l.length) {y : Int} (hy : atF l x k = y) (h : ¬ (l[k].lo ≤ y ∧ y < l[k].hi)) : atF l x (k + 1) = y := by simp only [atF, hy, atStep]; simp [hk]; intro h1 h2; exact absurd ⟨h1, h2⟩ h

set_option maxHeartbeats 2000000 in
theorem c_sRangesHave (A : Option Addr) (c : Nat) (l : List Rng) (lo hi : Int) (w : World) (ha : Rd Rng.enc 2 w A c l) (hn : l.length ≤ 1099511627776) :
    Calls Try.prog 45 #[.slice A l.length c, .agg #[.int .i64 lo, .int .i64 hi]] w fun e w' => e = .returned (.bool (rangesOk l && Rng.ok ⟨lo, hi⟩ && haveB l lo hi)) ∧ Ext w w' := by
  go_enter Try.func45, Try.ntmps45
  go_wp2_with fail
  refine (c_sRangesOk A c l _ (ha.keep (ext_alloc _ _)) hn).mono ?_
  rintro e w1 ⟨rfl, x1⟩
  have B1 := x1.box (hNew rfl)
  have C1 := bx_cell B1
  have z1 := bx_lt B1
  have X1 : Ext w w1 := Ext.trans (ext_alloc _ _) x1
  cases h1 : rangesOk l
  · go_wp2
    go_ret
    exact ⟨ret_bool (by simp [h1]), X1⟩
  go_wp2_with fail
  refine (c_sRangeOk lo hi _).mono ?_
  rintro e w2 ⟨rfl, x2⟩
  have B2 := x2.box B1
  have X2 : Ext w w2 := Ext.trans X1 x2
  clear B1 C1 z1
  have C2 := bx_cell B2
  have z2 := bx_lt B2
  cases h2 : Rng.ok ⟨lo, hi⟩
  · go_wp2
    go_ret
    exact ⟨ret_bool (by simp [h1, h2]), X2⟩
  go_wp2
  clear C2 z2
  go_loopw [5, 6] (fun y i wr => ∃ k : Nat, k ≤ l.length ∧ y = .int .i64 (atF l lo k) ∧ i = .int .i64 k ∧ wr.heap[w.heap.size]? = some (.cells #[.int .i64 lo, .int .i64 hi] 25 (0, 0)) ∧ Ext w wr) (fun _ i _ => l.length - (intOf i).toNat)
  case atStart => exact ⟨0, Nat.zero_le _, rfl, rfl, B2, X2⟩
  case round =>
    obtain ⟨k, hk, rfl, rfl, Br, hx0⟩ := hrel
    obtain ⟨y, hy⟩ : ∃ y, atF l lo k = y := ⟨_, rfl⟩
    rw [hy]
    have HY := Lib.hid hy
    clear hy
    by_cases hlt : k < l.length
    · obtain ⟨ab, ao, rfl, hab, a0, a1⟩ := (ha.keep hx0).atRng hlt
      go_wp2
      all_goals go_roundw
      all_goals first
        | exact ⟨k + 1, by omega, by rw [atF_hit hlt HY.out (by omega) (by omega)], by go_num, Br, hx0⟩
        | exact ⟨k + 1, by omega, by rw [atF_miss hlt HY.out (by omega)], by go_num, Br, hx0⟩
        | (simp [intOf] <;> omega)
    · have hkl : k = l.length := by omega
      subst hkl
      have Cr := bx_cell Br
      have zr := bx_lt Br
      go_wp2
      go_ret
      exact ⟨ret_bool (by simp [haveB, HY.out, h1, h2]), hx0⟩

set_option maxHeartbeats 2000000 in
theorem c_haveAll (A : Option Addr) (c : Nat) (l : List Rng) (lo hi : Int) (w : World) (ha : Rd Rng.enc 2 w A c l) (hn : l.length ≤ 1099511627776) :
    Calls Try.prog 85 #[.slice A l.length c, .agg #[.int .i64 lo, .int .i64 hi]] w fun e w' => e = .returned (.bool (haveB l lo hi)) ∧ Ext w w' := by
  go_enter Try.func85, Try.ntmps85
  go_wp2
  go_loopw [5, 12] (fun y i wr => ∃ k : Nat, k ≤ l.length ∧ y = .int .i64 (atF l lo k) ∧ i = .int .i64 k ∧ wr.heap[w.heap.size]? = some (.cells #[.int .i64 lo, .int .i64 hi] 25 (0, 0)) ∧ Ext w wr) (fun _ i _ => l.length - (intOf i).toNat)
  case atStart => exact ⟨0, Nat.zero_le _, rfl, rfl, hNew rfl, ext_alloc _ _⟩
  case round =>
    obtain ⟨k, hk, rfl, rfl, Br, hx0⟩ := hrel
    obtain ⟨y, hy⟩ : ∃ y, atF l lo k = y := ⟨_, rfl⟩
    rw [hy]
    have HY := Lib.hid hy
    clear hy
    by_cases hlt : k < l.length
    · obtain ⟨ab, ao, rfl, hab, a0, a1⟩ := (ha.keep hx0).atRng hlt
      have hab1 : ¬ ab = wr.heap.size := by omega
      have hab2 : ab < wr.heap.size + 1 := by omega
      go_wp2
      all_goals go_roundw
      all_goals first
        | exact ⟨k + 1, by omega, by rw [atF_hit hlt HY.out (by omega) (by omega)], by go_num, hOld Br, by (repeat (first | with_reducible exact ext_refl _ | with_reducible refine ext_to ?_ _ | with_reducible refine ext_set ?_ (by first | (simp; done) | (simp; omega) | omega) _ | with_reducible refine ext_drew ?_ | with_reducible refine Ext.trans ?_ (by assumption)))⟩
        | exact ⟨k + 1, by omega, by rw [atF_miss hlt HY.out (by omega)], by go_num, hOld Br, by (repeat (first | with_reducible exact ext_refl _ | with_reducible refine ext_to ?_ _ | with_reducible refine ext_set ?_ (by first | (simp; done) | (simp; omega) | omega) _ | with_reducible refine ext_drew ?_ | with_reducible refine Ext.trans ?_ (by assumption)))⟩
        | (simp [intOf] <;> omega)
    · have hkl : k = l.length := by omega
      subst hkl
      have Cr := bx_cell Br
      have zr := bx_lt Br
      go_wp2
      go_ret
      exact ⟨ret_bool (by simp [haveB, HY.out]), hx0⟩

theorem c_iRangesHave (A : Option Addr) (c : Nat) (l : List Rng) (lo hi : Int) (w : World) (ha : Rd Rng.enc 2 w A c l) (hn : l.length ≤ 1099511627776) :
    Calls Try.prog 46 #[.slice A l.length c, .agg #[.int .i64 lo, .int .i64 hi]] w fun e w' => e = .returned (.bool (rangesOk l && Rng.ok ⟨lo, hi⟩ && haveB l lo hi)) ∧ Ext w w' := by
  go_enter Try.func46, Try.ntmps46
  go_wp2_with fail
  refine (c_iRangesOk A c l _ (ha.keep (ext_alloc _ _)) hn).mono ?_
  rintro e w1 ⟨rfl, x1⟩
  have B1 := x1.box (hNew rfl)
  have C1 := bx_cell B1
  have z1 := bx_lt B1
  have X1 : Ext w w1 := Ext.trans (ext_alloc _ _) x1
  cases h1 : rangesOk l
  · go_wp2
    go_ret
    exact ⟨ret_bool (by simp [h1]), X1⟩
  go_wp2_with fail
  refine (c_iRangeOk lo hi _).mono ?_
  rintro e w2 ⟨rfl, x2⟩
  have B2 := x2.box B1
  have X2 : Ext w w2 := Ext.trans X1 x2
  clear B1 C1 z1
  have C2 := bx_cell B2
  have z2 := bx_lt B2
  cases h2 : Rng.ok ⟨lo, hi⟩
  · go_wp2
    go_ret
    exact ⟨ret_bool (by simp [h1, h2]), X2⟩
  go_wp2_with fail
  refine (c_haveAll A c l lo hi _ (ha.keep X2) hn).mono ?_
  rintro e w3 ⟨rfl, x3⟩
  go_wp2
  go_ret
  exact ⟨ret_bool (by simp [h1, h2]), Ext.trans X2 x3⟩
end Go.Proofs.Ytinfkgbgeajphaa
