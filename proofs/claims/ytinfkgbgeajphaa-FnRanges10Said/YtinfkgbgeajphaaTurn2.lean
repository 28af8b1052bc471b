/- Ranges with a range in them, or out: RangesPlus, RangesLess of the program and of the reference. -/
import Derived.Test.YtinfkgbgeajphaaSTurn2
namespace Go.Proofs.Ytinfkgbgeajphaa
open Go.ChangeShapes Go.WideShapes Go.ChangeAt Go.RowKit Go.Sort
set_option linter.unusedVariables false
set_option linter.unusedSimpArgs false

theorem turnV_len (l : List Rng) (a : Rng) (b : Bool) : (turnV l a b).length ≤ 16 := by
  unfold turnV
  split
  · rename_i h
    unfold turnB at h
    simp only [Bool.and_eq_true, decide_eq_true_eq] at h
    exact h.2
  · simp
theorem c_iRangesPlus (A : Option Addr) (c : Nat) (l : List Rng) (lo hi : Int) (w : World) (ha : Rd Rng.enc 2 w A c l) (hn : l.length ≤ 1099511627776) :
    Calls Try.prog 58 #[.slice A l.length c, .agg #[.int .i64 lo, .int .i64 hi]] w fun e w' => ∃ v, e = .returned (.tuple #[v, .bool (turnB l ⟨lo, hi⟩ true)]) ∧ Ow Rng.enc 25 2 w' w.heap.size v (turnV l ⟨lo, hi⟩ true) ∧ Ext w w' := by
  go_enter Try.func58, Try.ntmps58
  go_wp2_with fail
  refine (c_changed A c l lo hi true _ (ha.keep (ext_alloc _ _)) hn).mono ?_
  rintro e w1 ⟨v, rfl, o1, x1⟩
  go_wp2
  go_ret2
  exact ⟨_, rfl, o1.less (by simp), Ext.trans (ext_alloc _ _) x1⟩
theorem c_iRangesLess (A : Option Addr) (c : Nat) (l : List Rng) (lo hi : Int) (w : World) (ha : Rd Rng.enc 2 w A c l) (hn : l.length ≤ 1099511627776) :
    Calls Try.prog 54 #[.slice A l.length c, .agg #[.int .i64 lo, .int .i64 hi]] w fun e w' => ∃ v, e = .returned (.tuple #[v, .bool (turnB l ⟨lo, hi⟩ false)]) ∧ Ow Rng.enc 25 2 w' w.heap.size v (turnV l ⟨lo, hi⟩ false) ∧ Ext w w' := by
  go_enter Try.func54, Try.ntmps54
  go_wp2_with fail
  refine (c_changed A c l lo hi false _ (ha.keep (ext_alloc _ _)) hn).mono ?_
  rintro e w1 ⟨v, rfl, o1, x1⟩
  go_wp2
  go_ret2
  exact ⟨_, rfl, o1.less (by simp), Ext.trans (ext_alloc _ _) x1⟩
theorem c_sRangesPlus (A : Option Addr) (c : Nat) (l : List Rng) (lo hi : Int) (w : World) (ha : Rd Rng.enc 2 w A c l) (hn : l.length ≤ 1099511627776) :
    Calls Try.prog 57 #[.slice A l.length c, .agg #[.int .i64 lo, .int .i64 hi]] w fun e w' => ∃ v, e = .returned (.tuple #[v, .bool (turnB l ⟨lo, hi⟩ true)]) ∧ Ow Rng.enc 25 2 w' w.heap.size v (turnV l ⟨lo, hi⟩ true) ∧ Ext w w' := by
  go_enter Try.func57, Try.ntmps57
  go_wp2_with fail
  refine (c_sTurn A c l lo hi true _ (ha.keep (ext_alloc _ _)) hn).mono ?_
  rintro e w1 ⟨v, rfl, o1, x1⟩
  go_wp2
  go_ret2
  exact ⟨_, rfl, o1.less (by simp), Ext.trans (ext_alloc _ _) x1⟩
theorem c_sRangesLess (A : Option Addr) (c : Nat) (l : List Rng) (lo hi : Int) (w : World) (ha : Rd Rng.enc 2 w A c l) (hn : l.length ≤ 1099511627776) :
    Calls Try.prog 53 #[.slice A l.length c, .agg #[.int .i64 lo, .int .i64 hi]] w fun e w' => ∃ v, e = .returned (.tuple #[v, .bool (turnB l ⟨lo, hi⟩ false)]) ∧ Ow Rng.enc 25 2 w' w.heap.size v (turnV l ⟨lo, hi⟩ false) ∧ Ext w w' := by
  go_enter Try.func53, Try.ntmps53
  go_wp2_with fail
  refine (c_sTurn A c l lo hi false _ (ha.keep (ext_alloc _ _)) hn).mono ?_
  rintro e w1 ⟨v, rfl, o1, x1⟩
  go_wp2
  go_ret2
  exact ⟨_, rfl, o1.less (by simp), Ext.trans (ext_alloc _ _) x1⟩
end Go.Proofs.Ytinfkgbgeajphaa
