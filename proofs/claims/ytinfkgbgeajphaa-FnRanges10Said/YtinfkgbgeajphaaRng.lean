/- Contracts of the functions on one range. -/
import Derived.Test.YtinfkgbgeajphaaProg
import Derived.Test.YtinfkgbgeajphaaBase
namespace Go.Proofs.Ytinfkgbgeajphaa
open Go.ChangeShapes Go.WideShapes Go.ChangeAt Go.RowKit Go.Sort
set_option linter.unusedVariables false

structure Rng where
  lo : Int
  hi : Int
deriving DecidableEq

def Rng.enc (r : Rng) : List Value := [.int .i64 r.lo, .int .i64 r.hi]
abbrev Rng.agg (r : Rng) : Value := .agg #[.int .i64 r.lo, .int .i64 r.hi]
def Rng.ok (r : Rng) : Bool := decide (0 ≤ r.lo) && decide (r.lo < r.hi) && decide (r.hi ≤ 1000)

theorem c_toRange (lo hi : Int) (w : World) : Calls Try.prog 20 #[.agg #[.int .i64 lo, .int .i64 hi]] w fun e w' => e = .returned (.agg #[.int .i64 lo, .int .i64 hi]) ∧ Ext w w' := by
  go_enter Try.func20, Try.ntmps20
  go_wp2
  exact bodyPost_ret (v := .agg #[.int .i64 lo, .int .i64 hi]) (by simp [results, Try.results20, go_sem]) rfl ⟨rfl, ext_to (ext_to (ext_alloc _ _) _) _⟩

theorem c_sRangeOk (lo hi : Int) (w : World) : Calls Try.prog 19 #[.agg #[.int .i64 lo, .int .i64 hi]] w fun e w' => e = .returned (.bool (Rng.ok ⟨lo, hi⟩)) ∧ Ext w w' := by
  go_enter Try.func19, Try.ntmps19
  go_wp2
  all_goals
    go_ret
    refine ⟨ret_bool ?_, ext_alloc _ _⟩
    simp [Rng.ok, *] <;> omega

theorem c_iRangeOk (lo hi : Int) (w : World) : Calls Try.prog 21 #[.agg #[.int .i64 lo, .int .i64 hi]] w fun e w' => e = .returned (.bool (Rng.ok ⟨lo, hi⟩)) ∧ Ext w w' := by
  go_enter Try.func21, Try.ntmps21
  go_wp2
  all_goals
    go_ret
    refine ⟨ret_bool ?_, ext_alloc _ _⟩
    simp [Rng.ok, *] <;> omega


theorem c_sRangeIn (lo hi lo' hi' : Int) (w : World) : Calls Try.prog 22 #[.agg #[.int .i64 lo, .int .i64 hi], .agg #[.int .i64 lo', .int .i64 hi']] w fun e w' => e = .returned (.bool (Rng.ok ⟨lo, hi⟩ && Rng.ok ⟨lo', hi'⟩ && decide (lo' ≤ lo) && decide (hi ≤ hi'))) ∧ Ext w w' := by
  go_enter Try.func22, Try.ntmps22
  go_wp2_with (go_at_call 19; refine (c_sRangeOk _ _ _).mono ?_; rintro e w1 ⟨rfl, hx⟩; obtain ⟨hc1, hf1, hs1⟩ := hx.rules; (try simp at hs1); have z0 : w.heap.size < w1.heap.size := (by omega); have z1 : w.heap.size + 1 < w1.heap.size := (by omega))
  all_goals
    go_ret
    refine ⟨ret_bool ?_, ?_⟩
    · simp [*] <;> omega
    · (repeat (first | with_reducible exact ext_refl _ | with_reducible refine ext_to ?_ _ | with_reducible refine ext_set ?_ (by first | (simp; done) | (simp; omega) | omega) _ | with_reducible refine ext_drew ?_ | with_reducible refine Ext.trans ?_ (by assumption)))
theorem c_iRangeIn (lo hi lo' hi' : Int) (w : World) : Calls Try.prog 23 #[.agg #[.int .i64 lo, .int .i64 hi], .agg #[.int .i64 lo', .int .i64 hi']] w fun e w' => e = .returned (.bool (Rng.ok ⟨lo, hi⟩ && Rng.ok ⟨lo', hi'⟩ && decide (lo' ≤ lo) && decide (hi ≤ hi'))) ∧ Ext w w' := by
  go_enter Try.func23, Try.ntmps23
  go_wp2_with (go_at_call 21; refine (c_iRangeOk _ _ _).mono ?_; rintro e w1 ⟨rfl, hx⟩; obtain ⟨hc1, hf1, hs1⟩ := hx.rules; (try simp at hs1); have z0 : w.heap.size < w1.heap.size := (by omega); have z1 : w.heap.size + 1 < w1.heap.size := (by omega))
  all_goals
    go_ret
    refine ⟨ret_bool ?_, ?_⟩
    · simp [*] <;> omega
    · (repeat (first | with_reducible exact ext_refl _ | with_reducible refine ext_to ?_ _ | with_reducible refine ext_set ?_ (by first | (simp; done) | (simp; omega) | omega) _ | with_reducible refine ext_drew ?_ | with_reducible refine Ext.trans ?_ (by assumption)))

def meet (a b : Rng) : Rng := ⟨max a.lo b.lo, min a.hi b.hi⟩
def Rng.zero : Rng := ⟨0, 0⟩
def meetB (a b : Rng) : Bool := a.ok && b.ok && (meet a b).ok
def meetV (a b : Rng) : Rng := if meetB a b then meet a b else Rng.zero

theorem c_l1Max (a b : Int) (w : World) : Calls Try.prog 66 #[.int .i64 a, .int .i64 b] w fun e w' => e = .returned (.int .i64 (max a b)) ∧ Ext w w' := by
  go_enter Try.func66, Try.ntmps66
  go_wp2
  all_goals
    go_ret
    exact ⟨ret_int (by omega), ext_refl _⟩
theorem c_l1Min (a b : Int) (w : World) : Calls Try.prog 67 #[.int .i64 a, .int .i64 b] w fun e w' => e = .returned (.int .i64 (min a b)) ∧ Ext w w' := by
  go_enter Try.func67, Try.ntmps67
  go_wp2
  all_goals
    go_ret
    exact ⟨ret_int (by omega), ext_refl _⟩

theorem c_sRangeMeet (lo hi lo' hi' : Int) (w : World) : Calls Try.prog 24 #[.agg #[.int .i64 lo, .int .i64 hi], .agg #[.int .i64 lo', .int .i64 hi']] w fun e w' =>
    e = .returned (.tuple #[(meetV ⟨lo, hi⟩ ⟨lo', hi'⟩).agg, .bool (meetB ⟨lo, hi⟩ ⟨lo', hi'⟩)]) ∧ Ext w w' := by
  go_enter Try.func24, Try.ntmps24
  go_wp2
  (refine wp_region_mix' (fun _ _ _ _ _ hq => hq) 12 (by kernel_rfl) (by kernel_rfl) (fun hg => ?_); simp only [headOps, List.take_succ_cons, List.take_zero, List.filter_cons, List.filter_nil, isAlloc, Bool.not_true, Bool.not_false, Bool.false_eq_true, if_true, if_false, List.cons_append, List.nil_append, List.drop_succ_cons, List.drop_zero])
  (repeat (refine wpMix_plain rfl rfl ?_; go_big_quiet_step (fail); refine wpQuiet_nil ?_))
  (refine wpMix_det rfl rfl rfl (enters Try.func66 (by kernel_rfl) rfl) (fun W hW => c_l1Max _ _ W) rfl ?_; simp only [Act.put, List.setIfInBounds_toArray, List.set_cons_zero, List.set_cons_succ])
  (repeat (refine wpMix_plain rfl rfl ?_; go_big_quiet_step (fail); refine wpQuiet_nil ?_))
  (refine wpMix_det rfl rfl rfl (enters Try.func67 (by kernel_rfl) rfl) (fun W hW => c_l1Min _ _ W) rfl ?_; simp only [Act.put, List.setIfInBounds_toArray, List.set_cons_zero, List.set_cons_succ])
  (repeat (refine wpMix_plain rfl rfl ?_; go_big_quiet_step (fail); refine wpQuiet_nil ?_))
  (refine wpMix_alloc (.cells #[.int .i64 0, .int .i64 0] 25) rfl (fun W => by kernel_rfl) ?_; intro p hp hps hpi; simp only [layVal, Act.put, List.setIfInBounds_toArray, List.set_cons_zero, List.set_cons_succ])
  refine wpMix_nil ?_
  intro w' hw'
  (obtain ⟨hx, hp' ⟩ := hw'; obtain ⟨hc0, hf0, hs0⟩ := hx.rules; (try simp at hs0); have cp := bx_cell hp'; have fp := bx_frozen hp'; have zp := bx_lt hp'; (try simp at hp))
  have n0 : ¬ p = w.heap.size := by omega
  have n1 : ¬ p = w.heap.size + 1 := by omega
  have n2 : ¬ p = w.heap.size + 1 + 1 := by omega
  have m0 : ¬ w.heap.size = p := by omega
  have m1 : ¬ w.heap.size + 1 = p := by omega
  have m2 : ¬ w.heap.size + 1 + 1 = p := by omega
  have z0 : w.heap.size < w'.heap.size := by omega
  have z1 : w.heap.size + 1 < w'.heap.size := by omega
  have z2 : w.heap.size + 1 + 1 < w'.heap.size := by omega
  go_wp2_with (go_at_call 19; refine (c_sRangeOk _ _ _).mono ?_; rintro e w1 ⟨rfl, hx⟩; obtain ⟨hc1, hf1, hs1⟩ := hx.rules; (try simp at hs1); have z0 : w.heap.size < w1.heap.size := (by omega); have z1 : w.heap.size + 1 < w1.heap.size := (by omega); have z2 : w.heap.size + 1 + 1 < w1.heap.size := (by omega); have zp : p < w1.heap.size := (by omega))
  all_goals
    refine bodyPost_ret (v := .tuple #[(meetV ⟨lo, hi⟩ ⟨lo', hi'⟩).agg, .bool (meetB ⟨lo, hi⟩ ⟨lo', hi'⟩)]) ?_ rfl ⟨rfl, ?_⟩
    · simp [results, Try.results24, go_sem, meetV, meetB, meet, Rng.zero, *] <;> (simp only [Bool.not_eq_true', Bool.not_eq_false'] at *; simp [*])
    · (repeat (first | with_reducible exact ext_refl _ | with_reducible refine ext_to ?_ _ | with_reducible refine ext_set ?_ (by first | (simp; done) | (simp; omega) | omega) _ | with_reducible refine ext_drew ?_ | with_reducible refine Ext.trans ?_ (by assumption)))

def meetsB (lo hi lo' hi' : Int) : Bool := decide (lo < hi') && decide (lo' < hi)
theorem c_meets (lo hi lo' hi' : Int) (w : World) : Calls Try.prog 68 #[.agg #[.int .i64 lo, .int .i64 hi], .agg #[.int .i64 lo', .int .i64 hi']] w fun e w' => e = .returned (.bool (meetsB lo hi lo' hi')) ∧ Ext w w' := by
  go_enter Try.func68, Try.ntmps68
  go_wp2
  all_goals
    go_ret
    refine ⟨ret_bool ?_, ?_⟩
    · simp [meetsB, *] <;> omega
    · (repeat (first | with_reducible exact ext_refl _ | with_reducible refine ext_to ?_ _ | with_reducible refine ext_set ?_ (by first | (simp; done) | (simp; omega) | omega) _ | with_reducible refine ext_drew ?_ | with_reducible refine Ext.trans ?_ (by assumption)))

theorem meetB_meets (lo hi lo' hi' : Int) : meetB ⟨lo, hi⟩ ⟨lo', hi'⟩ = (Rng.ok ⟨lo, hi⟩ && Rng.ok ⟨lo', hi'⟩ && meetsB lo hi lo' hi') := by
  unfold meetB meet Rng.ok meetsB
  rw [Bool.eq_iff_iff]
  simp only [Bool.and_eq_true, decide_eq_true_eq]
  omega

theorem c_iRangeMeet (lo hi lo' hi' : Int) (w : World) : Calls Try.prog 25 #[.agg #[.int .i64 lo, .int .i64 hi], .agg #[.int .i64 lo', .int .i64 hi']] w fun e w' =>
    e = .returned (.tuple #[(meetV ⟨lo, hi⟩ ⟨lo', hi'⟩).agg, .bool (meetB ⟨lo, hi⟩ ⟨lo', hi'⟩)]) ∧ Ext w w' := by
  have HM := Lib.hid (meetB_meets lo hi lo' hi')
  go_enter Try.func25, Try.ntmps25
  go_wp2_with (first | (go_at_call 21; refine (c_iRangeOk _ _ _).mono ?_; rintro e w1 ⟨rfl, hx⟩; obtain ⟨hc1, hf1, hs1⟩ := hx.rules; (try simp at hs1); have z0 : w.heap.size < w1.heap.size := (by omega); have z1 : w.heap.size + 1 < w1.heap.size := (by omega); have z2 : w.heap.size + 1 + 1 < w1.heap.size := (by omega)) | (go_at_call 68; refine (c_meets _ _ _ _ _).mono ?_; rintro e w1 ⟨rfl, hx⟩; obtain ⟨hc1, hf1, hs1⟩ := hx.rules; (try simp at hs1); have z0 : w.heap.size < w1.heap.size := (by omega); have z1 : w.heap.size + 1 < w1.heap.size := (by omega); have z2 : w.heap.size + 1 + 1 < w1.heap.size := (by omega)))
  all_goals
    refine bodyPost_ret (v := .tuple #[(meetV ⟨lo, hi⟩ ⟨lo', hi'⟩).agg, .bool (meetB ⟨lo, hi⟩ ⟨lo', hi'⟩)]) ?_ rfl ⟨rfl, ?_⟩
    · have hm := HM.out
      simp only [Bool.not_eq_true', Bool.not_eq_false'] at *
      simp [results, Try.results25, go_sem, meetV, meet, Rng.zero, *] <;> omega
    · (repeat (first | with_reducible exact ext_refl _ | with_reducible refine ext_to ?_ _ | with_reducible refine ext_set ?_ (by first | (simp; done) | (simp; omega) | omega) _ | with_reducible refine ext_drew ?_ | with_reducible refine Ext.trans ?_ (by assumption)))

theorem c_eqRange (lo hi lo' hi' : Int) (w : World) : Calls Try.prog 26 #[.agg #[.int .i64 lo, .int .i64 hi], .agg #[.int .i64 lo', .int .i64 hi']] w fun e w' => e = .returned (.bool (decide (lo = lo' ∧ hi = hi'))) ∧ Ext w w' := by
  go_enter Try.func26, Try.ntmps26
  go_wp2
  all_goals
    go_ret
    refine ⟨ret_bool ?_, ?_⟩
    · simp [*]
      try (simp at *; simp [*])
    · (repeat (first | with_reducible exact ext_refl _ | with_reducible refine ext_to ?_ _ | with_reducible refine ext_set ?_ (by first | (simp; done) | (simp; omega) | omega) _ | with_reducible refine ext_drew ?_ | with_reducible refine Ext.trans ?_ (by assumption)))
end Go.Proofs.Ytinfkgbgeajphaa
