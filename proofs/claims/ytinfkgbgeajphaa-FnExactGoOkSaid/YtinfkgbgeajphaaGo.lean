/- CmdOk and GoOk of the reference and of the program. -/
import Derived.Test.YtinfkgbgeajphaaInb
import Derived.Test.YtinfkgbgeajphaaBox
import Derived.Laws.StructEq
namespace Go.Proofs.Ytinfkgbgeajphaa
open Go.ChangeShapes Go.WideShapes Go.ChangeAt Go.RowKit Go.Sort
set_option linter.unusedVariables false
set_option linter.unusedSimpArgs false

abbrev wh (x : Int) : Bool := inB x 0 1000000000
def cmdOk (k x v : Int) : Bool := decide (0 ≤ x ∧ x ≤ 1000000000 ∧ ((k = 1 ∨ k = 4) ∧ v = 0 ∨ (k = 2 ∨ k = 3) ∧ 0 ≤ v ∧ v ≤ 1000000000))
theorem c_toCmd (k x v : Int) (w : World) : Calls Try.prog 77 #[.agg #[.int .i64 k, .int .i64 x, .int .i64 v]] w fun e w' => e = .returned (.agg #[.int .i64 k, .int .i64 x, .int .i64 v]) ∧ Ext w w' := by
  go_enter Try.func77, Try.ntmps77
  go_wp2
  exact bodyPost_ret (v := .agg #[.int .i64 k, .int .i64 x, .int .i64 v]) (by simp [results, Try.results77, go_sem]) rfl ⟨rfl, by (repeat (first | with_reducible exact ext_refl _ | with_reducible refine ext_to ?_ _ | with_reducible refine ext_set ?_ (by first | (simp; done) | (simp; omega) | omega) _ | with_reducible refine ext_drew ?_ | with_reducible refine Ext.trans ?_ (by assumption)))⟩
theorem c_toGo (k a t c r ck cx cv : Int) (w : World) : Calls Try.prog 38 #[.agg #[.int .i64 k, .int .i64 a, .int .i64 t, .int .i64 c, .int .i64 r, .int .i64 ck, .int .i64 cx, .int .i64 cv]] w fun e w' => e = .returned (.agg #[.int .i64 k, .int .i64 a, .int .i64 t, .int .i64 c, .int .i64 r, .int .i64 ck, .int .i64 cx, .int .i64 cv]) ∧ Ext w w' := by
  go_enter Try.func38, Try.ntmps38
  go_wp2_with (go_at_call 77; refine (c_toCmd _ _ _ _).mono ?_; rintro e w1 ⟨rfl, hx⟩; have B1 := hx.cell (k := w.heap.size + 1) (hOld (hNew (by simp))); have B2 := hx.cell (k := w.heap.size + 1 + 1) (hNew (by simp)); obtain ⟨hc1, hf1, hs1⟩ := hx.rules; clear hc1; (try simp at hs1); have z0 : w.heap.size < w1.heap.size := (by omega); have z1 : w.heap.size + 1 < w1.heap.size := (by omega); have z2 : w.heap.size + 1 + 1 < w1.heap.size := (by omega))
  exact bodyPost_ret (v := .agg #[.int .i64 k, .int .i64 a, .int .i64 t, .int .i64 c, .int .i64 r, .int .i64 ck, .int .i64 cx, .int .i64 cv]) (by simp [results, Try.results38, go_sem, *]) rfl ⟨rfl, by (repeat (first | with_reducible exact ext_refl _ | with_reducible refine ext_to ?_ _ | with_reducible refine ext_set ?_ (by first | (simp; done) | (simp; omega) | omega) _ | with_reducible refine ext_drew ?_ | with_reducible refine Ext.trans ?_ (by assumption)))⟩
theorem c_sCmdOk (k x v : Int) (w : World) : Calls Try.prog 76 #[.agg #[.int .i64 k, .int .i64 x, .int .i64 v]] w fun e w' => e = .returned (.bool (cmdOk k x v)) ∧ Ext w w' := by
  go_enter Try.func76, Try.ntmps76
  go_wp2_with (go_at_call 75; refine (c_l1Whole _ _).mono ?_; rintro e w1 ⟨rfl, hx⟩; obtain ⟨hc1, hf1, hs1⟩ := hx.rules; (try simp at hs1); have z0 : w.heap.size < w1.heap.size := (by omega))
  all_goals
    go_ret
    refine ⟨?_, ?_⟩
    · (refine ret_bool ?_; rw [Bool.eq_iff_iff]; simp only [inB, cmdOk, Bool.and_eq_true, Bool.or_eq_true, Bool.not_eq_true, Bool.not_eq_true', Bool.not_eq_false', Bool.not_eq_false, Bool.not_not, beq_iff_eq, bne_iff_ne, ne_eq, beq_eq_false_iff_ne, bne_eq_false_iff_eq, decide_eq_true_eq, decide_eq_false_iff_not, Bool.and_eq_false_imp, Bool.false_eq_true, reduceCtorEq, iff_true, iff_false, true_iff, false_iff, not_and, not_or] at *; omega)
    · (repeat (first | with_reducible exact ext_refl _ | with_reducible refine ext_to ?_ _ | with_reducible refine ext_set ?_ (by first | (simp; done) | (simp; omega) | omega) _ | with_reducible refine ext_drew ?_ | with_reducible refine Ext.trans ?_ (by assumption)))
theorem c_iCmdOk (k x v : Int) (w : World) : Calls Try.prog 81 #[.agg #[.int .i64 k, .int .i64 x, .int .i64 v]] w fun e w' => e = .returned (.bool (cmdOk k x v)) ∧ Ext w w' := by
  go_enter Try.func81, Try.ntmps81
  go_wp2_with (go_at_call 79; refine (c_isWhole _ _).mono ?_; rintro e w1 ⟨rfl, hx⟩; obtain ⟨hc1, hf1, hs1⟩ := hx.rules; (try simp at hs1); have z0 : w.heap.size < w1.heap.size := (by omega))
  all_goals
    go_ret
    refine ⟨?_, ?_⟩
    · (refine ret_bool ?_; rw [Bool.eq_iff_iff]; simp only [inB, cmdOk, Bool.and_eq_true, Bool.or_eq_true, Bool.not_eq_true, Bool.not_eq_true', Bool.not_eq_false', Bool.not_eq_false, Bool.not_not, beq_iff_eq, bne_iff_ne, ne_eq, beq_eq_false_iff_ne, bne_eq_false_iff_eq, decide_eq_true_eq, decide_eq_false_iff_not, Bool.and_eq_false_imp, Bool.false_eq_true, reduceCtorEq, iff_true, iff_false, true_iff, false_iff, not_and, not_or] at *; omega)
    · (repeat (first | with_reducible exact ext_refl _ | with_reducible refine ext_to ?_ _ | with_reducible refine ext_set ?_ (by first | (simp; done) | (simp; omega) | omega) _ | with_reducible refine ext_drew ?_ | with_reducible refine Ext.trans ?_ (by assumption)))
def goOk (k a t c r ck cx cv : Int) : Bool := decide (0 ≤ a ∧ a ≤ 1000000000 ∧ 1 ≤ k ∧ k ≤ 10 ∧
  (k = 1 → 0 ≤ c ∧ c ≤ 1000000000 ∧ 1 ≤ r ∧ r ≤ 1000000000 ∧ (0 ≤ cx ∧ cx ≤ 1000000000 ∧ ((ck = 1 ∨ ck = 4) ∧ cv = 0 ∨ (ck = 2 ∨ ck = 3) ∧ 0 ≤ cv ∧ cv ≤ 1000000000)) ∧ t = 0) ∧
  (k ≠ 1 → c = 0 ∧ r = 0 ∧ ck = 0 ∧ cx = 0 ∧ cv = 0 ∧ (t = 0 ∨ (k = 5 ∨ k = 6) ∧ 0 ≤ t ∧ t ≤ 1000000000)))

set_option maxHeartbeats 2000000 in
theorem c_sGoOk (k a t c r ck cx cv : Int) (w : World) : Calls Try.prog 37 #[.agg #[.int .i64 k, .int .i64 a, .int .i64 t, .int .i64 c, .int .i64 r, .int .i64 ck, .int .i64 cx, .int .i64 cv]] w fun e w' => e = .returned (.bool (goOk k a t c r ck cx cv)) ∧ Ext w w' := by
  go_enter Try.func37, Try.ntmps37
  go_wp2_with (first | (go_at_call 75; refine (c_l1Whole _ _).mono ?_; rintro e w1 ⟨rfl, hx⟩; obtain ⟨hc1, hf1, hs1⟩ := hx.rules; (try simp at hs1); have z0 : w.heap.size < w1.heap.size := (by omega); have z1 : w.heap.size + 1 < w1.heap.size := (by omega)) | (go_at_call 70; refine (c_l1In _ _ _ _).mono ?_; rintro e w1 ⟨rfl, hx⟩; obtain ⟨hc1, hf1, hs1⟩ := hx.rules; (try simp at hs1); have z0 : w.heap.size < w1.heap.size := (by omega); have z1 : w.heap.size + 1 < w1.heap.size := (by omega)) | (go_at_call 76; refine (c_sCmdOk _ _ _ _).mono ?_; rintro e w1 ⟨rfl, hx⟩; obtain ⟨hc1, hf1, hs1⟩ := hx.rules; (try simp at hs1); have z0 : w.heap.size < w1.heap.size := (by omega); have z1 : w.heap.size + 1 < w1.heap.size := (by omega)))
  all_goals
    go_ret
    refine ⟨?_, ?_⟩
    · (refine ret_bool ?_; rw [Bool.eq_iff_iff]; simp only [inB, cmdOk, goOk, Bool.and_eq_true, Bool.or_eq_true, Bool.not_eq_true, Bool.not_eq_true', Bool.not_eq_false', Bool.not_eq_false, Bool.not_not, beq_iff_eq, bne_iff_ne, ne_eq, beq_eq_false_iff_ne, bne_eq_false_iff_eq, decide_eq_true_eq, decide_eq_false_iff_not, Bool.and_eq_false_imp, Bool.false_eq_true, reduceCtorEq, iff_true, iff_false, true_iff, false_iff, not_and, not_or] at *; omega)
    · (repeat (first | with_reducible exact ext_refl _ | with_reducible refine ext_to ?_ _ | with_reducible refine ext_set ?_ (by first | (simp; done) | (simp; omega) | omega) _ | with_reducible refine ext_drew ?_ | with_reducible refine Ext.trans ?_ (by assumption)))

set_option maxHeartbeats 2000000 in
theorem c_iGoOk (k a t c r ck cx cv : Int) (w : World) : Calls Try.prog 39 #[.agg #[.int .i64 k, .int .i64 a, .int .i64 t, .int .i64 c, .int .i64 r, .int .i64 ck, .int .i64 cx, .int .i64 cv]] w fun e w' => e = .returned (.bool (goOk k a t c r ck cx cv)) ∧ Ext w w' := by
  go_enter Try.func39, Try.ntmps39
  go_wp2_with (first | (go_at_call 79; refine (c_isWhole _ _).mono ?_; rintro e w1 ⟨rfl, hx⟩; obtain ⟨hc1, hf1, hs1⟩ := hx.rules; (try simp at hs1); have z0 : w.heap.size < w1.heap.size := (by omega)) | (go_at_call 80; refine (c_isReq _ _).mono ?_; rintro e w1 ⟨rfl, hx⟩; obtain ⟨hc1, hf1, hs1⟩ := hx.rules; (try simp at hs1); have z0 : w.heap.size < w1.heap.size := (by omega)) | (go_at_call 78; refine (c_from _ _ _ _).mono ?_; rintro e w1 ⟨rfl, hx⟩; obtain ⟨hc1, hf1, hs1⟩ := hx.rules; (try simp at hs1); have z0 : w.heap.size < w1.heap.size := (by omega)) | (go_at_call 81; refine (c_iCmdOk _ _ _ _).mono ?_; rintro e w1 ⟨rfl, hx⟩; obtain ⟨hc1, hf1, hs1⟩ := hx.rules; (try simp at hs1); have z0 : w.heap.size < w1.heap.size := (by omega)))
  all_goals
    go_ret
    refine ⟨?_, ?_⟩
    · (refine ret_bool ?_; rw [Bool.eq_iff_iff]; simp only [inB, cmdOk, goOk, Bool.and_eq_true, Bool.or_eq_true, Bool.not_eq_true, Bool.not_eq_true', Bool.not_eq_false', Bool.not_eq_false, Bool.not_not, beq_iff_eq, bne_iff_ne, ne_eq, beq_eq_false_iff_ne, bne_eq_false_iff_eq, decide_eq_true_eq, decide_eq_false_iff_not, Bool.and_eq_false_imp, Bool.false_eq_true, reduceCtorEq, iff_true, iff_false, true_iff, false_iff, not_and, not_or] at *; omega)
    · (repeat (first | with_reducible exact ext_refl _ | with_reducible refine ext_to ?_ _ | with_reducible refine ext_set ?_ (by first | (simp; done) | (simp; omega) | omega) _ | with_reducible refine ext_drew ?_ | with_reducible refine Ext.trans ?_ (by assumption)))
end Go.Proofs.Ytinfkgbgeajphaa
