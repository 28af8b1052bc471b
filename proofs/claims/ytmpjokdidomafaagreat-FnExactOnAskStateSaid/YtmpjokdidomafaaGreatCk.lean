/- EntryOk of the reference and of the program. -/
import Derived.Test.YtmpjokdidomafaaGreatNum
import Derived.Test.YtmpjokdidomafaaGreatDeep
namespace Go.Proofs.YtmpjokdidomafaaGreat
open Go.ChangeShapes Go.WideShapes Go.ChangeAt Go.RowKit Go.Sort
set_option linter.unusedVariables false
set_option linter.unusedSimpArgs false

def cmdOk (k x v : Int) : Bool := decide (0 ≤ x ∧ x ≤ 1000000000 ∧ ((k = 1 ∨ k = 4) ∧ v = 0 ∨ (k = 2 ∨ k = 3) ∧ 0 ≤ v ∧ v ≤ 1000000000))
theorem c_sCmdOk (k x v : Int) (w : World) : Calls Tryz.prog 120 #[.agg #[.int .i64 k, .int .i64 x, .int .i64 v]] w fun e w' => e = .returned (.bool (cmdOk k x v)) ∧ Ext w w' := by
  go_enter Tryz.func120, Tryz.ntmps120
  go_wp2_with (go_at_call 71; refine (c_l1Whole _ _).mono ?_; rintro e w1 ⟨rfl, hx⟩; obtain ⟨hc1, hf1, hs1⟩ := hx.rules; (try simp at hs1); have z0 : w.heap.size < w1.heap.size := (by omega))
  all_goals
    go_ret
    refine ⟨?_, ?_⟩
    · (refine ret_bool ?_; rw [Bool.eq_iff_iff]; simp only [inB, cmdOk, Bool.and_eq_true, Bool.or_eq_true, Bool.not_eq_true, Bool.not_eq_true', Bool.not_eq_false', Bool.not_eq_false, Bool.not_not, beq_iff_eq, bne_iff_ne, ne_eq, beq_eq_false_iff_ne, bne_eq_false_iff_eq, decide_eq_true_eq, decide_eq_false_iff_not, Bool.and_eq_false_imp, Bool.false_eq_true, reduceCtorEq, iff_true, iff_false, true_iff, false_iff, not_and, not_or] at *; omega)
    · (repeat (first | with_reducible exact ext_refl _ | with_reducible refine ext_to ?_ _ | with_reducible refine ext_set ?_ (by first | (simp; done) | (simp; omega) | omega) _ | with_reducible refine ext_drew ?_ | with_reducible refine Ext.trans ?_ (by assumption)))
theorem c_iCmdOk (k x v : Int) (w : World) : Calls Tryz.prog 123 #[.agg #[.int .i64 k, .int .i64 x, .int .i64 v]] w fun e w' => e = .returned (.bool (cmdOk k x v)) ∧ Ext w w' := by
  go_enter Tryz.func123, Tryz.ntmps123
  go_wp2_with (go_at_call 80; refine (c_isWhole _ _).mono ?_; rintro e w1 ⟨rfl, hx⟩; obtain ⟨hc1, hf1, hs1⟩ := hx.rules; (try simp at hs1); have z0 : w.heap.size < w1.heap.size := (by omega))
  all_goals
    go_ret
    refine ⟨?_, ?_⟩
    · (refine ret_bool ?_; rw [Bool.eq_iff_iff]; simp only [inB, cmdOk, Bool.and_eq_true, Bool.or_eq_true, Bool.not_eq_true, Bool.not_eq_true', Bool.not_eq_false', Bool.not_eq_false, Bool.not_not, beq_iff_eq, bne_iff_ne, ne_eq, beq_eq_false_iff_ne, bne_eq_false_iff_eq, decide_eq_true_eq, decide_eq_false_iff_not, Bool.and_eq_false_imp, Bool.false_eq_true, reduceCtorEq, iff_true, iff_false, true_iff, false_iff, not_and, not_or] at *; omega)
    · (repeat (first | with_reducible exact ext_refl _ | with_reducible refine ext_to ?_ _ | with_reducible refine ext_set ?_ (by first | (simp; done) | (simp; omega) | omega) _ | with_reducible refine ext_drew ?_ | with_reducible refine Ext.trans ?_ (by assumption)))
def Ent.ok (e : Ent) : Bool := wh e.client && inB e.req 1 1000000000 && cmdOk e.kind e.key e.value
theorem entOk_mk (a b k x v : Int) : (⟨a, b, k, x, v⟩ : Ent).ok = (inB a 0 1000000000 && inB b 1 1000000000 && cmdOk k x v) := rfl
theorem c_sEntryOk (r : Ent) (w : World) : Calls Tryz.prog 125 #[.agg #[.int .i64 r.client, .int .i64 r.req, .int .i64 r.kind, .int .i64 r.key, .int .i64 r.value]] w fun e w' => e = .returned (.bool r.ok) ∧ Ext w w' := by
  obtain ⟨a, b, k, x, v⟩ := r
  rw [entOk_mk]
  dsimp only
  go_enter Tryz.func125, Tryz.ntmps125
  go_wp2_with (first | (go_at_call 71; refine (c_l1Whole _ _).mono ?_; rintro e w1 ⟨rfl, hx⟩; obtain ⟨hc1, hf1, hs1⟩ := hx.rules; (try simp at hs1); have z0 : w.heap.size < w1.heap.size := (by omega)) | (go_at_call 70; refine (c_l1In _ _ _ _).mono ?_; rintro e w1 ⟨rfl, hx⟩; obtain ⟨hc1, hf1, hs1⟩ := hx.rules; (try simp at hs1); have z0 : w.heap.size < w1.heap.size := (by omega)) | (go_at_call 120; refine (c_sCmdOk _ _ _ _).mono ?_; rintro e w1 ⟨rfl, hx⟩; obtain ⟨hc1, hf1, hs1⟩ := hx.rules; (try simp at hs1); have z0 : w.heap.size < w1.heap.size := (by omega)))
  all_goals
    go_ret
    refine ⟨ret_bool ?_, ?_⟩
    · (first | (simp [*]; done) | (simp_all; done))
    · (repeat (first | with_reducible exact ext_refl _ | with_reducible refine ext_to ?_ _ | with_reducible refine ext_set ?_ (by first | (simp; done) | (simp; omega) | omega) _ | with_reducible refine ext_drew ?_ | with_reducible refine Ext.trans ?_ (by assumption)))
theorem c_iEntryOk (r : Ent) (w : World) : Calls Tryz.prog 131 #[.agg #[.int .i64 r.client, .int .i64 r.req, .int .i64 r.kind, .int .i64 r.key, .int .i64 r.value]] w fun e w' => e = .returned (.bool r.ok) ∧ Ext w w' := by
  obtain ⟨a, b, k, x, v⟩ := r
  rw [entOk_mk]
  dsimp only
  go_enter Tryz.func131, Tryz.ntmps131
  go_wp2_with (first | (go_at_call 80; refine (c_isWhole _ _).mono ?_; rintro e w1 ⟨rfl, hx⟩; obtain ⟨hc1, hf1, hs1⟩ := hx.rules; (try simp at hs1); have z0 : w.heap.size < w1.heap.size := (by omega)) | (go_at_call 142; refine (c_isReq _ _).mono ?_; rintro e w1 ⟨rfl, hx⟩; obtain ⟨hc1, hf1, hs1⟩ := hx.rules; (try simp at hs1); have z0 : w.heap.size < w1.heap.size := (by omega)) | (go_at_call 123; refine (c_iCmdOk _ _ _ _).mono ?_; rintro e w1 ⟨rfl, hx⟩; obtain ⟨hc1, hf1, hs1⟩ := hx.rules; (try simp at hs1); have z0 : w.heap.size < w1.heap.size := (by omega)))
  all_goals
    go_ret
    refine ⟨ret_bool ?_, ?_⟩
    · (first | (simp [*]; done) | (simp_all; done))
    · (repeat (first | with_reducible exact ext_refl _ | with_reducible refine ext_to ?_ _ | with_reducible refine ext_set ?_ (by first | (simp; done) | (simp; omega) | omega) _ | with_reducible refine ext_drew ?_ | with_reducible refine Ext.trans ?_ (by assumption)))
theorem c_badEntry (r : Ent) (w : World) : Calls Tryz.prog 130 #[.agg #[.int .i64 r.client, .int .i64 r.req, .int .i64 r.kind, .int .i64 r.key, .int .i64 r.value]] w fun e w' => e = .returned (.bool (!r.ok)) ∧ Ext w w' := by
  obtain ⟨a, b, k, x, v⟩ := r
  have hcon := c_iEntryOk ⟨a, b, k, x, v⟩
  dsimp only at hcon
  dsimp only
  go_enter Tryz.func130, Tryz.ntmps130
  go_wp2_with fail
  refine (hcon _).mono ?_
  rintro e w1 ⟨rfl, hx⟩
  clear hcon
  go_wp2
  go_ret
  exact ⟨rfl, Ext.trans (ext_alloc _ _) hx⟩
end Go.Proofs.YtmpjokdidomafaaGreat
