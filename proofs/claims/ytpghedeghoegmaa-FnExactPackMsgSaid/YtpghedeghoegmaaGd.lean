/- x from lo to hi: the small tests on whole numbers, of the reference and of the program. -/
import Derived.Test.YtpghedeghoegmaaProg
import Derived.Test.YtpghedeghoegmaaGa
import Derived.Test.YtpghedeghoegmaaDeep
namespace Go.Proofs.Ytpghedeghoegmaa
open Go.ChangeShapes Go.WideShapes Go.ChangeAt Go.RowKit Go.Sort
set_option linter.unusedVariables false

def inB (x lo hi : Int) : Bool := decide (lo ≤ x) && decide (x ≤ hi)
theorem c_l1In (x lo hi : Int) (w : World) : Calls Try.prog 61 #[.int .i64 x, .int .i64 lo, .int .i64 hi] w fun e w' => e = .returned (.bool (inB x lo hi)) ∧ Ext w w' := by
  go_enter Try.func61, Try.ntmps61
  go_wp2
  all_goals
    go_ret
    exact ⟨ret_bool (by simp [inB, *] <;> omega), ext_refl _⟩
theorem c_from (x lo hi : Int) (w : World) : Calls Try.prog 79 #[.int .i64 x, .int .i64 lo, .int .i64 hi] w fun e w' => e = .returned (.bool (inB x lo hi)) ∧ Ext w w' := by
  go_enter Try.func79, Try.ntmps79
  go_wp2
  all_goals
    go_ret
    exact ⟨ret_bool (by simp [inB, *] <;> omega), ext_refl _⟩
theorem c_l1Whole (x : Int) (w : World) : Calls Try.prog 96 #[.int .i64 x] w fun e w' => e = .returned (.bool (inB x 0 1000000000)) ∧ Ext w w' := by
  go_enter Try.func96, Try.ntmps96
  go_wp2_with (go_at_call 61; refine (c_l1In _ _ _ _).mono ?_; rintro e w1 ⟨rfl, hx⟩)
  go_ret
  exact ⟨rfl, hx⟩
theorem c_isWhole (x : Int) (w : World) : Calls Try.prog 112 #[.int .i64 x] w fun e w' => e = .returned (.bool (inB x 0 1000000000)) ∧ Ext w w' := by
  go_enter Try.func112, Try.ntmps112
  go_wp2_with (go_at_call 79; refine (c_from _ _ _ _).mono ?_; rintro e w1 ⟨rfl, hx⟩)
  go_ret
  exact ⟨rfl, hx⟩
theorem c_isReq (x : Int) (w : World) : Calls Try.prog 110 #[.int .i64 x] w fun e w' => e = .returned (.bool (inB x 1 1000000000)) ∧ Ext w w' := by
  go_enter Try.func110, Try.ntmps110
  go_wp2_with (go_at_call 79; refine (c_from _ _ _ _).mono ?_; rintro e w1 ⟨rfl, hx⟩)
  go_ret
  exact ⟨rfl, hx⟩
theorem c_isAnswer (x : Int) (w : World) : Calls Try.prog 111 #[.int .i64 x] w fun e w' => e = .returned (.bool (inB x (-1) 1000000000)) ∧ Ext w w' := by
  go_enter Try.func111, Try.ntmps111
  go_wp2_with (go_at_call 79; refine (c_from _ _ _ _).mono ?_; rintro e w1 ⟨rfl, hx⟩)
  go_ret
  exact ⟨rfl, hx⟩
theorem inB_yes (x a b : Int) : inB x a b = true ↔ a ≤ x ∧ x ≤ b := by simp [inB]
theorem inB_no (x a b : Int) : inB x a b = false ↔ ¬ (a ≤ x ∧ x ≤ b) := by rw [← inB_yes]; simp
abbrev wh (x : Int) : Bool := inB x 0 1000000000
end Go.Proofs.Ytpghedeghoegmaa

/- The first place at which something holds. -/
namespace Go.Proofs.Ytpghedeghoegmaa
/-- the first place at which p holds, or -1 -/
def idxOf {α : Type} (p : α → Bool) (l : List α) : Int := match l.findIdx? p with
  | some i => i
  | none => -1
theorem idx_hit {α : Type} {p : α → Bool} {l : List α} {k : Nat} (hk : k < l.length) (h : p l[k] = true) (hb : ∀ j (hj : j < l.length), j < k → p l[j] = false) : idxOf p l = k := by
  have : l.findIdx? p = some k := List.findIdx?_eq_some_iff_getElem.2 ⟨hk, h, fun j hj => by simp [hb j (by omega) hj]⟩
  unfold idxOf
  rw [this]
theorem idx_miss {α : Type} {p : α → Bool} {l : List α} (hb : ∀ j (hj : j < l.length), p l[j] = false) : idxOf p l = -1 := by
  have : l.findIdx? p = none := List.findIdx?_eq_none_iff.2 fun x hx => by
    obtain ⟨i, hi, rfl⟩ := List.getElem_of_mem hx
    exact hb i hi
  unfold idxOf
  rw [this]
theorem no_next {α : Type} {p : α → Bool} {l : List α} {k : Nat} (hb : ∀ j (hj : j < l.length), j < k → p l[j] = false) (h : ∀ hk : k < l.length, p l[k] = false) : ∀ j (hj : j < l.length), j < k + 1 → p l[j] = false := fun j hj hk => by
  by_cases he : j = k
  · subst he; exact h hj
  · exact hb j hj (by omega)


theorem idxOf_lt {α : Type} {p : α → Bool} {l : List α} (h0 : 0 ≤ idxOf p l) : ∃ k : Nat, idxOf p l = k ∧ k < l.length := by
  unfold idxOf at *
  cases h : l.findIdx? p with
  | none => rw [h] at h0; simp at h0
  | some i => exact ⟨i, rfl, (List.findIdx?_eq_some_iff_getElem.1 h).1⟩
theorem idxOf_at {α : Type} {p : α → Bool} {l : List α} {k : Nat} (h : idxOf p l = k) : ∃ hk : k < l.length, p l[k] = true ∧ ∀ j (hj : j < l.length), j < k → p l[j] = false := by
  unfold idxOf at *
  cases h2 : l.findIdx? p with
  | none => rw [h2] at h; simp at h
  | some i =>
    rw [h2] at h
    simp at h
    have hi : i = k := by omega
    subst hi
    obtain ⟨h3, h4, h5⟩ := List.findIdx?_eq_some_iff_getElem.1 h2
    exact ⟨h3, h4, fun j hj hjk => by simpa using h5 j hjk⟩
theorem idxOf_any {α : Type} (p : α → Bool) (l : List α) : decide (0 ≤ idxOf p l) = l.any p := by
  unfold idxOf
  cases h : l.findIdx? p with
  | none =>
    have := List.findIdx?_eq_none_iff.1 h
    simp
    simpa using this
  | some i =>
    obtain ⟨h3, h4, h5⟩ := List.findIdx?_eq_some_iff_getElem.1 h
    simp
    exact ⟨_, List.getElem_mem h3, h4⟩
end Go.Proofs.Ytpghedeghoegmaa

/- EntryOk of the reference and of the program. -/
namespace Go.Proofs.Ytpghedeghoegmaa
open Go.ChangeShapes Go.WideShapes Go.ChangeAt Go.RowKit Go.Sort
set_option linter.unusedVariables false
set_option linter.unusedSimpArgs false

def cmdOk (k x v : Int) : Bool := decide (0 ≤ x ∧ x ≤ 1000000000 ∧ ((k = 1 ∨ k = 4) ∧ v = 0 ∨ (k = 2 ∨ k = 3) ∧ 0 ≤ v ∧ v ≤ 1000000000))
theorem c_sCmdOk (k x v : Int) (w : World) : Calls Try.prog 59 #[.agg #[.int .i64 k, .int .i64 x, .int .i64 v]] w fun e w' => e = .returned (.bool (cmdOk k x v)) ∧ Ext w w' := by
  go_enter Try.func59, Try.ntmps59
  go_wp2_with (go_at_call 96; refine (c_l1Whole _ _).mono ?_; rintro e w1 ⟨rfl, hx⟩; obtain ⟨hc1, hf1, hs1⟩ := hx.rules; (try simp at hs1); have z0 : w.heap.size < w1.heap.size := (by omega))
  all_goals
    go_ret
    refine ⟨?_, ?_⟩
    · (refine ret_bool ?_; rw [Bool.eq_iff_iff]; simp only [inB, cmdOk, Bool.and_eq_true, Bool.or_eq_true, Bool.not_eq_true, Bool.not_eq_true', Bool.not_eq_false', Bool.not_eq_false, Bool.not_not, beq_iff_eq, bne_iff_ne, ne_eq, beq_eq_false_iff_ne, bne_eq_false_iff_eq, decide_eq_true_eq, decide_eq_false_iff_not, Bool.and_eq_false_imp, Bool.false_eq_true, reduceCtorEq, iff_true, iff_false, true_iff, false_iff, not_and, not_or] at *; omega)
    · (repeat (first | with_reducible exact ext_refl _ | with_reducible refine ext_to ?_ _ | with_reducible refine ext_set ?_ (by first | (simp; done) | (simp; omega) | omega) _ | with_reducible refine ext_drew ?_ | with_reducible refine Ext.trans ?_ (by assumption)))
theorem c_iCmdOk (k x v : Int) (w : World) : Calls Try.prog 76 #[.agg #[.int .i64 k, .int .i64 x, .int .i64 v]] w fun e w' => e = .returned (.bool (cmdOk k x v)) ∧ Ext w w' := by
  go_enter Try.func76, Try.ntmps76
  go_wp2_with (go_at_call 112; refine (c_isWhole _ _).mono ?_; rintro e w1 ⟨rfl, hx⟩; obtain ⟨hc1, hf1, hs1⟩ := hx.rules; (try simp at hs1); have z0 : w.heap.size < w1.heap.size := (by omega))
  all_goals
    go_ret
    refine ⟨?_, ?_⟩
    · (refine ret_bool ?_; rw [Bool.eq_iff_iff]; simp only [inB, cmdOk, Bool.and_eq_true, Bool.or_eq_true, Bool.not_eq_true, Bool.not_eq_true', Bool.not_eq_false', Bool.not_eq_false, Bool.not_not, beq_iff_eq, bne_iff_ne, ne_eq, beq_eq_false_iff_ne, bne_eq_false_iff_eq, decide_eq_true_eq, decide_eq_false_iff_not, Bool.and_eq_false_imp, Bool.false_eq_true, reduceCtorEq, iff_true, iff_false, true_iff, false_iff, not_and, not_or] at *; omega)
    · (repeat (first | with_reducible exact ext_refl _ | with_reducible refine ext_to ?_ _ | with_reducible refine ext_set ?_ (by first | (simp; done) | (simp; omega) | omega) _ | with_reducible refine ext_drew ?_ | with_reducible refine Ext.trans ?_ (by assumption)))
def Ent.ok (e : Ent) : Bool := wh e.client && inB e.req 1 1000000000 && cmdOk e.kind e.key e.value
theorem entOk_mk (a b k x v : Int) : (⟨a, b, k, x, v⟩ : Ent).ok = (inB a 0 1000000000 && inB b 1 1000000000 && cmdOk k x v) := rfl
theorem c_sEntryOk (r : Ent) (w : World) : Calls Try.prog 98 #[.agg #[.int .i64 r.client, .int .i64 r.req, .int .i64 r.kind, .int .i64 r.key, .int .i64 r.value]] w fun e w' => e = .returned (.bool r.ok) ∧ Ext w w' := by
  obtain ⟨a, b, k, x, v⟩ := r
  rw [entOk_mk]
  dsimp only
  go_enter Try.func98, Try.ntmps98
  go_wp2_with (first | (go_at_call 96; refine (c_l1Whole _ _).mono ?_; rintro e w1 ⟨rfl, hx⟩; obtain ⟨hc1, hf1, hs1⟩ := hx.rules; (try simp at hs1); have z0 : w.heap.size < w1.heap.size := (by omega)) | (go_at_call 61; refine (c_l1In _ _ _ _).mono ?_; rintro e w1 ⟨rfl, hx⟩; obtain ⟨hc1, hf1, hs1⟩ := hx.rules; (try simp at hs1); have z0 : w.heap.size < w1.heap.size := (by omega)) | (go_at_call 59; refine (c_sCmdOk _ _ _ _).mono ?_; rintro e w1 ⟨rfl, hx⟩; obtain ⟨hc1, hf1, hs1⟩ := hx.rules; (try simp at hs1); have z0 : w.heap.size < w1.heap.size := (by omega)))
  all_goals
    go_ret
    refine ⟨ret_bool ?_, ?_⟩
    · (first | (simp [*]; done) | (simp_all; done))
    · (repeat (first | with_reducible exact ext_refl _ | with_reducible refine ext_to ?_ _ | with_reducible refine ext_set ?_ (by first | (simp; done) | (simp; omega) | omega) _ | with_reducible refine ext_drew ?_ | with_reducible refine Ext.trans ?_ (by assumption)))
theorem c_iEntryOk (r : Ent) (w : World) : Calls Try.prog 116 #[.agg #[.int .i64 r.client, .int .i64 r.req, .int .i64 r.kind, .int .i64 r.key, .int .i64 r.value]] w fun e w' => e = .returned (.bool r.ok) ∧ Ext w w' := by
  obtain ⟨a, b, k, x, v⟩ := r
  rw [entOk_mk]
  dsimp only
  go_enter Try.func116, Try.ntmps116
  go_wp2_with (first | (go_at_call 112; refine (c_isWhole _ _).mono ?_; rintro e w1 ⟨rfl, hx⟩; obtain ⟨hc1, hf1, hs1⟩ := hx.rules; (try simp at hs1); have z0 : w.heap.size < w1.heap.size := (by omega)) | (go_at_call 110; refine (c_isReq _ _).mono ?_; rintro e w1 ⟨rfl, hx⟩; obtain ⟨hc1, hf1, hs1⟩ := hx.rules; (try simp at hs1); have z0 : w.heap.size < w1.heap.size := (by omega)) | (go_at_call 76; refine (c_iCmdOk _ _ _ _).mono ?_; rintro e w1 ⟨rfl, hx⟩; obtain ⟨hc1, hf1, hs1⟩ := hx.rules; (try simp at hs1); have z0 : w.heap.size < w1.heap.size := (by omega)))
  all_goals
    go_ret
    refine ⟨ret_bool ?_, ?_⟩
    · (first | (simp [*]; done) | (simp_all; done))
    · (repeat (first | with_reducible exact ext_refl _ | with_reducible refine ext_to ?_ _ | with_reducible refine ext_set ?_ (by first | (simp; done) | (simp; omega) | omega) _ | with_reducible refine ext_drew ?_ | with_reducible refine Ext.trans ?_ (by assumption)))
theorem c_badEntry (r : Ent) (w : World) : Calls Try.prog 115 #[.agg #[.int .i64 r.client, .int .i64 r.req, .int .i64 r.kind, .int .i64 r.key, .int .i64 r.value]] w fun e w' => e = .returned (.bool (!r.ok)) ∧ Ext w w' := by
  obtain ⟨a, b, k, x, v⟩ := r
  have hcon := c_iEntryOk ⟨a, b, k, x, v⟩
  dsimp only at hcon
  dsimp only
  go_enter Try.func115, Try.ntmps115
  go_wp2_with fail
  refine (hcon _).mono ?_
  rintro e w1 ⟨rfl, hx⟩
  clear hcon
  go_wp2
  go_ret
  exact ⟨rfl, Ext.trans (ext_alloc _ _) hx⟩
end Go.Proofs.Ytpghedeghoegmaa
