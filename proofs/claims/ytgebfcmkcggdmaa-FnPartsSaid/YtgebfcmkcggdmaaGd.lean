/- x from lo to hi: the small tests on whole numbers, of the reference and of the program. -/
import Derived.Test.YtgebfcmkcggdmaaProg
import Derived.Test.YtgebfcmkcggdmaaGa
import Derived.Test.YtgebfcmkcggdmaaDeep
namespace Go.Proofs.Ytgebfcmkcggdmaa
open Go.ChangeShapes Go.WideShapes Go.ChangeAt Go.RowKit Go.Sort
set_option linter.unusedVariables false

def inB (x lo hi : Int) : Bool := decide (lo ≤ x) && decide (x ≤ hi)
theorem c_l1In (x lo hi : Int) (w : World) : Calls Try.prog 22 #[.int .i64 x, .int .i64 lo, .int .i64 hi] w fun e w' => e = .returned (.bool (inB x lo hi)) ∧ Ext w w' := by
  go_enter Try.func22, Try.ntmps22
  go_wp2
  all_goals
    go_ret
    exact ⟨ret_bool (by simp [inB, *] <;> omega), ext_refl _⟩
theorem c_from (x lo hi : Int) (w : World) : Calls Try.prog 23 #[.int .i64 x, .int .i64 lo, .int .i64 hi] w fun e w' => e = .returned (.bool (inB x lo hi)) ∧ Ext w w' := by
  go_enter Try.func23, Try.ntmps23
  go_wp2
  all_goals
    go_ret
    exact ⟨ret_bool (by simp [inB, *] <;> omega), ext_refl _⟩
theorem inB_yes (x a b : Int) : inB x a b = true ↔ a ≤ x ∧ x ≤ b := by simp [inB]
theorem inB_no (x a b : Int) : inB x a b = false ↔ ¬ (a ≤ x ∧ x ≤ b) := by rw [← inB_yes]; simp
abbrev wh (x : Int) : Bool := inB x 0 1000000000
end Go.Proofs.Ytgebfcmkcggdmaa

/- The first place at which something holds. -/
namespace Go.Proofs.Ytgebfcmkcggdmaa
/-- the first place at which p holds, or -1 -/
def idxOf {α : Type} (p : α → Bool) (l : List α) : Int := match l.findIdx? p with
  | some i => i
  | none => -1
theorem idx_hit {α : Type} {p : α → Bool} {l : List α} {k : Nat} (hk : k < l.length) (h : p l[k] = true) (hb : ∀ j (hj : j < l.length), j < k → p l[j] = false) : idxOf p l = k := by
  have : l.findIdx? p = some k := List.findIdx?_eq_some_iff_getElem.2 ⟨hk, h, fun j hj => by simp [hb j (by omega) hj]⟩
  unfold idxOf
  rw [this]
theorem idx_miss {α : Type} {p : α → Bool} {l : List α} (hb : ∀ j (hj : j < l.length), p l[j] = false) : idxOf p l = -1 := by
  have : l.findIdx? p = none := List.findIdx?_eq_none_iff.2 fun x hx => by
    obtain ⟨i, hi, rfl⟩ := List.getElem_of_mem hx
    exact hb i hi
  unfold idxOf
  rw [this]
theorem no_next {α : Type} {p : α → Bool} {l : List α} {k : Nat} (hb : ∀ j (hj : j < l.length), j < k → p l[j] = false) (h : ∀ hk : k < l.length, p l[k] = false) : ∀ j (hj : j < l.length), j < k + 1 → p l[j] = false := fun j hj hk => by
  by_cases he : j = k
  · subst he; exact h hj
  · exact hb j hj (by omega)


theorem idxOf_lt {α : Type} {p : α → Bool} {l : List α} (h0 : 0 ≤ idxOf p l) : ∃ k : Nat, idxOf p l = k ∧ k < l.length := by
  unfold idxOf at *
  cases h : l.findIdx? p with
  | none => rw [h] at h0; simp at h0
  | some i => exact ⟨i, rfl, (List.findIdx?_eq_some_iff_getElem.1 h).1⟩
theorem idxOf_at {α : Type} {p : α → Bool} {l : List α} {k : Nat} (h : idxOf p l = k) : ∃ hk : k < l.length, p l[k] = true ∧ ∀ j (hj : j < l.length), j < k → p l[j] = false := by
  unfold idxOf at *
  cases h2 : l.findIdx? p with
  | none => rw [h2] at h; simp at h
  | some i =>
    rw [h2] at h
    simp at h
    have hi : i = k := by omega
    subst hi
    obtain ⟨h3, h4, h5⟩ := List.findIdx?_eq_some_iff_getElem.1 h2
    exact ⟨h3, h4, fun j hj hjk => by simpa using h5 j hjk⟩
theorem idxOf_any {α : Type} (p : α → Bool) (l : List α) : decide (0 ≤ idxOf p l) = l.any p := by
  unfold idxOf
  cases h : l.findIdx? p with
  | none =>
    have := List.findIdx?_eq_none_iff.1 h
    simp
    simpa using this
  | some i =>
    obtain ⟨h3, h4, h5⟩ := List.findIdx?_eq_some_iff_getElem.1 h
    simp
    exact ⟨_, List.getElem_mem h3, h4⟩
end Go.Proofs.Ytgebfcmkcggdmaa

/- EntryOk of the reference and of the program. -/
namespace Go.Proofs.Ytgebfcmkcggdmaa
open Go.ChangeShapes Go.WideShapes Go.ChangeAt Go.RowKit Go.Sort
set_option linter.unusedVariables false
set_option linter.unusedSimpArgs false

def cmdOk (k x v : Int) : Bool := decide (0 ≤ x ∧ x ≤ 1000000000 ∧ ((k = 1 ∨ k = 4) ∧ v = 0 ∨ (k = 2 ∨ k = 3) ∧ 0 ≤ v ∧ v ≤ 1000000000))
def Ent.ok (e : Ent) : Bool := wh e.client && inB e.req 1 1000000000 && cmdOk e.kind e.key e.value
theorem entOk_mk (a b k x v : Int) : (⟨a, b, k, x, v⟩ : Ent).ok = (inB a 0 1000000000 && inB b 1 1000000000 && cmdOk k x v) := rfl
end Go.Proofs.Ytgebfcmkcggdmaa
