/- The first place at which something holds. -/
import Derived.Test.YtmpjokdidomafaaGreatBase
namespace Go.Proofs.YtmpjokdidomafaaGreat
/-- the first place at which p holds, or -1 -/
def idxOf {α : Type} (p : α → Bool) (l : List α) : Int := match l.findIdx? p with
  | some i => i
  | none => -1
theorem idx_hit {α : Type} {p : α → Bool} {l : List α} {k : Nat} (hk : k < l.length) (h : p l[k] = true) (hb : ∀ j (hj : j < l.length), j < k → p l[j] = false) : idxOf p l = k := by
  have : l.findIdx? p = some k := List.findIdx?_eq_some_iff_getElem.2 ⟨hk, h, fun j hj => by simp [hb j (by omega) hj]⟩
  unfold idxOf
  rw [this]
theorem idx_miss {α : Type} {p : α → Bool} {l : List α} (hb : ∀ j (hj : j < l.length), p l[j] = false) : idxOf p l = -1 := by
  have : l.findIdx? p = none := List.findIdx?_eq_none_iff.2 fun x hx => by
    obtain ⟨i, hi, rfl⟩ := List.getElem_of_mem hx
    exact hb i hi
  unfold idxOf
  rw [this]
theorem no_next {α : Type} {p : α → Bool} {l : List α} {k : Nat} (hb : ∀ j (hj : j < l.length), j < k → p l[j] = false) (h : ∀ hk : k < l.length, p l[k] = false) : ∀ j (hj : j < l.length), j < k + 1 → p l[j] = false := fun j hj hk => by
  by_cases he : j = k
  · subst he; exact h hj
  · exact hb j hj (by omega)


theorem idxOf_lt {α : Type} {p : α → Bool} {l : List α} (h0 : 0 ≤ idxOf p l) : ∃ k : Nat, idxOf p l = k ∧ k < l.length := by
  unfold idxOf at *
  cases h : l.findIdx? p with
  | none => rw [h] at h0; simp at h0
  | some i => exact ⟨i, rfl, (List.findIdx?_eq_some_iff_getElem.1 h).1⟩
theorem idxOf_at {α : Type} {p : α → Bool} {l : List α} {k : Nat} (h : idxOf p l = k) : ∃ hk : k < l.length, p l[k] = true ∧ ∀ j (hj : j < l.length), j < k → p l[j] = false := by
  unfold idxOf at *
  cases h2 : l.findIdx? p with
  | none => rw [h2] at h; simp at h
  | some i =>
    rw [h2] at h
    simp at h
    have hi : i = k := by omega
    subst hi
    obtain ⟨h3, h4, h5⟩ := List.findIdx?_eq_some_iff_getElem.1 h2
    exact ⟨h3, h4, fun j hj hjk => by simpa using h5 j hjk⟩
theorem idxOf_any {α : Type} (p : α → Bool) (l : List α) : decide (0 ≤ idxOf p l) = l.any p := by
  unfold idxOf
  cases h : l.findIdx? p with
  | none =>
    have := List.findIdx?_eq_none_iff.1 h
    simp
    simpa using this
  | some i =>
    obtain ⟨h3, h4, h5⟩ := List.findIdx?_eq_some_iff_getElem.1 h
    simp
    exact ⟨_, List.getElem_mem h3, h4⟩
end Go.Proofs.YtmpjokdidomafaaGreat
