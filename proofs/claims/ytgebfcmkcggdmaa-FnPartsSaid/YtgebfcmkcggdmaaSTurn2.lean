/- l10Turn of the reference: the walk. -/
import Derived.Test.YtgebfcmkcggdmaaSTurn
import Derived.Laws.OwnMore
namespace Go.Proofs.Ytgebfcmkcggdmaa
open Go.ChangeShapes Go.WideShapes Go.ChangeAt Go.RowKit Go.Sort
set_option linter.unusedVariables false
set_option linter.unusedSimpArgs false

def HasRow (w : World) (B g : Nat) (f : Nat → Bool) : Prop := w.ownsRow B 4 1 (.slice (some ⟨g, 0, none⟩) 1001 1001) 1001 ((rowOf 1001 f).flatMap bEnc)
theorem HasRow.cell {w : World} {B g : Nat} {f : Nat → Bool} (h : HasRow w B g f) {k : Nat} (hk : k < 1001) : w.cell? ⟨g, k, none⟩ = some (.bool (f k)) := by
  have h1 := World.ownsRow.cellAt h k (by omega)
  have h2 := flat_get bEnc_len (rowOf 1001 f) k (by rw [rowOf_len]; exact hk) 0 (by omega)
  rw [Nat.mul_one, Nat.add_zero, rowOf_at f hk] at h2
  rw [h1, h2]
  rfl
theorem HasRow.frozen {w : World} {B g : Nat} {f : Nat → Bool} (h : HasRow w B g f) : ∀ y, w.frozen? ⟨g, y, none⟩ = false := by
  have h1 := World.ownsRow.frozenAt h
  intro y
  exact h1 y
theorem HasRow.kept {w w' : World} {B g : Nat} {f : Nat → Bool} (h : HasRow w B g f) (hx : Ext w w') : HasRow w' B g f := ownsRow_ext h hx
theorem HasRow.lt {w : World} {B g : Nat} {f : Nat → Bool} (h : HasRow w B g f) : B ≤ g ∧ g < w.heap.size := World.ownsRow.lt h g rfl
theorem HasRow.set {w : World} {B g : Nat} {f : Nat → Bool} (h : HasRow w B g f) {k : Nat} (hk : k < 1001) (b : Bool) : HasRow (w.setCell ⟨g, k, none⟩ (.bool b)) B g (upd f k b) := by
  have h1 := (World.ownsRow.stored h k (.bool b)).1
  have h2 := setAll_one bEnc_len (rowOf 1001 f) k (by rw [rowOf_len]; exact hk) b
  rw [rowOf_set] at h2
  unfold HasRow
  rw [← h2]
  simp only [bEnc, setAll, Nat.mul_one] at h1 ⊢
  exact h1
theorem HasRow.congr {w : World} {B g : Nat} {f f' : Nat → Bool} (h : HasRow w B g f) (e : ∀ x, f x = f' x) : HasRow w B g f' := by
  have : f = f' := funext e
  exact this ▸ h
theorem HasRow.beside {w w' : World} {B g : Nat} {f : Nat → Bool} {row : Option Nat} (h : HasRow w B g f) (hg : w.grownBy w' row) (hne : row ≠ some g) : HasRow w' B g f := by
  refine ⟨h.1, ?_⟩
  rcases h.2 with ⟨h2, _⟩ | ⟨g', cap, cur, hv, hb, hh, r⟩
  · cases h2
  · simp only [Value.slice.injEq, Option.some.injEq, Addr.mk.injEq] at hv
    obtain ⟨⟨rfl, _⟩, _⟩ := hv
    exact .inr ⟨g, cap, cur, by simp [*], hb, by rw [hg.block g (Array.getElem?_eq_some_iff.1 hh).1 (fun he => hne he.symm)]; exact hh, r⟩
theorem HasRow.less {w : World} {B B' g : Nat} {f : Nat → Bool} (h : HasRow w B g f) (hB : B' ≤ B) : HasRow w B' g f := by
  refine ⟨h.1, ?_⟩
  rcases h.2 with ⟨h2, _⟩ | ⟨g', cap, cur, hv, hb, r⟩
  · cases h2
  · exact .inr ⟨g', cap, cur, hv, by omega, r⟩
theorem bx_lt_of {w w1 w2 : World} {o : Obj} (x1 : Ext w w1) (x2 : Ext w1 w2) (h : w1.heap[w.heap.size]? = some o) : w.heap.size < w2.heap.size := Nat.lt_of_lt_of_le (bx_lt h) x2.size
theorem row_false (n : Nat) : (rowOf n (fun _ => false)).flatMap bEnc = List.replicate n (.bool false) := by
  apply List.ext_getElem?
  intro i
  by_cases h : i < n
  · have h2 := flat_get bEnc_len (rowOf n (fun _ => false)) i (by rw [rowOf_len]; exact h) 0 (by omega)
    rw [Nat.mul_one, Nat.add_zero, rowOf_at _ h] at h2
    rw [h2]
    simp [h]
  · rw [List.getElem?_eq_none (by rw [flat_length bEnc_len, rowOf_len]; omega), List.getElem?_eq_none (by simp; omega)]
theorem isIn_out {l : List Rng} {a : Rng} {b : Bool} (h : rangesOk l = true) (h0 : 0 ≤ a.hi) (h1 : a.hi ≤ 1000) : isIn l a b 1000 = false := by
  unfold isIn
  rw [if_neg (by unfold rhas; rw [inB_yes]; omega), List.any_eq_false]
  intro r hr
  obtain ⟨i, hi, rfl⟩ := List.getElem_of_mem hr
  have := rangesOk_at h hi
  unfold rhas
  rw [inB_yes]
  omega
theorem Try.infoBool : (Try.prog.info? 4).map (fun i => (i.zero, i.size, i.bytes)) = some (some (.bool false), 1, 1) := by kernel_rfl

end Go.Proofs.Ytgebfcmkcggdmaa
