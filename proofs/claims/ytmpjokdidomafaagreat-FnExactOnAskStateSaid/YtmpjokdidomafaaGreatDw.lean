/- Arguments that are logs, messages, replicas, opened. -/
import Derived.Test.YtmpjokdidomafaaGreatDo
import Derived.Test.YtmpjokdidomafaaGreatRp
namespace Go.Proofs.YtmpjokdidomafaaGreat
open Go.ChangeShapes Go.WideShapes Go.ChangeAt Go.RowKit Go.Joins Go.Deep
set_option linter.unusedVariables false

theorem list4 {α : Type} {l : List α} (h : l.length = 4) : ∃ a b c d, l = [a, b, c, d] := by match l, h with | [a, b, c, d], _ => exact ⟨a, b, c, d, rfl⟩
theorem list13 {α : Type} {l : List α} (h : l.length = 13) : ∃ a b c d e f g i j k m n o, l = [a, b, c, d, e, f, g, i, j, k, m, n, o] := by match l, h with | [a, b, c, d, e, f, g, i, j, k, m, n, o], _ => exact ⟨a, b, c, d, e, f, g, i, j, k, m, n, o, rfl⟩
theorem list17 {α : Type} {l : List α} (h : l.length = 17) : ∃ a b c d e f g i j k m n o p q r s, l = [a, b, c, d, e, f, g, i, j, k, m, n, o, p, q, r, s] := by match l, h with | [a, b, c, d, e, f, g, i, j, k, m, n, o, p, q, r, s], _ => exact ⟨a, b, c, d, e, f, g, i, j, k, m, n, o, p, q, r, s, rfl⟩
section
variable {H : Type} {enc : TypeId × Value → H} {w : World} {base : Nat} {spare : Nat → Bool} {held : Bool}
set_option maxRecDepth 100000 in
theorem open_Log {v : Value} {d : DataW H} {p : List MemPlace} {b0 : Nat}
    (hv : Value.okWide Tryz.prog w .any b0 28 v) (h : DataW.Trod enc Tryz.prog w base spare held 28 v d p) : ∃ a l, v = Lg.val a l ∧ LgR w a l := by
  obtain ⟨cs, rfl, hsz⟩ := okWide_struct Tryz.underlying28 hv
  obtain ⟨fuel, hf⟩ := h
  have ht : Tr enc Tryz.prog w base spare held 28 cs.toList := ⟨fuel, _, hf⟩
  have hl : cs.toList.length = 4 := by rw [Array.length_toList, hsz]; kernel_rfl
  obtain ⟨a, l, hr, e0, e1, e2, e3⟩ := tr_log ht 0 (by kernel_rfl) (by kernel_rfl) (by kernel_rfl) (by kernel_rfl)
  obtain ⟨y0, y1, y2, y3, hy⟩ := list4 hl
  rw [hy] at e0 e1 e2 e3
  simp at e0 e1 e2 e3
  subst e0 e1 e2 e3
  exact ⟨a, l, congrArg Value.agg (Array.ext' hy), hr⟩
set_option maxRecDepth 100000 in
theorem open_Msg {v : Value} {d : DataW H} {p : List MemPlace} {b0 : Nat}
    (hv : Value.okWide Tryz.prog w .any b0 58 v) (h : DataW.Trod enc Tryz.prog w base spare held 58 v d p) : ∃ a m, v = Mg.val a m ∧ LgR w a m.log := by
  obtain ⟨cs, rfl, hsz⟩ := okWide_struct Tryz.underlying58 hv
  obtain ⟨fuel, hf⟩ := h
  have ht : Tr enc Tryz.prog w base spare held 58 cs.toList := ⟨fuel, _, hf⟩
  have hl : cs.toList.length = 17 := by rw [Array.length_toList, hsz]; kernel_rfl
  obtain ⟨x0, e0, _⟩ := ht.int (n := 4) (lt := 3) 0 (by kernel_rfl) Tryz.underlying3
  obtain ⟨x1, e1, _⟩ := ht.int (n := 4) (lt := 3) 1 (by kernel_rfl) Tryz.underlying3
  obtain ⟨x2, e2, _⟩ := ht.int (n := 4) (lt := 3) 2 (by kernel_rfl) Tryz.underlying3
  obtain ⟨x3, e3, _⟩ := ht.int (n := 4) (lt := 3) 3 (by kernel_rfl) Tryz.underlying3
  obtain ⟨x4, e4, _⟩ := ht.int (n := 4) (lt := 3) 4 (by kernel_rfl) Tryz.underlying3
  obtain ⟨x5, e5, _⟩ := ht.int (n := 4) (lt := 3) 5 (by kernel_rfl) Tryz.underlying3
  obtain ⟨x6, e6, _⟩ := ht.int (n := 4) (lt := 3) 6 (by kernel_rfl) Tryz.underlying3
  obtain ⟨x7, e7, _⟩ := ht.int (n := 4) (lt := 3) 7 (by kernel_rfl) Tryz.underlying3
  obtain ⟨x8, e8, _⟩ := ht.int (n := 4) (lt := 3) 8 (by kernel_rfl) Tryz.underlying3
  obtain ⟨x9, e9, _⟩ := ht.int (n := 4) (lt := 3) 9 (by kernel_rfl) Tryz.underlying3
  obtain ⟨x10, e10, _⟩ := ht.int (n := 4) (lt := 3) 10 (by kernel_rfl) Tryz.underlying3
  obtain ⟨x11, e11, _⟩ := ht.int (n := 4) (lt := 3) 11 (by kernel_rfl) Tryz.underlying3
  obtain ⟨x12, e12, _⟩ := ht.int (n := 4) (lt := 3) 12 (by kernel_rfl) Tryz.underlying3
  obtain ⟨a, l, hr, e13, e14, e15, e16⟩ := tr_log ht 13 (by kernel_rfl) (by kernel_rfl) (by kernel_rfl) (by kernel_rfl)
  obtain ⟨y0, y1, y2, y3, y4, y5, y6, y7, y8, y9, y10, y11, y12, y13, y14, y15, y16, hy⟩ := list17 hl
  rw [hy] at e0 e1 e2 e3 e4 e5 e6 e7 e8 e9 e10 e11 e12 e13 e14 e15 e16
  simp at e0 e1 e2 e3 e4 e5 e6 e7 e8 e9 e10 e11 e12 e13 e14 e15 e16
  subst e0 e1 e2 e3 e4 e5 e6 e7 e8 e9 e10 e11 e12 e13 e14 e15 e16
  exact ⟨a, ⟨x0, x1, x2, x3, x4, x5, x6, x7, x8, x9, x10, x11, x12, l⟩, congrArg Value.agg (Array.ext' hy), hr⟩
set_option maxRecDepth 100000 in
theorem open_Replica {v : Value} {d : DataW H} {p : List MemPlace} {b0 : Nat}
    (hv : Value.okWide Tryz.prog w .any b0 31 v) (h : DataW.Trod enc Tryz.prog w base spare held 31 v d p) : ∃ a A c ps r, v = Rp.val a A (List.length ps) c r ∧ RpR w a A c ps r := by
  obtain ⟨cs, rfl, hsz⟩ := okWide_struct Tryz.underlying31 hv
  obtain ⟨fuel, hf⟩ := h
  have ht : Tr enc Tryz.prog w base spare held 31 cs.toList := ⟨fuel, _, hf⟩
  have hl : cs.toList.length = 13 := by rw [Array.length_toList, hsz]; kernel_rfl
  obtain ⟨x0, e0, _⟩ := ht.int (n := 4) (lt := 3) 0 (by kernel_rfl) Tryz.underlying3
  obtain ⟨x1, e1, _⟩ := ht.int (n := 4) (lt := 3) 1 (by kernel_rfl) Tryz.underlying3
  obtain ⟨x2, e2, _⟩ := ht.int (n := 4) (lt := 3) 2 (by kernel_rfl) Tryz.underlying3
  obtain ⟨x3, e3, _⟩ := ht.int (n := 4) (lt := 3) 3 (by kernel_rfl) Tryz.underlying3
  obtain ⟨x4, e4, _⟩ := ht.int (n := 4) (lt := 3) 4 (by kernel_rfl) Tryz.underlying3
  obtain ⟨x5, e5, _⟩ := ht.int (n := 4) (lt := 3) 5 (by kernel_rfl) Tryz.underlying3
  obtain ⟨a, l, hr, e6, e7, e8, e9⟩ := tr_log ht 6 (by kernel_rfl) (by kernel_rfl) (by kernel_rfl) (by kernel_rfl)
  obtain ⟨A, n, c, e10, tv⟩ := ht.slice (n := 4) (lt := 29) 10 (by kernel_rfl) Tryz.underlying29
  obtain ⟨ps, rfl, hvs⟩ := tr_votes tv
  obtain ⟨x11, e11, _⟩ := ht.int (n := 4) (lt := 3) 11 (by kernel_rfl) Tryz.underlying3
  obtain ⟨x12, e12, _⟩ := ht.int (n := 4) (lt := 3) 12 (by kernel_rfl) Tryz.underlying3
  obtain ⟨y0, y1, y2, y3, y4, y5, y6, y7, y8, y9, y10, y11, y12, hy⟩ := list13 hl
  rw [hy] at e0 e1 e2 e3 e4 e5 e6 e7 e8 e9 e10 e11 e12
  simp at e0 e1 e2 e3 e4 e5 e6 e7 e8 e9 e10 e11 e12
  subst e0 e1 e2 e3 e4 e5 e6 e7 e8 e9 e10 e11 e12
  exact ⟨a, A, c, ps, ⟨x0, x1, x2, x3, x4, x5, l, ps.map Prod.snd, x11, x12⟩, congrArg Value.agg (Array.ext' hy), ⟨hr, hvs, rfl⟩⟩
end

/-! ### sizes -/
theorem lgN_small {l : Lg} {n : Nat} (h : lgN l ≤ n) (hn : n ≤ 1048576) : l.small := by unfold lgN at h; unfold Lg.small; omega
theorem vsN_small (ps : List VtE) (n : Nat) (h : ps.length + vsN ps ps.length ≤ n) (hn : n ≤ 1048576) : LgS ps := fun p hp => by
  obtain ⟨k, hk, rfl⟩ := List.mem_iff_getElem.1 hp
  have h1 := vsN_next hk
  have h2 := vsN_up ps (k + 1) (ps.length - (k + 1))
  rw [show k + 1 + (ps.length - (k + 1)) = ps.length by omega] at h2
  exact lgN_small (n := n) (by omega) hn
theorem vsN_congr {ps qs : List VtE} (h : ps.map Prod.snd = qs.map Prod.snd) : ∀ k, vsN ps k = vsN qs k
  | 0 => rfl
  | k + 1 => by
    have ih := vsN_congr h k
    have hat : ps[k]?.map Prod.snd = qs[k]?.map Prod.snd := by
      have := congrArg (fun l => l[k]?) h
      simpa using this
    unfold vsN
    rw [ih]
    congr 1
    revert hat
    cases ps[k]? <;> cases qs[k]? <;> intro hat
    · rfl
    · simp at hat
    · simp at hat
    · simp at hat
      simp only [hat]
end Go.Proofs.YtmpjokdidomafaaGreat
