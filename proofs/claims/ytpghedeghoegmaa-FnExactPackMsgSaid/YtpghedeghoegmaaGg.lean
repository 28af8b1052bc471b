/- Arguments that are logs, messages, replicas, opened. -/
import Derived.Test.YtpghedeghoegmaaDo
import Derived.Test.YtpghedeghoegmaaRp
import Derived.Test.YtpghedeghoegmaaMv
namespace Go.Proofs.Ytpghedeghoegmaa
open Go.ChangeShapes Go.WideShapes Go.ChangeAt Go.RowKit Go.Joins Go.Deep
set_option linter.unusedVariables false

theorem list4 {α : Type} {l : List α} (h : l.length = 4) : ∃ a b c d, l = [a, b, c, d] := by match l, h with | [a, b, c, d], _ => exact ⟨a, b, c, d, rfl⟩
theorem list13 {α : Type} {l : List α} (h : l.length = 13) : ∃ a b c d e f g i j k m n o, l = [a, b, c, d, e, f, g, i, j, k, m, n, o] := by match l, h with | [a, b, c, d, e, f, g, i, j, k, m, n, o], _ => exact ⟨a, b, c, d, e, f, g, i, j, k, m, n, o, rfl⟩
theorem list17 {α : Type} {l : List α} (h : l.length = 17) : ∃ a b c d e f g i j k m n o p q r s, l = [a, b, c, d, e, f, g, i, j, k, m, n, o, p, q, r, s] := by match l, h with | [a, b, c, d, e, f, g, i, j, k, m, n, o, p, q, r, s], _ => exact ⟨a, b, c, d, e, f, g, i, j, k, m, n, o, p, q, r, s, rfl⟩
section
variable {H : Type} {enc : TypeId × Value → H} {w : World} {base : Nat} {spare : Nat → Bool} {held : Bool}
set_option maxRecDepth 100000 in
theorem open_Log {v : Value} {d : DataW H} {p : List MemPlace} {b0 : Nat}
    (hv : Value.okWide Try.prog w .any b0 30 v) (h : DataW.Trod enc Try.prog w base spare held 30 v d p) : ∃ a l, v = Lg.val a l ∧ LgR w a l := by
  obtain ⟨cs, rfl, hsz⟩ := okWide_struct Try.underlying30 hv
  obtain ⟨fuel, hf⟩ := h
  have ht : Tr enc Try.prog w base spare held 30 cs.toList := ⟨fuel, _, hf⟩
  have hl : cs.toList.length = 4 := by rw [Array.length_toList, hsz]; kernel_rfl
  obtain ⟨a, l, hr, e0, e1, e2, e3⟩ := tr_log ht 0 (by kernel_rfl) (by kernel_rfl) (by kernel_rfl) (by kernel_rfl)
  obtain ⟨y0, y1, y2, y3, hy⟩ := list4 hl
  rw [hy] at e0 e1 e2 e3
  simp at e0 e1 e2 e3
  subst e0 e1 e2 e3
  exact ⟨a, l, congrArg Value.agg (Array.ext' hy), hr⟩
set_option maxRecDepth 100000 in
theorem open_Msg {v : Value} {d : DataW H} {p : List MemPlace} {b0 : Nat}
    (hv : Value.okWide Try.prog w .any b0 32 v) (h : DataW.Trod enc Try.prog w base spare held 32 v d p) : ∃ a m, v = Mg.val a m ∧ LgR w a m.log := by
  obtain ⟨cs, rfl, hsz⟩ := okWide_struct Try.underlying32 hv
  obtain ⟨fuel, hf⟩ := h
  have ht : Tr enc Try.prog w base spare held 32 cs.toList := ⟨fuel, _, hf⟩
  have hl : cs.toList.length = 17 := by rw [Array.length_toList, hsz]; kernel_rfl
  obtain ⟨x0, e0, _⟩ := ht.int (n := 4) (lt := 3) 0 (by kernel_rfl) Try.underlying3
  obtain ⟨x1, e1, _⟩ := ht.int (n := 4) (lt := 3) 1 (by kernel_rfl) Try.underlying3
  obtain ⟨x2, e2, _⟩ := ht.int (n := 4) (lt := 3) 2 (by kernel_rfl) Try.underlying3
  obtain ⟨x3, e3, _⟩ := ht.int (n := 4) (lt := 3) 3 (by kernel_rfl) Try.underlying3
  obtain ⟨x4, e4, _⟩ := ht.int (n := 4) (lt := 3) 4 (by kernel_rfl) Try.underlying3
  obtain ⟨x5, e5, _⟩ := ht.int (n := 4) (lt := 3) 5 (by kernel_rfl) Try.underlying3
  obtain ⟨x6, e6, _⟩ := ht.int (n := 4) (lt := 3) 6 (by kernel_rfl) Try.underlying3
  obtain ⟨x7, e7, _⟩ := ht.int (n := 4) (lt := 3) 7 (by kernel_rfl) Try.underlying3
  obtain ⟨x8, e8, _⟩ := ht.int (n := 4) (lt := 3) 8 (by kernel_rfl) Try.underlying3
  obtain ⟨x9, e9, _⟩ := ht.int (n := 4) (lt := 3) 9 (by kernel_rfl) Try.underlying3
  obtain ⟨x10, e10, _⟩ := ht.int (n := 4) (lt := 3) 10 (by kernel_rfl) Try.underlying3
  obtain ⟨x11, e11, _⟩ := ht.int (n := 4) (lt := 3) 11 (by kernel_rfl) Try.underlying3
  obtain ⟨x12, e12, _⟩ := ht.int (n := 4) (lt := 3) 12 (by kernel_rfl) Try.underlying3
  obtain ⟨a, l, hr, e13, e14, e15, e16⟩ := tr_log ht 13 (by kernel_rfl) (by kernel_rfl) (by kernel_rfl) (by kernel_rfl)
  obtain ⟨y0, y1, y2, y3, y4, y5, y6, y7, y8, y9, y10, y11, y12, y13, y14, y15, y16, hy⟩ := list17 hl
  rw [hy] at e0 e1 e2 e3 e4 e5 e6 e7 e8 e9 e10 e11 e12 e13 e14 e15 e16
  simp at e0 e1 e2 e3 e4 e5 e6 e7 e8 e9 e10 e11 e12 e13 e14 e15 e16
  subst e0 e1 e2 e3 e4 e5 e6 e7 e8 e9 e10 e11 e12 e13 e14 e15 e16
  exact ⟨a, ⟨x0, x1, x2, x3, x4, x5, x6, x7, x8, x9, x10, x11, x12, l⟩, congrArg Value.agg (Array.ext' hy), hr⟩
end

/-! ### sizes -/
theorem lgN_small {l : Lg} {n : Nat} (h : lgN l ≤ n) (hn : n ≤ 1048576) : l.small := by unfold lgN at h; unfold Lg.small; omega
theorem vsN_small (ps : List VtE) (n : Nat) (h : ps.length + vsN ps ps.length ≤ n) (hn : n ≤ 1048576) : LgS ps := fun p hp => by
  obtain ⟨k, hk, rfl⟩ := List.mem_iff_getElem.1 hp
  have h1 := vsN_next hk
  have h2 := vsN_up ps (k + 1) (ps.length - (k + 1))
  rw [show k + 1 + (ps.length - (k + 1)) = ps.length by omega] at h2
  exact lgN_small (n := n) (by omega) hn
theorem vsN_congr {ps qs : List VtE} (h : ps.map Prod.snd = qs.map Prod.snd) : ∀ k, vsN ps k = vsN qs k
  | 0 => rfl
  | k + 1 => by
    have ih := vsN_congr h k
    have hat : ps[k]?.map Prod.snd = qs[k]?.map Prod.snd := by
      have := congrArg (fun l => l[k]?) h
      simpa using this
    unfold vsN
    rw [ih]
    congr 1
    revert hat
    cases ps[k]? <;> cases qs[k]? <;> intro hat
    · rfl
    · simp at hat
    · simp at hat
    · simp at hat
      simp only [hat]
end Go.Proofs.Ytpghedeghoegmaa

/- The laws' own functions on replicas: marked, held. -/
namespace Go.Proofs.Ytpghedeghoegmaa
open Go.ChangeShapes Go.WideShapes Go.ChangeAt Go.RowKit Go.Sort
set_option linter.unusedVariables false
set_option linter.unusedSimpArgs false

/-- the number behind the marks of a replica -/
def rpK (k : Int) (ps : List VtE) (r : Rp) : Int := VtE.Ks (k + r.log.mN) ps ps.length
/-- how it reads when it is marked -/
structure RpH (w : World) (a : LAd) (A : Option Addr) (c : Nat) (ps : List VtE) (r : Rp) (k : Int) : Prop where
  l : LgR w a (r.log.mk' k r.log.base)
  v : VsR w A c (VtE.mks (k + r.log.mN) ps)
theorem RpH.keep {w w' : World} {a : LAd} {A : Option Addr} {c : Nat} {ps : List VtE} {r : Rp} {k : Int} (h : RpH w a A c ps r k) (hx : Ext w w') : RpH w' a A c ps r k := ⟨h.l.keep hx, h.v.keep hx⟩
end Go.Proofs.Ytpghedeghoegmaa

/- What a law on a replica needs besides: bounds of marks, what a replica made anew promises. -/
namespace Go.Proofs.Ytpghedeghoegmaa
open Go.ChangeShapes Go.WideShapes Go.ChangeAt Go.RowKit Go.Sort
set_option linter.unusedVariables false

theorem LgS.congr {ps qs : List VtE} (h : ps.map Prod.snd = qs.map Prod.snd) (hs : LgS ps) : LgS qs := fun q hq => by
  have h1 : q.2 ∈ qs.map Prod.snd := List.mem_map_of_mem hq
  rw [← h] at h1
  obtain ⟨p, hp, he⟩ := List.mem_map.1 h1
  rw [← he]
  exact hs p hp
theorem mN_lgN (l : Lg) : l.mN ≤ 5 * lgN l := by unfold Lg.mN lgN; omega
theorem Ks_bound (k : Int) (ps : List VtE) : ∀ j, j ≤ ps.length → VtE.Ks k ps j ≤ k + 7 * j + 5 * vsN ps j
  | 0, _ => by simp [VtE.Ks, vsN]
  | j + 1, hj => by
    have ih := Ks_bound k ps j (by omega)
    have h1 := VtE.Ks_next k (ps := ps) (j := j) (by omega)
    have h2 := vsN_next (ps := ps) (k := j) (by omega)
    have h3 := mN_lgN (ps[j]'(by omega)).2.log
    have h4 : (ps[j]'(by omega)).2.mN = 7 + (ps[j]'(by omega)).2.log.mN := rfl
    rw [h1, h2, h4]
    omega
/-- the marks of a replica as great as this one stay small -/
theorem rpK_small {ps qs : List VtE} {r : Rp} (h : ps.map Prod.snd = qs.map Prod.snd) (hn : rpN ps r ≤ 1048576) : rpK 1 qs r ≤ 1000000000 := by
  have hl : qs.length = ps.length := by simpa using (congrArg List.length h).symm
  have h1 := Ks_bound (1 + r.log.mN) qs qs.length (Nat.le_refl _)
  have h2 := mN_lgN r.log
  have h3 := vsN_congr h ps.length
  unfold rpK
  unfold rpN at hn
  rw [hl] at h1 ⊢
  rw [← h3] at h1
  omega
theorem rpK_pos {ps : List VtE} {r : Rp} : 0 ≤ rpK 1 ps r := by
  have h1 := VtE.Ks_ge (1 + r.log.mN) ps ps.length
  have h2 := r.log.mN_pos
  unfold rpK
  omega
/-- a replica's value that reads as r -/
def RpV (n : Nat) (r : Rp) (v : Value) (w : World) : Prop := ∃ a g qs, v = Rp.val a (some ⟨g, 0, none⟩) n n r ∧ List.length qs = n ∧ RpR w a (some ⟨g, 0, none⟩) n qs r
theorem RpV.mono (n : Nat) (r : Rp) : Mono (RpV n r) := fun v w w' ⟨a, g, qs, h, hl, hr⟩ hx => ⟨a, g, qs, h, hl, hr.keep hx⟩
theorem chg_low {a b c : World} {S : List Nat} (h : Ext a b) (k : Chg b c S) (hS : ∀ g ∈ S, a.heap.size ≤ g) : Ext a c := ext_chg h k hS
end Go.Proofs.Ytpghedeghoegmaa
