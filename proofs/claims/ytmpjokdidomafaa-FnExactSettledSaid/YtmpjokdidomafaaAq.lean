/- append of a row that is read to an empty row, inside a region that draws its order. No program in sight. -/
import Derived.Test.YtmpjokdidomafaaMixA
import Derived.Test.YtmpjokdidomafaaAp
namespace Go.Proofs.Ytmpjokdidomafaa
open Go.ChangeShapes Go.WideShapes Go.ChangeAt Go.RowKit Go.Sort
set_option linter.unusedVariables false

/-- a slice that reads as the list -/
def SlV {α : Type} (enc : α → List Value) (sz : Nat) (l : List α) (v : Value) (w : World) : Prop := ∃ A c, v = .slice A l.length c ∧ Rd enc sz w A c l
theorem SlV.mono {α : Type} (enc : α → List Value) (sz : Nat) (l : List α) : Mono (SlV enc sz l) := fun v w w' ⟨A, c, h, hr⟩ hx => ⟨A, c, h, hr.keep hx⟩
theorem SlV.rd {α : Type} {enc : α → List Value} {sz : Nat} {l : List α} {A : Option Addr} {n c : Nat} {w : World} (h : SlV enc sz l (.slice A n c) w) : Rd enc sz w A c l := by
  obtain ⟨A', c', he, hr⟩ := h
  simp only [Value.slice.injEq] at he
  obtain ⟨rfl, _, rfl⟩ := he
  exact hr

theorem run_app0 {P : Program} {α : Type} {enc : α → List Value} {w : World} (p : Nat) (t ty e : TypeId) (i : TypeInfo) (z : Value) (size bytes : Nat) (ht : P.underlying t = some (.slice e)) (hi : P.info? e = some i) (hz : i.zero = some z)
    (hsize : i.size = size) (hby : i.bytes = bytes) (hzs : z.cells.size = size) (hsz : 0 < size) (hlen : ∀ x, (enc x).length = size) {A : Option Addr} {c : Nat} {l : List α} (hr : Rd enc size w A c l)
    (h63 : l.length ≤ maxLen) (hbytes : l.length * bytes ≤ 140737488355328) :
    ∃ v' w', (Builtin.append_ #[t, t] ty #[.slice (some ⟨p, 0, none⟩) 0 0, .slice A l.length c]).run P w = .ok v' w' ∧ SlV enc size l v' w' ∧ Ext w w' := by
  subst hsize
  subst hby
  have hsmall : l.length ≤ 9223372036854775807 := by simp only [maxLen] at h63; omega
  by_cases h0 : l.length = 0
  · obtain rfl : l = [] := List.eq_nil_of_length_eq_zero h0
    refine ⟨.slice (some ⟨p, 0, none⟩) 0 0, w, ?_, ⟨some ⟨p, 0, none⟩, 0, rfl, ⟨Nat.le_refl _, by unfold maxLen; omega, fun h => absurd h (by simp)⟩⟩, ext_refl _⟩
    cases A <;> simp [Builtin.append_, run_underlying ht, sizeOf, typeInfo, hi, Builtin.lenOf, Builtin.firstCells, loadCells, loadCellsFrom, storeCells]
  · obtain ⟨ad, rfl⟩ := hr.base (by omega)
    have hf := flat_length hlen l
    have hrun := run_append_grow (P := P) (w := w) t ty e i z ht hi hz ⟨p, 0, none⟩ 0 0 [] (by simp) (by simp) ad l.length c (l.flatMap enc) hf (hr.flat hsz hlen) (by omega) (by omega) (growslice_fits (by omega) (by simpa using hbytes))
    refine ⟨_, _, hrun, ⟨some ⟨w.heap.size, 0, none⟩, grownCap w (0 + l.length) 0 e, by simp, ?_⟩, ?_⟩
    · have hge := grownCap_ge w (0 + l.length) 0 e
      have hcm : grownCap w (0 + l.length) 0 e ≤ maxLen := grownCap_le_maxLen w (0 + l.length) 0 e (by simpa using h63)
      refine ⟨by omega, hcm, fun _ => ⟨w.heap.size, 0, rfl, by simp, fun k hk j u hu => ?_⟩⟩
      have hj : j < i.size := by
        have := (List.getElem?_eq_some_iff.1 hu).1
        rw [hlen] at this
        exact this
      have hlt : k * i.size + j < l.length * i.size := by
        have := Nat.mul_le_mul_right i.size (show k + 1 ≤ l.length by omega)
        rw [Nat.succ_mul] at this
        omega
      refine (bx_cell (hNew (w := w.drew) (k := w.heap.size) rfl) (0 + k * i.size + j)).trans ?_
      rw [Nat.zero_add, ← hu, ← flat_get hlen l k hk j hj]
      rw [Array.getElem?_append_left (by simp [hf]; exact hlt)]
      simp
    · exact (ext_drew (ext_refl w)).trans (ext_alloc _ _)

open Ap in
theorem wpMix_app0 {P : Program} {ops : Array Oper} {w : World} {B : Bnd} {L : (World → Prop) → Act → Prop} {o : Oper} {rest : List Oper} {C : World → Prop} {ps : List Nat} {a : Act} {α : Type} {enc : α → List Value} (s x : Operand) (t : TypeId)
    (ho : o.op = .call { callee := .builtin .append, args := #[s, x], argTypes := #[t, t] }) (hgd : o.guard = none) (e : TypeId) (i : TypeInfo) (z : Value) (size bytes : Nat) (ht : P.underlying t = some (.slice e)) (hi : P.info? e = some i) (hz : i.zero = some z)
    (hsize : i.size = size) (hby : i.bytes = bytes) (hzs : z.cells.size = size) (hsz : 0 < size) (hlen : ∀ x, (enc x).length = size) (p : Nat) (hs : a.eval s = .slice (some ⟨p, 0, none⟩) 0 0) (A : Option Addr) (n c : Nat) (l : List α) (hn : n = l.length) (hx : a.eval x = .slice A n c)
    (hr : ∀ W, Ext w W → Rd enc size W A c l) (hΦ : B.2 o.dst = SlV enc size l) (h63 : l.length ≤ maxLen) (hbytes : l.length * bytes ≤ 140737488355328)
    (h : ∀ A' c', Ap.Mx P ops (Ext w) B L rest (fun W => C W ∧ SlV enc size l (.slice A' l.length c') W) ps (a.put o.dst (.slice A' l.length c'))) : Ap.Mx P ops (Ext w) B L (o :: rest) C ps a := by
  subst hn
  refine Ap.wpMix_app (by unfold isAlloc; rw [ho]) (by unfold Ap.isApp; rw [ho]) (by simp [Region.wanted, hgd]) (by rw [hΦ]; exact SlV.mono _ _ _) (fun W hW => ?_) (fun v hv => ?_)
  · obtain ⟨v', w', h1, h2, h3⟩ := run_app0 (P := P) (w := W) p t o.type e i z size bytes ht hi hz hsize hby hzs hsz hlen (hr W hW) h63 hbytes
    refine ⟨v', w', ?_, by rw [hΦ]; exact h2, h3⟩
    unfold execOp
    simp only [ho, resolve, invoke, builtin, Sem.run_bind, Sem.run_pure, Result.andThen_ok, List.map_toArray, List.map_cons, List.map_nil, hs, hx, h1]
  · rw [hΦ] at hv ⊢
    obtain ⟨W, _, A', c', rfl, _⟩ := hv
    exact h A' c'
end Go.Proofs.Ytmpjokdidomafaa
