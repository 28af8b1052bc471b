/- append of a row that is read to an empty row, inside a region that draws its order. No program in sight. -/
import Derived.Test.YtmpjokdidomafaaGreatMixA
import Derived.Test.YtmpjokdidomafaaGreatAp
namespace Go.Proofs.YtmpjokdidomafaaGreat
open Go.ChangeShapes Go.WideShapes Go.ChangeAt Go.RowKit Go.Sort
set_option linter.unusedVariables false
set_option linter.unusedSimpArgs false

/-- a slice that reads as the list, its row one's own if it is not empty -/
def SlV {α : Type} (enc : α → List Value) (e : TypeId) (sz B : Nat) (l : List α) (v : Value) (w : World) : Prop := ∃ A c, v = .slice A l.length c ∧ Rd enc sz w A c l ∧ (0 < l.length → Ow enc e sz w B (.slice A l.length c) l)
theorem SlV.mono {α : Type} (enc : α → List Value) (e : TypeId) (sz B : Nat) (l : List α) : Mono (SlV enc e sz B l) := fun v w w' ⟨A, c, h, hr, hb⟩ hx => ⟨A, c, h, hr.keep hx, fun hl => (hb hl).kept hx⟩
/-- the slice reads so, its row one's own if it is not empty -/
def RdF {α : Type} (enc : α → List Value) (e : TypeId) (sz : Nat) (w : World) (B : Nat) (A : Option Addr) (c : Nat) (l : List α) : Prop := Rd enc sz w A c l ∧ (0 < l.length → Ow enc e sz w B (.slice A l.length c) l)
theorem SlV.rdF {α : Type} {enc : α → List Value} {e : TypeId} {sz B : Nat} {l : List α} {A : Option Addr} {n c : Nat} {w : World} (h : SlV enc e sz B l (.slice A n c) w) : RdF enc e sz w B A c l := by
  obtain ⟨A', c', he, hr, hb⟩ := h
  simp only [Value.slice.injEq] at he
  obtain ⟨rfl, _, rfl⟩ := he
  exact ⟨hr, hb⟩
theorem SlV.rd {α : Type} {enc : α → List Value} {e : TypeId} {sz B : Nat} {l : List α} {A : Option Addr} {n c : Nat} {w : World} (h : SlV enc e sz B l (.slice A n c) w) : Rd enc sz w A c l := h.rdF.1
theorem RdF.keep {α : Type} {enc : α → List Value} {e : TypeId} {sz : Nat} {w w' : World} {B : Nat} {A : Option Addr} {c : Nat} {l : List α} (h : RdF enc e sz w B A c l) (hx : Ext w w') : RdF enc e sz w' B A c l := ⟨h.1.keep hx, fun hl => (h.2 hl).kept hx⟩
theorem RdF.chg {α : Type} {enc : α → List Value} {e : TypeId} {sz : Nat} {w w' : World} {B : Nat} {A : Option Addr} {c : Nat} {l : List α} {S : List Nat} (hsz : ∀ x, (enc x).length = sz) (h : RdF enc e sz w B A c l) (hg : Chg w w' S) (hS : 0 < l.length → ∀ k ∈ blk A, k ∉ S) : RdF enc e sz w' B A c l := by
  by_cases hl : 0 < l.length
  · have h1 := (h.2 hl).chg hg (hS hl)
    exact ⟨(h1.rd hsz).2, fun _ => h1⟩
  · exact ⟨⟨h.1.1, h.1.2.1, fun h => absurd h hl⟩, fun h => absurd h hl⟩
theorem RdF.less {α : Type} {enc : α → List Value} {e : TypeId} {sz : Nat} {w : World} {B B' : Nat} {A : Option Addr} {c : Nat} {l : List α} (h : RdF enc e sz w B A c l) (hB : B' ≤ B) : RdF enc e sz w B' A c l := ⟨h.1, fun hl => (h.2 hl).less hB⟩
theorem RdF.nil {α : Type} (enc : α → List Value) (e : TypeId) (sz : Nat) (w : World) (B : Nat) : RdF enc e sz w B none 0 ([] : List α) := ⟨⟨Nat.le_refl _, by unfold maxLen; omega, fun h => absurd h (by simp)⟩, fun h => absurd h (by simp)⟩
theorem Ow.rdF {α : Type} {enc : α → List Value} {e : TypeId} {sz : Nat} {w : World} {B : Nat} {A : Option Addr} {c : Nat} {l : List α} (hsz : ∀ x, (enc x).length = sz) (h : Ow enc e sz w B (.slice A l.length c) l) : RdF enc e sz w B A c l := ⟨(h.rd hsz).2, fun _ => h⟩

theorem run_app0 {P : Program} {α : Type} {enc : α → List Value} {w : World} (p : Nat) (t ty e : TypeId) (i : TypeInfo) (z : Value) (size bytes : Nat) (ht : P.underlying t = some (.slice e)) (hi : P.info? e = some i) (hz : i.zero = some z)
    (hsize : i.size = size) (hby : i.bytes = bytes) (hzs : z.cells.size = size) (hsz : 0 < size) (hlen : ∀ x, (enc x).length = size) {A : Option Addr} {c : Nat} {l : List α} (hr : Rd enc size w A c l)
    (h63 : l.length ≤ maxLen) (hbytes : l.length * bytes ≤ 140737488355328) (b0 : Nat) (hb0 : b0 ≤ w.heap.size) :
    ∃ v' w', (Builtin.append_ #[t, t] ty #[.slice (some ⟨p, 0, none⟩) 0 0, .slice A l.length c]).run P w = .ok v' w' ∧ SlV enc e size b0 l v' w' ∧ Ext w w' := by
  subst hsize
  subst hby
  have hsmall : l.length ≤ 9223372036854775807 := by simp only [maxLen] at h63; omega
  by_cases h0 : l.length = 0
  · obtain rfl : l = [] := List.eq_nil_of_length_eq_zero h0
    refine ⟨.slice (some ⟨p, 0, none⟩) 0 0, w, ?_, ⟨some ⟨p, 0, none⟩, 0, rfl, ⟨Nat.le_refl _, by unfold maxLen; omega, fun h => absurd h (by simp)⟩, fun h => absurd h (by simp)⟩, ext_refl _⟩
    cases A <;> simp [Builtin.append_, run_underlying ht, sizeOf, typeInfo, hi, Builtin.lenOf, Builtin.firstCells, loadCells, loadCellsFrom, storeCells]
  · obtain ⟨ad, rfl⟩ := hr.base (by omega)
    have hf := flat_length hlen l
    have hrun := run_append_grow (P := P) (w := w) t ty e i z ht hi hz ⟨p, 0, none⟩ 0 0 [] (by simp) (by simp) ad l.length c (l.flatMap enc) hf (hr.flat hsz hlen) (by omega) (by omega) (growslice_fits (by omega) (by simpa using hbytes))
    have hge := grownCap_ge w (0 + l.length) 0 e
    have hcm : grownCap w (0 + l.length) 0 e ≤ maxLen := grownCap_le_maxLen w (0 + l.length) 0 e (by simpa using h63)
    generalize grownCap w (0 + l.length) 0 e = G at hrun hge hcm
    have hown : Ow enc e i.size (w.drew.alloc (.cells (([] : List Value).toArray ++ (l.flatMap enc).toArray ++ Builtin.zeroCells z.cells (G - (0 + l.length))) e)) b0 (.slice (some ⟨w.heap.size, 0, none⟩) l.length G) l := by
      refine ⟨hf, .inr ⟨w.heap.size, _, _, rfl, hb0, heap_alloc_new w.drew _, by omega, hcm, ?_, ?_⟩⟩
      · simp only [Array.size_append, List.size_toArray, List.length_nil, size_zeroCells, hzs, hf, Nat.zero_add]
        rw [← Nat.add_mul]
        congr 1
        omega
      · simp only [Array.toList_append, List.append_assoc, List.nil_append]
        rw [← hf]
        exact List.take_left
    refine ⟨_, _, hrun, ⟨some ⟨w.heap.size, 0, none⟩, G, by simp, (hown.rd hlen).2, fun _ => hown⟩, (ext_drew (ext_refl w)).trans (ext_alloc _ _)⟩

open Ap in
theorem wpMix_app0 {P : Program} {ops : Array Oper} {w : World} {B : Bnd} {L : (World → Prop) → Act → Prop} {o : Oper} {rest : List Oper} {C : World → Prop} {ps : List Nat} {a : Act} {α : Type} {enc : α → List Value} (s x : Operand) (t : TypeId)
    (ho : o.op = .call { callee := .builtin .append, args := #[s, x], argTypes := #[t, t] }) (hgd : o.guard = none) (e : TypeId) (i : TypeInfo) (z : Value) (size bytes : Nat) (ht : P.underlying t = some (.slice e)) (hi : P.info? e = some i) (hz : i.zero = some z)
    (hsize : i.size = size) (hby : i.bytes = bytes) (hzs : z.cells.size = size) (hsz : 0 < size) (hlen : ∀ x, (enc x).length = size) (p : Nat) (hs : a.eval s = .slice (some ⟨p, 0, none⟩) 0 0) (A : Option Addr) (n c : Nat) (l : List α) (hn : n = l.length) (hx : a.eval x = .slice A n c)
    (hr : ∀ W, Ext w W → Rd enc size W A c l) (hΦ : B.2 o.dst = SlV enc e size w.heap.size l) (h63 : l.length ≤ maxLen) (hbytes : l.length * bytes ≤ 140737488355328)
    (h : ∀ A' c', Ap.Mx P ops (Ext w) B L rest (fun W => C W ∧ SlV enc e size w.heap.size l (.slice A' l.length c') W) ps (a.put o.dst (.slice A' l.length c'))) : Ap.Mx P ops (Ext w) B L (o :: rest) C ps a := by
  subst hn
  refine Ap.wpMix_app (by unfold isAlloc; rw [ho]) (by unfold Ap.isApp; rw [ho]) (by simp [Region.wanted, hgd]) (by rw [hΦ]; exact SlV.mono _ _ _ _ _) (fun W hW => ?_) (fun v hv => ?_)
  · obtain ⟨v', w', h1, h2, h3⟩ := run_app0 (P := P) (w := W) p t o.type e i z size bytes ht hi hz hsize hby hzs hsz hlen (hr W hW) h63 hbytes w.heap.size hW.size
    refine ⟨v', w', ?_, by rw [hΦ]; exact h2, h3⟩
    unfold execOp
    simp only [ho, resolve, invoke, builtin, Sem.run_bind, Sem.run_pure, Result.andThen_ok, List.map_toArray, List.map_cons, List.map_nil, hs, hx, h1]
  · rw [hΦ] at hv ⊢
    obtain ⟨W, _, A', c', rfl, _⟩ := hv
    exact h A' c'
end Go.Proofs.YtmpjokdidomafaaGreat
