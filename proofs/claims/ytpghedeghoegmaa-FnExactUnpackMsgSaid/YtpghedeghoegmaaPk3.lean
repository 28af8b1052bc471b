/- What arguments with slices in structs in slices read as: logs, votes, messages, replicas. -/
import Derived.Test.YtpghedeghoegmaaPk2
namespace Go.Proofs.Ytpghedeghoegmaa
open Go.ChangeShapes Go.WideShapes Go.ChangeAt Go.RowKit Go.Joins Go.Deep
set_option linter.unusedVariables false

/-- what cell j of a value of type t is, by the way of its fields: no struct -/
def leafTy (P : Program) : Nat → TypeId → Nat → Option TypeId
  | 0, _, _ => none
  | n + 1, t, j => match P.underlying t with
    | some (.struct fs) => match (List.range fs.size).find? (fun i => match fs[i]? with | some f => decide (f.offset ≤ j) && decide (j < f.offset + P.cellsOf f.type) | none => false) with
      | some i => match fs[i]? with
        | some f => leafTy P n f.type (j - f.offset)
        | none => none
      | none => none
    | some (.int .i64) => if j = 0 then some t else none
    | some (.slice _) => if j = 0 then some t else none
    | some .string => if j = 0 then some t else none
    | _ => none

theorem trod_leaf {H : Type} {enc : TypeId × Value → H} {P : Program} {w : World} {base : Nat} {spare : Nat → Bool} {held : Bool} : ∀ (n : Nat) (t lt : TypeId) (fuel : Nat) (cs : List Value) (x : DataW H × List MemPlace) (j : Nat),
    leafTy P n t j = some lt → DataW.trod enc P w base spare held fuel t cs = some x → ∃ (v : Value) (fuel' : Nat) (x' : DataW H × List MemPlace), cs[j]? = some v ∧ DataW.trod enc P w base spare held fuel' lt [v] = some x'
  | 0, _, _, _, _, _, _, h, _ => by simp [leafTy] at h
  | n + 1, t, lt, fuel, cs, x, j, h, ht => by
    unfold leafTy at h
    split at h
    · rename_i fs hu
      split at h
      · rename_i i hfi
        have hp := List.find?_some hfi
        have hm := List.mem_of_find?_eq_some hfi
        split at h
        · rename_i f hf
          rw [hf] at hp
          simp only [Bool.and_eq_true, decide_eq_true_eq] at hp
          obtain ⟨ys, m, rfl, hy, hlen, hyl, hff⟩ := DataW.trod_struct hu ht
          have h6 := hff i f hf
          have hil : i < ys.length := by rw [hyl]; exact (List.mem_range.1 hm)
          rw [List.getElem?_eq_getElem hil] at h6
          obtain ⟨v, f', x', hv, hx'⟩ := trod_leaf n f.type lt m _ _ (j - f.offset) h h6
          refine ⟨v, f', x', ?_, hx'⟩
          rw [List.getElem?_take, List.getElem?_drop] at hv
          split at hv
          · rwa [show f.offset + (j - f.offset) = j by omega] at hv
          · cases hv
        · cases h
      · cases h
    · rename_i hu
      split at h
      · simp only [Option.some.injEq] at h
        subst h
        rename_i hj
        subst hj
        obtain ⟨z, rfl, _⟩ := DataW.trod_int hu ht
        exact ⟨_, _, _, rfl, ht⟩
      · cases h
    · rename_i e hu
      split at h
      · simp only [Option.some.injEq] at h
        subst h
        rename_i hj
        subst hj
        rcases open_slice hu ht with ⟨rfl, _⟩ | ⟨a, len, cap, m, n, D, Pl, rfl, _⟩
        · exact ⟨_, _, _, rfl, ht⟩
        · exact ⟨_, _, _, rfl, ht⟩
      · cases h
    · rename_i hu
      split at h
      · simp only [Option.some.injEq] at h
        subst h
        rename_i hj
        subst hj
        obtain ⟨s, rfl, _⟩ := DataW.trod_string hu ht
        exact ⟨_, _, _, rfl, ht⟩
      · cases h
    · cases h

section
variable {H : Type} {enc : TypeId × Value → H} {P : Program} {w : World} {base : Nat} {spare : Nat → Bool} {held : Bool}
/-- it reads -/
def Tr (enc : TypeId × Value → H) (P : Program) (w : World) (base : Nat) (spare : Nat → Bool) (held : Bool) (t : TypeId) (cs : List Value) : Prop := ∃ fuel x, DataW.trod enc P w base spare held fuel t cs = some x
theorem Tr.int {n : Nat} {t lt : TypeId} {cs : List Value} (h : Tr enc P w base spare held t cs) (j : Nat) (hl : leafTy P n t j = some lt) (hu : P.underlying lt = some (.int .i64)) : ∃ z : Int, cs[j]? = some (.int .i64 z) ∧ (Lit.int .i64 z).wf = true := by
  obtain ⟨fuel, x, hx⟩ := h
  obtain ⟨v, f', x', hv, hx'⟩ := trod_leaf n t lt fuel cs x j hl hx
  obtain ⟨z, hz, _, hwf⟩ := DataW.trod_int hu hx'
  simp only [List.cons.injEq, and_true] at hz
  subst hz
  exact ⟨z, hv, hwf⟩
theorem Tr.slice {n : Nat} {t lt e : TypeId} {cs : List Value} (h : Tr enc P w base spare held t cs) (j : Nat) (hl : leafTy P n t j = some lt) (hu : P.underlying lt = some (.slice e)) : ∃ A m c, cs[j]? = some (.slice A m c) ∧ Tr enc P w base spare held lt [.slice A m c] := by
  obtain ⟨fuel, x, hx⟩ := h
  obtain ⟨v, f', x', hv, hx'⟩ := trod_leaf n t lt fuel cs x j hl hx
  rcases open_slice hu hx' with ⟨he, _⟩ | ⟨a, len, cap, m, n, D, Pl, he, _⟩
  · simp only [List.cons.injEq, and_true] at he
    subst he
    exact ⟨_, _, _, hv, f', x', hx'⟩
  · simp only [List.cons.injEq, and_true] at he
    subst he
    exact ⟨_, _, _, hv, f', x', hx'⟩

/-- the rows of a slice -/
theorem Tr.rows {t e : TypeId} {A : Option Addr} {len cap C : Nat} (h : Tr enc P w base spare held t [.slice A len cap]) (ht : P.underlying t = some (.slice e)) (hC : P.cellsOf e = C) (hpos : 0 < C) :
    len ≤ cap ∧ cap ≤ maxLen ∧ (0 < len → ∃ b o, A = some ⟨b, o, none⟩ ∧ b < w.heap.size ∧ ∀ k, k < len → ∃ cs : List Value, cs.length = C ∧ Tr enc P w base spare held e cs ∧ ∀ j u, cs[j]? = some u → w.cell? ⟨b, o + k * C + j, none⟩ = some u) := by
  obtain ⟨fuel, x, hx⟩ := h
  rcases open_slice ht hx with ⟨hcs, _⟩ | ⟨a, len', cap', m, n, D, Pl, hcs, hb, hl, hm, hmm, _, hi⟩
  · simp only [List.cons.injEq, and_true, Value.slice.injEq] at hcs
    obtain ⟨rfl, rfl, rfl⟩ := hcs
    exact ⟨Nat.le_refl _, by unfold maxLen; omega, fun h => absurd h (by simp)⟩
  · simp only [List.cons.injEq, and_true, Value.slice.injEq] at hcs
    obtain ⟨rfl, rfl, rfl⟩ := hcs
    have hlm : len ≤ m := by rw [hmm]; split <;> omega
    refine ⟨hl, hm, fun h0 => ?_⟩
    obtain ⟨b, o, s⟩ := a
    obtain ⟨cs0, hc0, _⟩ := hi 0 (by omega)
    rw [hC] at hc0
    obtain ⟨_, hcl, hat⟩ := World.cells?_some hc0
    have h1 := hat 0 (by omega)
    rw [List.getElem?_eq_getElem (by omega)] at h1
    have hs : s = none := by
      cases s with
      | none => rfl
      | some q =>
        exfalso
        simp [Addr.add, World.cell?] at h1
        split at h1 <;> simp at h1
    subst hs
    have hadd : ∀ x y : Nat, ((⟨b, o, none⟩ : Addr).add x).add y = ⟨b, o + x + y, none⟩ := fun x y => by
      unfold Addr.add
      by_cases hx : x = 0 <;> by_cases hy : y = 0 <;> simp [hx, hy]
    have hlt : b < w.heap.size := by
      have := block_lt_of_cell h1
      rw [hadd] at this
      exact this
    refine ⟨b, o, rfl, hlt, fun k hk => ?_⟩
    obtain ⟨cs, hc, ht'⟩ := hi k (by omega)
    rw [hC] at hc
    obtain ⟨_, hcl', hat'⟩ := World.cells?_some hc
    refine ⟨cs, hcl', ⟨_, _, ht'⟩, fun j u hu => ?_⟩
    have hj : j < C := by
      have := (List.getElem?_eq_some_iff.1 hu).1
      omega
    rw [← hadd, hat' j hj, hu]

theorem pick_list {α : Type} (Q : Nat → α → Prop) : ∀ n, (∀ i, i < n → ∃ x, Q i x) → ∃ l : List α, l.length = n ∧ ∀ i (hi : i < l.length), Q i l[i]
  | 0, _ => ⟨[], rfl, fun i hi => absurd hi (by simp)⟩
  | n + 1, h => by
    obtain ⟨l, hl, hp⟩ := pick_list Q n (fun i hi => h i (by omega))
    obtain ⟨x, hx⟩ := h n (by omega)
    refine ⟨l ++ [x], by simp [hl], fun i hi => ?_⟩
    by_cases hin : i < l.length
    · rw [List.getElem_append_left hin]; exact hp i hin
    · have : i = n := by simp at hi; omega
      subst this
      rw [List.getElem_append_right (by omega)]
      simpa [hl] using hx

/-- the rows as a list -/
theorem Tr.list {t e : TypeId} {A : Option Addr} {len cap C : Nat} (h : Tr enc P w base spare held t [.slice A len cap]) (ht : P.underlying t = some (.slice e)) (hC : P.cellsOf e = C) (hpos : 0 < C) {α : Type} (eα : α → List Value) (R : α → Prop)
    (hq : ∀ cs : List Value, cs.length = C → Tr enc P w base spare held e cs → ∃ a : α, eα a = cs ∧ R a) : ∃ l : List α, l.length = len ∧ Rd eα C w A cap l ∧ ∀ a ∈ l, R a := by
  obtain ⟨hl, hm, hr⟩ := h.rows ht hC hpos
  by_cases h0 : 0 < len
  · obtain ⟨b, o, rfl, hb, hk⟩ := hr h0
    obtain ⟨l, hll, hp⟩ := pick_list (fun k (a : α) => R a ∧ ∀ j u, (eα a)[j]? = some u → w.cell? ⟨b, o + k * C + j, none⟩ = some u) len (fun k hkl => by
      obtain ⟨cs, h1, h2, h3⟩ := hk k hkl
      obtain ⟨a, ha, hR⟩ := hq cs h1 h2
      exact ⟨a, hR, by rw [ha]; exact h3⟩)
    refine ⟨l, hll, ⟨by omega, hm, fun _ => ⟨b, o, rfl, hb, fun k hkk j u hu => (hp k hkk).2 j u hu⟩⟩, fun a ha => ?_⟩
    obtain ⟨i, hi, rfl⟩ := List.getElem_of_mem ha
    exact (hp i hi).1
  · obtain rfl : len = 0 := by omega
    exact ⟨[], rfl, ⟨by simp, hm, fun h => absurd h (by simp)⟩, by simp⟩
end

section
variable {H : Type} {enc : TypeId × Value → H} {w : World} {base : Nat} {spare : Nat → Bool} {held : Bool}
end
end Go.Proofs.Ytpghedeghoegmaa

