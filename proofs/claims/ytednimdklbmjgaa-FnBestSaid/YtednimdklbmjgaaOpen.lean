/- What an argument of a law reads as: the law's own struct types opened. -/
import Derived.Test.YtednimdklbmjgaaLaw
import Derived.Test.YtednimdklbmjgaaRng
namespace Go.Proofs.Ytednimdklbmjgaa
open Go.ChangeShapes Go.WideShapes Go.ChangeAt Go.RowKit Go.Joins Go.Deep
set_option linter.unusedVariables false

theorem list_choice {α : Type} (P : Nat → α → Prop) : ∀ n, (∀ i, i < n → ∃ x, P i x) → ∃ l : List α, l.length = n ∧ ∀ i (hi : i < l.length), P i l[i]
  | 0, _ => ⟨[], rfl, fun i hi => absurd hi (by simp)⟩
  | n + 1, h => by
    obtain ⟨l, hl, hp⟩ := list_choice P n (fun i hi => h i (by omega))
    obtain ⟨x, hx⟩ := h n (by omega)
    refine ⟨l ++ [x], by simp [hl], fun i hi => ?_⟩
    by_cases hin : i < l.length
    · rw [List.getElem_append_left hin]; exact hp i hin
    · have : i = n := by simp at hi; omega
      subst this
      rw [List.getElem_append_right (by omega)]
      simpa [hl] using hx

/-- a slice of structs of whole numbers, nil let in -/
theorem open_flat {P : Program} {H : Type} {enc : TypeId × Value → H} {W : World} {base b0 : Nat} {sp : Nat → Bool} {held : Bool} {t e : TypeId} {fs : Array Field} {v : Value} {d : DataW H} {p : List MemPlace} (ht : P.underlying t = some (.slice e))
    (he : P.underlying e = some (.struct fs)) (hone : oneCellFields P fs = true) (hall : ∀ (j : Nat) (f : Field), fs[j]? = some f → P.underlying f.type = some (.int .i64)) (hC : P.cellsOf e = fs.size) (hpos : 0 < fs.size)
    (hv : Value.okWide P W .any base t v) (h : DataW.Trod enc P W b0 sp held t v d p) : ∃ (A : Option Addr) (c : Nat) (rows : List (List Int)), v = .slice A rows.length c ∧ (∀ r ∈ rows, r.length = fs.size) ∧ rows.length ≤ c ∧ c ≤ maxLen ∧
      (0 < rows.length → ∃ b o, A = some ⟨b, o, none⟩ ∧ b < W.heap.size ∧ ∀ k (hk : k < rows.length) j u, (rows[k].map (Value.int .i64))[j]? = some u → W.cell? ⟨b, o + k * fs.size + j, none⟩ = some u) := by
  obtain ⟨a0, len, cap, rfl⟩ := okWide_slice ht hv
  obtain ⟨fuel, hf⟩ := h
  rcases open_slice ht hf with ⟨hcs, hx⟩ | ⟨a, len', cap', m, n, D, Pl, hcs, hb, hl, hm, hmm, hx, hi⟩
  · simp only [Value.cells, List.cons.injEq, and_true, Value.slice.injEq] at hcs
    obtain ⟨rfl, rfl, rfl⟩ := hcs
    exact ⟨none, 0, [], rfl, by simp, by simp, by unfold maxLen; omega, fun h => absurd h (by simp)⟩
  · simp only [Value.cells, List.cons.injEq, and_true, Value.slice.injEq] at hcs
    obtain ⟨rfl, rfl, rfl⟩ := hcs
    have hlm : len ≤ m := by rw [hmm]; split <;> omega
    have each : ∀ i, i < len → ∃ r : List Int, r.length = fs.size ∧ ∀ j u, (r.map (Value.int .i64))[j]? = some u → W.cell? ((a.add (i * fs.size)).add j) = some u := by
      intro i hin
      obtain ⟨cs', hc, ht'⟩ := hi i (by omega)
      rw [hC] at hc
      obtain ⟨_, hcl, hat⟩ := World.cells?_some hc
      obtain ⟨ys, n', hn', hy, hlen, hyl, hff⟩ := DataW.trod_struct he ht'
      have cell : ∀ j, j < fs.size → ∃ z : Int, cs'[j]? = some (.int .i64 z) := by
        intro j hj
        have hfj : fs[j]? = some fs[j] := Array.getElem?_eq_getElem hj
        obtain ⟨ho, hk⟩ := hone_of hone j _ hfj
        have h1 := hff j _ hfj
        rw [ho, hk] at h1
        have h2 : ys[j]? = some (ys[j]'(by omega)) := List.getElem?_eq_getElem (by omega)
        rw [h2] at h1
        obtain ⟨z, hz, _⟩ := DataW.trod_int (hall j _ hfj) h1
        rw [List.drop_eq_getElem_cons (by omega), List.take_succ_cons, List.take_zero] at hz
        injection hz with hz
        exact ⟨z, (List.getElem?_eq_getElem (by omega)).trans (congrArg some hz)⟩
      obtain ⟨r, hr, hrp⟩ := list_choice (fun j (z : Int) => cs'[j]? = some (.int .i64 z)) fs.size cell
      refine ⟨r, hr, fun j u hu => ?_⟩
      have hj : j < r.length := by
        have := (List.getElem?_eq_some_iff.1 hu).1
        simpa using this
      rw [hat j (by omega), hrp j hj, ← hu]
      simp [hj]
    obtain ⟨rows, hrl, hrp⟩ := list_choice (fun i (r : List Int) => r.length = fs.size ∧ ∀ j u, (r.map (Value.int .i64))[j]? = some u → W.cell? ((a.add (i * fs.size)).add j) = some u) len each
    subst hrl
    refine ⟨some a, cap, rows, rfl, fun r hr => ?_, hl, hm, fun hpos2 => ?_⟩
    · obtain ⟨i, hi', rfl⟩ := List.getElem_of_mem hr
      exact (hrp i hi').1
    · obtain ⟨b, o, s⟩ := a
      -- the first cell is there: so the address has no spot
      have h0 := hrp 0 hpos2
      have hj0 : 0 < rows[0].length := by omega
      have hc0 := h0.2 0 (.int .i64 rows[0][0]) (by simp [hj0])
      have hs : s = none := by
        cases s with
        | none => rfl
        | some q =>
          exfalso
          simp [Addr.add, World.cell?] at hc0
          split at hc0 <;> simp at hc0
      subst hs
      have hadd : ∀ x y : Nat, ((⟨b, o, none⟩ : Addr).add x).add y = ⟨b, o + x + y, none⟩ := fun x y => by
        unfold Addr.add
        by_cases hx : x = 0 <;> by_cases hy : y = 0 <;> simp [hx, hy]
      have hlt : b < W.heap.size := by
        have := block_lt_of_cell hc0
        rw [hadd] at this
        exact this
      exact ⟨b, o, rfl, hlt, fun k hk j u hu => by have := (hrp k hk).2 j u hu; rwa [hadd] at this⟩

end Go.Proofs.Ytednimdklbmjgaa
