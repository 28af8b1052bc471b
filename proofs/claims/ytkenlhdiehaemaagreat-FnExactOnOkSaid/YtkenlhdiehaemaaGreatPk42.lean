/- What arguments with slices in structs in slices read as: logs, votes, messages, replicas. -/
import Derived.Test.YtkenlhdiehaemaaGreatPk41
import Derived.Test.YtkenlhdiehaemaaGreatPk3
import Derived.Test.YtkenlhdiehaemaaGreatPk12
import Derived.Test.YtkenlhdiehaemaaGreatPk32
namespace Go.Proofs.YtkenlhdiehaemaaGreat
open Go.ChangeShapes Go.WideShapes Go.ChangeAt Go.RowKit Go.Joins Go.Deep
set_option linter.unusedVariables false
def leafTy (P : Program) : Nat → TypeId → Nat → Option TypeId
 | 0, _, _ => none
 | n + 1, t, j => match P.underlying t with
  | some (.struct fs) => match (List.range fs.size).find? (fun i => match fs[i]? with | some f => decide (f.offset ≤ j) && decide (j < f.offset + P.cellsOf f.type) | none => false) with
   | some i => match fs[i]? with
    | some f => leafTy P n f.type (j - f.offset)
    | none => none
   | none => none
  | some (.int .i64) => if j = 0 then some t else none
  | some (.slice _) => if j = 0 then some t else none
  | some .string => if j = 0 then some t else none
  | _ => none
theorem trod_leaf {H : Type} {enc : TypeId × Value → H} {P : Program} {w : World} {base : Nat} {spare : Nat → Bool} {held : Bool} : ∀ (n : Nat) (t lt : TypeId) (fuel : Nat) (cs : List Value) (x : DataW H × List MemPlace) (j : Nat),
  leafTy P n t j = some lt → DataW.trod enc P w base spare held fuel t cs = some x → ∃ (v : Value) (fuel' : Nat) (x' : DataW H × List MemPlace), cs[j]? = some v ∧ DataW.trod enc P w base spare held fuel' lt [v] = some x'
 | 0, _, _, _, _, _, _, h, _ => by simp [leafTy] at h
 | n + 1, t, lt, fuel, cs, x, j, h, ht => by
  unfold leafTy at h
  split at h
  ·rename_i fs hu
   split at h
   ·rename_i i hfi
    have hp := List.find?_some hfi
    have hm := List.mem_of_find?_eq_some hfi
    split at h
    ·rename_i f hf
     rw [hf] at hp
     simp only [Bool.and_eq_true, decide_eq_true_eq] at hp
     obtain ⟨ys, m, rfl, hy, hlen, hyl, hff⟩ := DataW.trod_struct hu ht
     have h6 := hff i f hf
     have hil : i < ys.length := by rw [hyl]; exact (List.mem_range.1 hm)
     rw [List.getElem?_eq_getElem hil] at h6
     obtain ⟨v, f', x', hv, hx'⟩ := trod_leaf n f.type lt m _ _ (j - f.offset) h h6
     refine ⟨v, f', x', ?_, hx'⟩
     rw [List.getElem?_take, List.getElem?_drop] at hv
     split at hv
     ·rwa [show f.offset + (j - f.offset) = j by omega] at hv
     ·cases hv
    ·cases h
   ·cases h
  ·rename_i hu
   split at h
   ·simp only [Option.some.injEq] at h
    subst h
    rename_i hj
    subst hj
    obtain ⟨z, rfl, _⟩ := DataW.trod_int hu ht
    exact ⟨_, _, _, rfl, ht⟩
   ·cases h
  ·rename_i e hu
   split at h
   ·simp only [Option.some.injEq] at h
    subst h
    rename_i hj
    subst hj
    rcases open_slice hu ht with ⟨rfl, _⟩ | ⟨a, len, cap, m, n, D, Pl, rfl, _⟩
    ·exact ⟨_, _, _, rfl, ht⟩
    ·exact ⟨_, _, _, rfl, ht⟩
   ·cases h
  ·rename_i hu
   split at h
   ·simp only [Option.some.injEq] at h
    subst h
    rename_i hj
    subst hj
    obtain ⟨s, rfl, _⟩ := DataW.trod_string hu ht
    exact ⟨_, _, _, rfl, ht⟩
   ·cases h
  ·cases h
section
variable {H : Type} {enc : TypeId × Value → H} {P : Program} {w : World} {base : Nat} {spare : Nat → Bool} {held : Bool}
def Tr (enc : TypeId × Value → H) (P : Program) (w : World) (base : Nat) (spare : Nat → Bool) (held : Bool) (t : TypeId) (cs : List Value) : Prop := ∃ fuel x, DataW.trod enc P w base spare held fuel t cs = some x
theorem Tr.int {n : Nat} {t lt : TypeId} {cs : List Value} (h : Tr enc P w base spare held t cs) (j : Nat) (hl : leafTy P n t j = some lt) (hu : P.underlying lt = some (.int .i64)) : ∃ z : Int, cs[j]? = some (.int .i64 z) ∧ (Lit.int .i64 z).wf = true := by
 obtain ⟨fuel, x, hx⟩ := h
 obtain ⟨v, f', x', hv, hx'⟩ := trod_leaf n t lt fuel cs x j hl hx
 obtain ⟨z, hz, _, hwf⟩ := DataW.trod_int hu hx'
 simp only [List.cons.injEq, and_true] at hz
 subst hz
 exact ⟨z, hv, hwf⟩
theorem Tr.slice {n : Nat} {t lt e : TypeId} {cs : List Value} (h : Tr enc P w base spare held t cs) (j : Nat) (hl : leafTy P n t j = some lt) (hu : P.underlying lt = some (.slice e)) : ∃ A m c, cs[j]? = some (.slice A m c) ∧ Tr enc P w base spare held lt [.slice A m c] := by
 obtain ⟨fuel, x, hx⟩ := h
 obtain ⟨v, f', x', hv, hx'⟩ := trod_leaf n t lt fuel cs x j hl hx
 rcases open_slice hu hx' with ⟨he, _⟩ | ⟨a, len, cap, m, n, D, Pl, he, _⟩
 ·simp only [List.cons.injEq, and_true] at he
  subst he
  exact ⟨_, _, _, hv, f', x', hx'⟩
 ·simp only [List.cons.injEq, and_true] at he
  subst he
  exact ⟨_, _, _, hv, f', x', hx'⟩
theorem Tr.rows {t e : TypeId} {A : Option Addr} {len cap C : Nat} (h : Tr enc P w base spare held t [.slice A len cap]) (ht : P.underlying t = some (.slice e)) (hC : P.cellsOf e = C) (hpos : 0 < C) :
  len ≤ cap ∧ cap ≤ maxLen ∧ (0 < len → ∃ b o, A = some ⟨b, o, none⟩ ∧ b < w.heap.size ∧ ∀ k, k < len → ∃ cs : List Value, cs.length = C ∧ Tr enc P w base spare held e cs ∧ ∀ j u, cs[j]? = some u → w.cell? ⟨b, o + k * C + j, none⟩ = some u) := by
 obtain ⟨fuel, x, hx⟩ := h
 rcases open_slice ht hx with ⟨hcs, _⟩ | ⟨a, len', cap', m, n, D, Pl, hcs, hb, hl, hm, hmm, _, hi⟩
 ·simp only [List.cons.injEq, and_true, Value.slice.injEq] at hcs
  obtain ⟨rfl, rfl, rfl⟩ := hcs
  exact ⟨Nat.le_refl _, by unfold maxLen; omega, fun h => absurd h (by simp)⟩
 ·simp only [List.cons.injEq, and_true, Value.slice.injEq] at hcs
  obtain ⟨rfl, rfl, rfl⟩ := hcs
  have hlm : len ≤ m := by rw [hmm]; split <;> omega
  refine ⟨hl, hm, fun h0 => ?_⟩
  obtain ⟨b, o, s⟩ := a
  obtain ⟨cs0, hc0, _⟩ := hi 0 (by omega)
  rw [hC] at hc0
  obtain ⟨_, hcl, hat⟩ := World.cells?_some hc0
  have h1 := hat 0 (by omega)
  rw [List.getElem?_eq_getElem (by omega)] at h1
  have hs : s = none := by
   cases s with
   | none => rfl
   | some q =>
    exfalso
    simp [Addr.add, World.cell?] at h1
    split at h1 <;> simp at h1
  subst hs
  have hadd : ∀ x y : Nat, ((⟨b, o, none⟩ : Addr).add x).add y = ⟨b, o + x + y, none⟩ := fun x y => by
   unfold Addr.add
   by_cases hx : x = 0 <;> by_cases hy : y = 0 <;> simp [hx, hy]
  have hlt : b < w.heap.size := by
   have := block_lt_of_cell h1
   rw [hadd] at this
   exact this
  refine ⟨b, o, rfl, hlt, fun k hk => ?_⟩
  obtain ⟨cs, hc, ht'⟩ := hi k (by omega)
  rw [hC] at hc
  obtain ⟨_, hcl', hat'⟩ := World.cells?_some hc
  refine ⟨cs, hcl', ⟨_, _, ht'⟩, fun j u hu => ?_⟩
  have hj : j < C := by
   have := (List.getElem?_eq_some_iff.1 hu).1
   omega
  rw [← hadd, hat' j hj, hu]
theorem pick_list {α : Type} (Q : Nat → α → Prop) : ∀ n, (∀ i, i < n → ∃ x, Q i x) → ∃ l : List α, l.length = n ∧ ∀ i (hi : i < l.length), Q i l[i]
 | 0, _ => ⟨[], rfl, fun i hi => absurd hi (by simp)⟩
 | n + 1, h => by
  obtain ⟨l, hl, hp⟩ := pick_list Q n (fun i hi => h i (by omega))
  obtain ⟨x, hx⟩ := h n (by omega)
  refine ⟨l ++ [x], by simp [hl], fun i hi => ?_⟩
  by_cases hin : i < l.length
  ·rw [List.getElem_append_left hin]; exact hp i hin
  ·have : i = n := by simp at hi; omega
   subst this
   rw [List.getElem_append_right (by omega)]
   simpa [hl] using hx
theorem Tr.list {t e : TypeId} {A : Option Addr} {len cap C : Nat} (h : Tr enc P w base spare held t [.slice A len cap]) (ht : P.underlying t = some (.slice e)) (hC : P.cellsOf e = C) (hpos : 0 < C) {α : Type} (eα : α → List Value) (R : α → Prop)
  (hq : ∀ cs : List Value, cs.length = C → Tr enc P w base spare held e cs → ∃ a : α, eα a = cs ∧ R a) : ∃ l : List α, l.length = len ∧ Rd eα C w A cap l ∧ ∀ a ∈ l, R a := by
 obtain ⟨hl, hm, hr⟩ := h.rows ht hC hpos
 by_cases h0 : 0 < len
 ·obtain ⟨b, o, rfl, hb, hk⟩ := hr h0
  obtain ⟨l, hll, hp⟩ := pick_list (fun k (a : α) => R a ∧ ∀ j u, (eα a)[j]? = some u → w.cell? ⟨b, o + k * C + j, none⟩ = some u) len (fun k hkl => by
   obtain ⟨cs, h1, h2, h3⟩ := hk k hkl
   obtain ⟨a, ha, hR⟩ := hq cs h1 h2
   exact ⟨a, hR, by rw [ha]; exact h3⟩)
  refine ⟨l, hll, ⟨by omega, hm, fun _ => ⟨b, o, rfl, hb, fun k hkk j u hu => (hp k hkk).2 j u hu⟩⟩, fun a ha => ?_⟩
  obtain ⟨i, hi, rfl⟩ := List.getElem_of_mem ha
  exact (hp i hi).1
 ·obtain rfl : len = 0 := by omega
  exact ⟨[], rfl, ⟨by simp, hm, fun h => absurd h (by simp)⟩, by simp⟩
end
theorem list2 {α : Type} {l : List α} (h : l.length = 2) : ∃ a b, l = [a, b] := by match l, h with | [a, b], _ => exact ⟨a, b, rfl⟩
theorem list3 {α : Type} {l : List α} (h : l.length = 3) : ∃ a b c, l = [a, b, c] := by match l, h with | [a, b, c], _ => exact ⟨a, b, c, rfl⟩
theorem list5 {α : Type} {l : List α} (h : l.length = 5) : ∃ a b c d e, l = [a, b, c, d, e] := by match l, h with | [a, b, c, d, e], _ => exact ⟨a, b, c, d, e, rfl⟩
theorem list10 {α : Type} {l : List α} (h : l.length = 10) : ∃ a b c d e f g i j k, l = [a, b, c, d, e, f, g, i, j, k] := by match l, h with | [a, b, c, d, e, f, g, i, j, k], _ => exact ⟨a, b, c, d, e, f, g, i, j, k, rfl⟩
section
variable {H : Type} {enc : TypeId × Value → H} {w : World} {base : Nat} {spare : Nat → Bool} {held : Bool}
theorem tr_cells {A : Option Addr} {n c : Nat} (h : Tr enc Tryz.prog w base spare held 22 [.slice A n c]) : ∃ l : List Cel, l.length = n ∧ Rd Cel.enc 2 w A c l := by
 obtain ⟨l, h1, h2, _⟩ := h.list Tryz.underlying22 (e := 190) (C := 2) (by kernel_rfl) (by decide) Cel.enc (fun _ => True) (fun cs hl ht => by
  obtain ⟨x0, e0, _⟩ := ht.int (n := 3) (lt := 3) 0 (by kernel_rfl) Tryz.underlying3
  obtain ⟨x1, e1, _⟩ := ht.int (n := 3) (lt := 3) 1 (by kernel_rfl) Tryz.underlying3
  obtain ⟨a, b, rfl⟩ := list2 hl
  simp at e0 e1
  subst e0 e1
  exact ⟨⟨x0, x1⟩, rfl, trivial⟩)
 exact ⟨l, h1, h2⟩
theorem tr_seats {A : Option Addr} {n c : Nat} (h : Tr enc Tryz.prog w base spare held 23 [.slice A n c]) : ∃ l : List Sea, l.length = n ∧ Rd Sea.enc 3 w A c l := by
 obtain ⟨l, h1, h2, _⟩ := h.list Tryz.underlying23 (e := 192) (C := 3) (by kernel_rfl) (by decide) Sea.enc (fun _ => True) (fun cs hl ht => by
  obtain ⟨x0, e0, _⟩ := ht.int (n := 3) (lt := 3) 0 (by kernel_rfl) Tryz.underlying3
  obtain ⟨x1, e1, _⟩ := ht.int (n := 3) (lt := 3) 1 (by kernel_rfl) Tryz.underlying3
  obtain ⟨x2, e2, _⟩ := ht.int (n := 3) (lt := 3) 2 (by kernel_rfl) Tryz.underlying3
  obtain ⟨a, b, c, rfl⟩ := list3 hl
  simp at e0 e1 e2
  subst e0 e1 e2
  exact ⟨⟨x0, x1, x2⟩, rfl, trivial⟩)
 exact ⟨l, h1, h2⟩
theorem tr_ents {A : Option Addr} {n c : Nat} (h : Tr enc Tryz.prog w base spare held 26 [.slice A n c]) : ∃ l : List Ent, l.length = n ∧ Rd Ent.enc 5 w A c l := by
 obtain ⟨l, h1, h2, _⟩ := h.list Tryz.underlying26 (e := 173) (C := 5) (by kernel_rfl) (by decide) Ent.enc (fun _ => True) (fun cs hl ht => by
  obtain ⟨x0, e0, _⟩ := ht.int (n := 4) (lt := 3) 0 (by kernel_rfl) Tryz.underlying3
  obtain ⟨x1, e1, _⟩ := ht.int (n := 4) (lt := 3) 1 (by kernel_rfl) Tryz.underlying3
  obtain ⟨x2, e2, _⟩ := ht.int (n := 4) (lt := 3) 2 (by kernel_rfl) Tryz.underlying3
  obtain ⟨x3, e3, _⟩ := ht.int (n := 4) (lt := 3) 3 (by kernel_rfl) Tryz.underlying3
  obtain ⟨x4, e4, _⟩ := ht.int (n := 4) (lt := 3) 4 (by kernel_rfl) Tryz.underlying3
  obtain ⟨a, b, c, d, e, rfl⟩ := list5 hl
  simp at e0 e1 e2 e3 e4
  subst e0 e1 e2 e3 e4
  exact ⟨⟨x0, x1, x2, x3, x4⟩, rfl, trivial⟩)
 exact ⟨l, h1, h2⟩
theorem tr_log {t : TypeId} {cs : List Value} (h : Tr enc Tryz.prog w base spare held t cs) (j : Nat) (h0 : leafTy Tryz.prog 5 t j = some 3) (h1 : leafTy Tryz.prog 5 t (j + 1) = some 22) (h2 : leafTy Tryz.prog 5 t (j + 2) = some 23) (h3 : leafTy Tryz.prog 5 t (j + 3) = some 26) :
  ∃ (a : LAd) (l : Lg), LgR w a l ∧ cs[j]? = some (.int .i64 l.base) ∧ cs[j + 1]? = some (.slice a.cA l.cells.length a.cc) ∧ cs[j + 2]? = some (.slice a.sA l.seats.length a.sc) ∧ cs[j + 3]? = some (.slice a.eA l.ents.length a.ec) := by
 obtain ⟨b, e0, _⟩ := h.int j h0 Tryz.underlying3
 obtain ⟨A1, n1, c1, e1, t1⟩ := h.slice (j + 1) h1 Tryz.underlying22
 obtain ⟨A2, n2, c2, e2, t2⟩ := h.slice (j + 2) h2 Tryz.underlying23
 obtain ⟨A3, n3, c3, e3, t3⟩ := h.slice (j + 3) h3 Tryz.underlying26
 obtain ⟨l1, rfl, r1⟩ := tr_cells t1
 obtain ⟨l2, rfl, r2⟩ := tr_seats t2
 obtain ⟨l3, rfl, r3⟩ := tr_ents t3
 exact ⟨⟨A1, c1, A2, c2, A3, c3⟩, ⟨b, l1, l2, l3⟩, ⟨r1, r2, r3⟩, e0, e1, e2, e3⟩
theorem tr_votes {A : Option Addr} {n c : Nat} (h : Tr enc Tryz.prog w base spare held 29 [.slice A n c]) : ∃ ps : List VtE, ps.length = n ∧ VsR w A c ps := by
 obtain ⟨l, h1, h2, h3⟩ := h.list Tryz.underlying29 (e := 131) (C := 10) (by kernel_rfl) (by decide) VtE.enc (fun p => LgR w p.1 p.2.log) (fun cs hl ht => by
  obtain ⟨x0, e0, _⟩ := ht.int (n := 4) (lt := 3) 0 (by kernel_rfl) Tryz.underlying3
  obtain ⟨x1, e1, _⟩ := ht.int (n := 4) (lt := 3) 1 (by kernel_rfl) Tryz.underlying3
  obtain ⟨x2, e2, _⟩ := ht.int (n := 4) (lt := 3) 2 (by kernel_rfl) Tryz.underlying3
  obtain ⟨x3, e3, _⟩ := ht.int (n := 4) (lt := 3) 3 (by kernel_rfl) Tryz.underlying3
  obtain ⟨x4, e4, _⟩ := ht.int (n := 4) (lt := 3) 4 (by kernel_rfl) Tryz.underlying3
  obtain ⟨x5, e5, _⟩ := ht.int (n := 4) (lt := 3) 5 (by kernel_rfl) Tryz.underlying3
  obtain ⟨a, l, hr, e6, e7, e8, e9⟩ := tr_log ht 6 (by kernel_rfl) (by kernel_rfl) (by kernel_rfl) (by kernel_rfl)
  obtain ⟨y0, y1, y2, y3, y4, y5, y6, y7, y8, y9, rfl⟩ := list10 hl
  simp at e0 e1 e2 e3 e4 e5 e6 e7 e8 e9
  subst e0 e1 e2 e3 e4 e5 e6 e7 e8 e9
  exact ⟨(a, ⟨x0, x1, x2, x3, x4, x5, l⟩), rfl, hr⟩)
 exact ⟨l, h1, h2, h3⟩
end
theorem list13 {α : Type} {l : List α} (h : l.length = 13) : ∃ a b c d e f g i j k m n o, l = [a, b, c, d, e, f, g, i, j, k, m, n, o] := by match l, h with | [a, b, c, d, e, f, g, i, j, k, m, n, o], _ => exact ⟨a, b, c, d, e, f, g, i, j, k, m, n, o, rfl⟩
theorem list17 {α : Type} {l : List α} (h : l.length = 17) : ∃ a b c d e f g i j k m n o p q r s, l = [a, b, c, d, e, f, g, i, j, k, m, n, o, p, q, r, s] := by match l, h with | [a, b, c, d, e, f, g, i, j, k, m, n, o, p, q, r, s], _ => exact ⟨a, b, c, d, e, f, g, i, j, k, m, n, o, p, q, r, s, rfl⟩
section
variable {H : Type} {enc : TypeId × Value → H} {w : World} {base : Nat} {spare : Nat → Bool} {held : Bool}
set_option maxRecDepth 100000 in
theorem open_Msg {v : Value} {d : DataW H} {p : List MemPlace} {b0 : Nat}
  (hv : Value.okWide Tryz.prog w .any b0 53 v) (h : DataW.Trod enc Tryz.prog w base spare held 53 v d p) : ∃ a m, v = Mg.val a m ∧ LgR w a m.log := by
 obtain ⟨cs, rfl, hsz⟩ := okWide_struct Tryz.underlying53 hv
 obtain ⟨fuel, hf⟩ := h
 have ht : Tr enc Tryz.prog w base spare held 53 cs.toList := ⟨fuel, _, hf⟩
 have hl : cs.toList.length = 17 := by rw [Array.length_toList, hsz]; kernel_rfl
 obtain ⟨x0, e0, _⟩ := ht.int (n := 4) (lt := 3) 0 (by kernel_rfl) Tryz.underlying3
 obtain ⟨x1, e1, _⟩ := ht.int (n := 4) (lt := 3) 1 (by kernel_rfl) Tryz.underlying3
 obtain ⟨x2, e2, _⟩ := ht.int (n := 4) (lt := 3) 2 (by kernel_rfl) Tryz.underlying3
 obtain ⟨x3, e3, _⟩ := ht.int (n := 4) (lt := 3) 3 (by kernel_rfl) Tryz.underlying3
 obtain ⟨x4, e4, _⟩ := ht.int (n := 4) (lt := 3) 4 (by kernel_rfl) Tryz.underlying3
 obtain ⟨x5, e5, _⟩ := ht.int (n := 4) (lt := 3) 5 (by kernel_rfl) Tryz.underlying3
 obtain ⟨x6, e6, _⟩ := ht.int (n := 4) (lt := 3) 6 (by kernel_rfl) Tryz.underlying3
 obtain ⟨x7, e7, _⟩ := ht.int (n := 4) (lt := 3) 7 (by kernel_rfl) Tryz.underlying3
 obtain ⟨x8, e8, _⟩ := ht.int (n := 4) (lt := 3) 8 (by kernel_rfl) Tryz.underlying3
 obtain ⟨x9, e9, _⟩ := ht.int (n := 4) (lt := 3) 9 (by kernel_rfl) Tryz.underlying3
 obtain ⟨x10, e10, _⟩ := ht.int (n := 4) (lt := 3) 10 (by kernel_rfl) Tryz.underlying3
 obtain ⟨x11, e11, _⟩ := ht.int (n := 4) (lt := 3) 11 (by kernel_rfl) Tryz.underlying3
 obtain ⟨x12, e12, _⟩ := ht.int (n := 4) (lt := 3) 12 (by kernel_rfl) Tryz.underlying3
 obtain ⟨a, l, hr, e13, e14, e15, e16⟩ := tr_log ht 13 (by kernel_rfl) (by kernel_rfl) (by kernel_rfl) (by kernel_rfl)
 obtain ⟨y0, y1, y2, y3, y4, y5, y6, y7, y8, y9, y10, y11, y12, y13, y14, y15, y16, hy⟩ := list17 hl
 rw [hy] at e0 e1 e2 e3 e4 e5 e6 e7 e8 e9 e10 e11 e12 e13 e14 e15 e16
 simp at e0 e1 e2 e3 e4 e5 e6 e7 e8 e9 e10 e11 e12 e13 e14 e15 e16
 subst e0 e1 e2 e3 e4 e5 e6 e7 e8 e9 e10 e11 e12 e13 e14 e15 e16
 exact ⟨a, ⟨x0, x1, x2, x3, x4, x5, x6, x7, x8, x9, x10, x11, x12, l⟩, congrArg Value.agg (Array.ext' hy), hr⟩
set_option maxRecDepth 100000 in
theorem open_Replica {v : Value} {d : DataW H} {p : List MemPlace} {b0 : Nat}
  (hv : Value.okWide Tryz.prog w .any b0 31 v) (h : DataW.Trod enc Tryz.prog w base spare held 31 v d p) : ∃ a A c ps r, v = Rp.val a A (List.length ps) c r ∧ RpR w a A c ps r := by
 obtain ⟨cs, rfl, hsz⟩ := okWide_struct Tryz.underlying31 hv
 obtain ⟨fuel, hf⟩ := h
 have ht : Tr enc Tryz.prog w base spare held 31 cs.toList := ⟨fuel, _, hf⟩
 have hl : cs.toList.length = 13 := by rw [Array.length_toList, hsz]; kernel_rfl
 obtain ⟨x0, e0, _⟩ := ht.int (n := 4) (lt := 3) 0 (by kernel_rfl) Tryz.underlying3
 obtain ⟨x1, e1, _⟩ := ht.int (n := 4) (lt := 3) 1 (by kernel_rfl) Tryz.underlying3
 obtain ⟨x2, e2, _⟩ := ht.int (n := 4) (lt := 3) 2 (by kernel_rfl) Tryz.underlying3
 obtain ⟨x3, e3, _⟩ := ht.int (n := 4) (lt := 3) 3 (by kernel_rfl) Tryz.underlying3
 obtain ⟨x4, e4, _⟩ := ht.int (n := 4) (lt := 3) 4 (by kernel_rfl) Tryz.underlying3
 obtain ⟨x5, e5, _⟩ := ht.int (n := 4) (lt := 3) 5 (by kernel_rfl) Tryz.underlying3
 obtain ⟨a, l, hr, e6, e7, e8, e9⟩ := tr_log ht 6 (by kernel_rfl) (by kernel_rfl) (by kernel_rfl) (by kernel_rfl)
 obtain ⟨A, n, c, e10, tv⟩ := ht.slice (n := 4) (lt := 29) 10 (by kernel_rfl) Tryz.underlying29
 obtain ⟨ps, rfl, hvs⟩ := tr_votes tv
 obtain ⟨x11, e11, _⟩ := ht.int (n := 4) (lt := 3) 11 (by kernel_rfl) Tryz.underlying3
 obtain ⟨x12, e12, _⟩ := ht.int (n := 4) (lt := 3) 12 (by kernel_rfl) Tryz.underlying3
 obtain ⟨y0, y1, y2, y3, y4, y5, y6, y7, y8, y9, y10, y11, y12, hy⟩ := list13 hl
 rw [hy] at e0 e1 e2 e3 e4 e5 e6 e7 e8 e9 e10 e11 e12
 simp at e0 e1 e2 e3 e4 e5 e6 e7 e8 e9 e10 e11 e12
 subst e0 e1 e2 e3 e4 e5 e6 e7 e8 e9 e10 e11 e12
 exact ⟨a, A, c, ps, ⟨x0, x1, x2, x3, x4, x5, l, ps.map Prod.snd, x11, x12⟩, congrArg Value.agg (Array.ext' hy), ⟨hr, hvs, rfl⟩⟩
end
theorem lgN_small {l : Lg} {n : Nat} (h : lgN l ≤ n) (hn : n ≤ 1048576) : l.small := by unfold lgN at h; unfold Lg.small; omega
theorem vsN_small (ps : List VtE) (n : Nat) (h : ps.length + vsN ps ps.length ≤ n) (hn : n ≤ 1048576) : LgS ps := fun p hp => by
 obtain ⟨k, hk, rfl⟩ := List.mem_iff_getElem.1 hp
 have h1 := vsN_next hk
 have h2 := vsN_up ps (k + 1) (ps.length - (k + 1))
 rw [show k + 1 + (ps.length - (k + 1)) = ps.length by omega] at h2
 exact lgN_small (n := n) (by omega) hn
theorem vsN_congr {ps qs : List VtE} (h : ps.map Prod.snd = qs.map Prod.snd) : ∀ k, vsN ps k = vsN qs k
 | 0 => rfl
 | k + 1 => by
  have ih := vsN_congr h k
  have hat : ps[k]?.map Prod.snd = qs[k]?.map Prod.snd := by
   have := congrArg (fun l => l[k]?) h
   simpa using this
  unfold vsN
  rw [ih]
  congr 1
  revert hat
  cases ps[k]? <;> cases qs[k]? <;> intro hat
  ·rfl
  ·simp at hat
  ·simp at hat
  ·simp at hat
   simp only [hat]
end Go.Proofs.YtkenlhdiehaemaaGreat
namespace Go.Proofs.YtkenlhdiehaemaaGreat
open Go.ChangeShapes Go.WideShapes Go.ChangeAt Go.RowKit Go.Sort
set_option linter.unusedVariables false
set_option linter.unusedSimpArgs false
def rpK (k : Int) (ps : List VtE) (r : Rp) : Int := VtE.Ks (k + r.log.mN) ps ps.length
structure RpH (w : World) (a : LAd) (A : Option Addr) (c : Nat) (ps : List VtE) (r : Rp) (k : Int) : Prop where
 l : LgR w a (r.log.mk' k r.log.base)
 v : VsR w A c (VtE.mks (k + r.log.mN) ps)
theorem RpH.keep {w w' : World} {a : LAd} {A : Option Addr} {c : Nat} {ps : List VtE} {r : Rp} {k : Int} (h : RpH w a A c ps r k) (hx : Ext w w') : RpH w' a A c ps r k := ⟨h.l.keep hx, h.v.keep hx⟩
set_option maxHeartbeats 1000000 in
theorem c_markReplica (a : LAd) (A : Option Addr) (c : Nat) (ps : List VtE) (r : Rp) (B T : Nat) (k : Int) (w : World) (h : RpO w B T a A c ps r) (h0 : 0 ≤ k) (hk : rpK k ps r ≤ 1000000000) (hs : r.log.small) (hv : LgS ps) (hn : ps.length ≤ 1048576) :
  Calls Tryz.prog 18 #[Rp.val a A ps.length c r, .int .i64 k] w fun e w' => e = .returned (.int .i64 (rpK k ps r)) ∧ RpH w' a A c ps r k ∧ Chg w w' (a.fp ++ vsF A ps) := by
 have X0 := ext_alloc w (Rp.obj a A ps.length c r)
 have hm := r.log.mN_pos
 have hg := VtE.Ks_ge (k + r.log.mN) ps ps.length
 have hk1 : k ≤ 1000000000 := by unfold rpK at hk; omega
 have H := Hd h
 have HL := Hd (h.l.kept X0)
 have HV := Hd (h.v.kept X0)
 have HS := Hd hs
 have HVS := Hd hv
 have HK := Hd hk
 clear h hs hv hk hg
 go_enter Tryz.func18, Tryz.ntmps18
 go_wp2_with fail
 refine (c_markLog a r.log B T k _ HL.out h0 hk1 HS.out).mono ?_
 rintro e w1 ⟨rfl, o1, c1⟩
 have B1 := (c1.block w.heap.size (by simp) (fun hm => by have := H.out.l.lt _ hm; omega)).trans (hNew (w := w) (o := Rp.obj a A ps.length c r) rfl)
 have b1 := bx_cell B1
 have f1 := bx_frozen B1
 have z1 := bx_lt B1
 have O1 := Hd o1
 have C1 := Hd c1
 have HV1 := Hd (HV.out.chg c1 (fun x hx hm => H.out.d x hm hx))
 clear o1 c1 B1
 go_wp2_with fail
 refine (c_markVoteS A c ps B T (k + r.log.mN) _ HV1.out (by omega) HK.out HVS.out hn).mono ?_
 rintro e w2 ⟨rfl, o2, c2⟩
 have O2 := Hd o2
 have C2 := Hd (show Chg w1 w2 (vsF A ps) from c2)
 clear o2 c2
 go_wp2
 go_ret
 refine ⟨rfl, ⟨(O1.out.chg C2.out (fun x hx hm => H.out.d x hx hm)).rd, O2.out.rd⟩, ?_⟩
 exact (chg_ext _ X0).trans ((C1.out.more (fun x hx => List.mem_append_left _ hx)).trans (C2.out.more (fun x hx => List.mem_append_right _ hx)))
set_option maxHeartbeats 1000000 in
theorem c_heldReplica (a : LAd) (A : Option Addr) (c : Nat) (ps : List VtE) (r : Rp) (k : Int) (w : World) (h : RpH w a A c ps r k) (h0 : 0 ≤ k) (hk : rpK k ps r ≤ 1000000000) (hs : r.log.small) (hv : LgS ps) (hn : ps.length ≤ 1048576) :
  Calls Tryz.prog 29 #[Rp.val a A ps.length c r, .int .i64 k] w fun e w' => e = .returned (.int .i64 (rpK k ps r)) ∧ Ext w w' := by
 have X0 := ext_alloc w (Rp.obj a A ps.length c r)
 have hm := r.log.mN_pos
 have hg := VtE.Ks_ge (k + r.log.mN) ps ps.length
 have hg2 : 0 ≤ rpK k ps r := by unfold rpK; omega
 have hk1 : k + r.log.mN ≤ 1000000000 := by unfold rpK at hk; omega
 have g1 : decide (k + r.log.mN < 0) = false := by simp; omega
 have g2 : decide (rpK k ps r < 0) = false := by simp; omega
 have H := Hd (h.keep X0)
 have HS := Hd hs
 have HVS := Hd hv
 have HK := Hd hk
 clear h hs hv hk hg hg2
 go_enter Tryz.func29, Tryz.ntmps29
 go_wp2_with fail
 refine (c_heldLog a r.log.base r.log k _ H.out.l h0 (by omega) HS.out).mono ?_
 rintro e w1 ⟨rfl, x1⟩
 have B1 := x1.box (hNew (w := w) (o := Rp.obj a A ps.length c r) rfl)
 have b1 := bx_cell B1
 have f1 := bx_frozen B1
 have z1 := bx_lt B1
 clear B1
 go_wp2_with fail
 refine (c_heldVoteS A c ps (k + r.log.mN) _ (H.out.v.keep x1) (by omega) HK.out HVS.out hn).mono ?_
 rintro e w2 ⟨rfl, x2⟩
 rw [show VtE.Ks (k + r.log.mN) ps ps.length = rpK k ps r from rfl]
 go_wp2
 go_ret
 exact ⟨rfl, Ext.trans X0 (Ext.trans x1 x2)⟩
theorem LgS.congr {ps qs : List VtE} (h : ps.map Prod.snd = qs.map Prod.snd) (hs : LgS ps) : LgS qs := fun q hq => by
 have h1 : q.2 ∈ qs.map Prod.snd := List.mem_map_of_mem hq
 rw [← h] at h1
 obtain ⟨p, hp, he⟩ := List.mem_map.1 h1
 rw [← he]
 exact hs p hp
theorem mN_lgN (l : Lg) : l.mN ≤ 5 * lgN l := by unfold Lg.mN lgN; omega
theorem Ks_bound (k : Int) (ps : List VtE) : ∀ j, j ≤ ps.length → VtE.Ks k ps j ≤ k + 7 * j + 5 * vsN ps j
 | 0, _ => by simp [VtE.Ks, vsN]
 | j + 1, hj => by
  have ih := Ks_bound k ps j (by omega)
  have h1 := VtE.Ks_next k (ps := ps) (j := j) (by omega)
  have h2 := vsN_next (ps := ps) (k := j) (by omega)
  have h3 := mN_lgN (ps[j]'(by omega)).2.log
  have h4 : (ps[j]'(by omega)).2.mN = 7 + (ps[j]'(by omega)).2.log.mN := rfl
  rw [h1, h2, h4]
  omega
theorem rpK_pos {ps : List VtE} {r : Rp} : 0 ≤ rpK 1 ps r := by
 have h1 := VtE.Ks_ge (1 + r.log.mN) ps ps.length
 have h2 := r.log.mN_pos
 unfold rpK
 omega
def RpV (n : Nat) (r : Rp) (v : Value) (w : World) : Prop := ∃ a g qs, v = Rp.val a (some ⟨g, 0, none⟩) n n r ∧ List.length qs = n ∧ RpR w a (some ⟨g, 0, none⟩) n qs r
theorem RpV.mono (n : Nat) (r : Rp) : Mono (RpV n r) := fun v w w' ⟨a, g, qs, h, hl, hr⟩ hx => ⟨a, g, qs, h, hl, hr.keep hx⟩
theorem c_eqAnew (a : LAd) (A : Option Addr) (c : Nat) (qs : List VtE) (r : Rp) (n : Nat) (hl : r.log.small) (w : World) (ha : RpR w a A c qs r) (hqn : qs.length = n) (hn : n ≤ 1048576) (hv : LgS qs) (v : Value) (hvr : RpV n r v w) :
  Calls Tryz.prog 17 #[Rp.val a A n c r, v] w fun e w' => e = .returned (.bool true) ∧ Ext w w' := by
 obtain ⟨b, g, rs, rfl, hrl, hb⟩ := hvr
 subst hqn
 have := c_eqReplica_same a b A (some ⟨g, 0, none⟩) c qs.length qs rs r hl w ha hb hn hv
 rw [hrl] at this
 exact this
theorem RpO.fp_in {w : World} {B T : Nat} {a : LAd} {A : Option Addr} {c : Nat} {ps : List VtE} {r : Rp} (h : RpO w B T a A c ps r) : ∀ k ∈ a.fp ++ vsF A ps, B ≤ k ∧ k < T := fun k hk => by
 rcases List.mem_append.1 hk with hk | hk
 ·exact ⟨h.l.low k hk, h.l.top k hk⟩
 ·exact ⟨(h.v.low k hk).1, h.v.top k hk⟩
end Go.Proofs.YtkenlhdiehaemaaGreat
