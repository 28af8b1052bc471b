/- The frame of every law's proof: what the row asks behind a walk that returns true and only makes new memory. -/
import Derived.Test.YtmphedkbdlckhaaGreatRows
import Derived.Test.YtmphedkbdlckhaaGreatPk1
import Derived.OpenShut
import Derived.Carry
import Derived.Lib.SmallJoins
import Derived.Deep.Slices
import Derived.Deep.Fields
import Derived.Test.YtmphedkbdlckhaaGreatPk3
import Derived.Test.YtmphedkbdlckhaaGreatPk10
namespace Go.Proofs.YtmphedkbdlckhaaGreat
open Go.ChangeShapes Go.WideShapes Go.ChangeAt Go.RowKit Go.Joins Go.Deep
set_option linter.unusedVariables false
theorem own : ownKnob Tryz.prog.godebug = none := by kernel_rfl
theorem laidOut : laidOutB Tryz.prog = true := by kernel_rfl
theorem trodAll_stays {P : Program} (laid : laidOutB P = true) {H : Type} {enc : TypeId × Value → H} {W W' : World} (hx : Ext W W') : ∀ (ts : List TypeId) (vs : List Value) (ds : List (DataW H)) (ps : List MemPlace),
  (ts.all fun t => P.readableRec t && decide (t < P.types.size)) = true → (∀ x ∈ ps, x.block < W.heap.size) → DataW.TrodAll enc P W 0 (fun _ => true) true ts vs ds ps →
  DataW.TrodAll enc P W' 0 (fun b => decide (b < W.heap.size)) true ts vs ds ps
 | [], [], [], ps, _, _, h => h
 | t :: ts, v :: vs, d :: ds, ps, hr, hlt, h => by
  obtain ⟨p, q, h1, h2, rfl⟩ := h
  simp only [List.all_cons, Bool.and_eq_true, decide_eq_true_eq] at hr
  exact ⟨p, q, Below.trod laid hr.1.1 hr.1.2 h1 hx (fun x hx => hlt x (List.mem_append_left _ hx)), trodAll_stays laid hx ts vs ds q hr.2 (fun x hx => hlt x (List.mem_append_right _ hx)) h2, rfl⟩
 | [], [], _ :: _, _, _, _, h => h.elim
 | [], _ :: _, [], _, _, _, h => h.elim
 | [], _ :: _, _ :: _, _, _, _, h => h.elim
 | _ :: _, [], [], _, _, _, h => h.elim
 | _ :: _, [], _ :: _, _, _, _, h => h.elim
 | _ :: _, _ :: _, [], _, _, _, h => h.elim
theorem law_post {P : Program} {T : TypeId} (laid : laidOutB P = true) (hbool : P.underlying T = some .bool) {H : Type} {enc : TypeId × Value → H} {s : ChangeSpec} {f : Func} {W W' : World} {args : Array Value} {ds : List (DataW H)} {before : List MemPlace}
  (hW : DataW.Whole enc P f.params.toList s.vars false W args.toList ds [] before) (hx : Ext W W') (hv : s.vars = []) (hr : (s.fn H (ds ++ [])).results = [.lit (.bool true)]) (ha : (s.fn H (ds ++ [])).args = ds) (hvs : (s.fn H (ds ++ [])).vars = [])
  (hts : (f.params.toList.all fun t => P.readableRec t && decide (t < P.types.size)) = true) (hres : f.resultTypes = #[T]) :
  s.post enc P f false true false false W args (.bool true) W' := by
 have hlt : ∀ x ∈ before, x.block < W.heap.size := fun x hx => hW.lt x hx
 have hW2 := hW
 obtain ⟨p, q, hA, hV, rfl, hfz, hnd⟩ := hW
 have hq : q = [] := by
  rw [hv] at hV
  exact hV
 subst hq
 refine ⟨ds, [], _, [], p, [], hW2, ?_, ?_, ?_, hx.frame _, fun h => by cases h⟩
 ·rw [hr, hres]
  exact trodAll_mk1 (shut_bool hbool _)
 ·rw [ha]
  exact trodAll_stays laid hx _ _ _ _ hts (fun x hx => hlt x (List.mem_append_left _ hx)) hA
 ·rw [hvs, hv]
  rfl
def leafTy (P : Program) : Nat → TypeId → Nat → Option TypeId
 | 0, _, _ => none
 | n + 1, t, j => match P.underlying t with
  | some (.struct fs) => match (List.range fs.size).find? (fun i => match fs[i]? with | some f => decide (f.offset ≤ j) && decide (j < f.offset + P.cellsOf f.type) | none => false) with
   | some i => match fs[i]? with
    | some f => leafTy P n f.type (j - f.offset)
    | none => none
   | none => none
  | some (.int .i64) => if j = 0 then some t else none
  | some (.slice _) => if j = 0 then some t else none
  | some .string => if j = 0 then some t else none
  | _ => none
theorem trod_leaf {H : Type} {enc : TypeId × Value → H} {P : Program} {w : World} {base : Nat} {spare : Nat → Bool} {held : Bool} : ∀ (n : Nat) (t lt : TypeId) (fuel : Nat) (cs : List Value) (x : DataW H × List MemPlace) (j : Nat),
  leafTy P n t j = some lt → DataW.trod enc P w base spare held fuel t cs = some x → ∃ (v : Value) (fuel' : Nat) (x' : DataW H × List MemPlace), cs[j]? = some v ∧ DataW.trod enc P w base spare held fuel' lt [v] = some x'
 | 0, _, _, _, _, _, _, h, _ => by simp [leafTy] at h
 | n + 1, t, lt, fuel, cs, x, j, h, ht => by
  unfold leafTy at h
  split at h
  ·rename_i fs hu
   split at h
   ·rename_i i hfi
    have hp := List.find?_some hfi
    have hm := List.mem_of_find?_eq_some hfi
    split at h
    ·rename_i f hf
     rw [hf] at hp
     simp only [Bool.and_eq_true, decide_eq_true_eq] at hp
     obtain ⟨ys, m, rfl, hy, hlen, hyl, hff⟩ := DataW.trod_struct hu ht
     have h6 := hff i f hf
     have hil : i < ys.length := by rw [hyl]; exact (List.mem_range.1 hm)
     rw [List.getElem?_eq_getElem hil] at h6
     obtain ⟨v, f', x', hv, hx'⟩ := trod_leaf n f.type lt m _ _ (j - f.offset) h h6
     refine ⟨v, f', x', ?_, hx'⟩
     rw [List.getElem?_take, List.getElem?_drop] at hv
     split at hv
     ·rwa [show f.offset + (j - f.offset) = j by omega] at hv
     ·cases hv
    ·cases h
   ·cases h
  ·rename_i hu
   split at h
   ·simp only [Option.some.injEq] at h
    subst h
    rename_i hj
    subst hj
    obtain ⟨z, rfl, _⟩ := DataW.trod_int hu ht
    exact ⟨_, _, _, rfl, ht⟩
   ·cases h
  ·rename_i e hu
   split at h
   ·simp only [Option.some.injEq] at h
    subst h
    rename_i hj
    subst hj
    rcases open_slice hu ht with ⟨rfl, _⟩ | ⟨a, len, cap, m, n, D, Pl, rfl, _⟩
    ·exact ⟨_, _, _, rfl, ht⟩
    ·exact ⟨_, _, _, rfl, ht⟩
   ·cases h
  ·rename_i hu
   split at h
   ·simp only [Option.some.injEq] at h
    subst h
    rename_i hj
    subst hj
    obtain ⟨s, rfl, _⟩ := DataW.trod_string hu ht
    exact ⟨_, _, _, rfl, ht⟩
   ·cases h
  ·cases h
section
variable {H : Type} {enc : TypeId × Value → H} {P : Program} {w : World} {base : Nat} {spare : Nat → Bool} {held : Bool}
def Tr (enc : TypeId × Value → H) (P : Program) (w : World) (base : Nat) (spare : Nat → Bool) (held : Bool) (t : TypeId) (cs : List Value) : Prop := ∃ fuel x, DataW.trod enc P w base spare held fuel t cs = some x
theorem Tr.int {n : Nat} {t lt : TypeId} {cs : List Value} (h : Tr enc P w base spare held t cs) (j : Nat) (hl : leafTy P n t j = some lt) (hu : P.underlying lt = some (.int .i64)) : ∃ z : Int, cs[j]? = some (.int .i64 z) ∧ (Lit.int .i64 z).wf = true := by
 obtain ⟨fuel, x, hx⟩ := h
 obtain ⟨v, f', x', hv, hx'⟩ := trod_leaf n t lt fuel cs x j hl hx
 obtain ⟨z, hz, _, hwf⟩ := DataW.trod_int hu hx'
 simp only [List.cons.injEq, and_true] at hz
 subst hz
 exact ⟨z, hv, hwf⟩
theorem Tr.str {n : Nat} {t lt : TypeId} {cs : List Value} (h : Tr enc P w base spare held t cs) (j : Nat) (hl : leafTy P n t j = some lt) (hu : P.underlying lt = some .string) : ∃ s : ByteArray, cs[j]? = some (.string s) ∧ s.size ≤ maxLen := by
 obtain ⟨fuel, x, hx⟩ := h
 obtain ⟨v, f', x', hv, hx'⟩ := trod_leaf n t lt fuel cs x j hl hx
 obtain ⟨s, hs, _, hsz⟩ := DataW.trod_string hu hx'
 simp only [List.cons.injEq, and_true] at hs
 subst hs
 exact ⟨s, hv, hsz⟩
theorem Tr.slice {n : Nat} {t lt e : TypeId} {cs : List Value} (h : Tr enc P w base spare held t cs) (j : Nat) (hl : leafTy P n t j = some lt) (hu : P.underlying lt = some (.slice e)) : ∃ A m c, cs[j]? = some (.slice A m c) ∧ Tr enc P w base spare held lt [.slice A m c] := by
 obtain ⟨fuel, x, hx⟩ := h
 obtain ⟨v, f', x', hv, hx'⟩ := trod_leaf n t lt fuel cs x j hl hx
 rcases open_slice hu hx' with ⟨he, _⟩ | ⟨a, len, cap, m, n, D, Pl, he, _⟩
 ·simp only [List.cons.injEq, and_true] at he
  subst he
  exact ⟨_, _, _, hv, f', x', hx'⟩
 ·simp only [List.cons.injEq, and_true] at he
  subst he
  exact ⟨_, _, _, hv, f', x', hx'⟩
theorem Tr.rows {t e : TypeId} {A : Option Addr} {len cap C : Nat} (h : Tr enc P w base spare held t [.slice A len cap]) (ht : P.underlying t = some (.slice e)) (hC : P.cellsOf e = C) (hpos : 0 < C) :
  len ≤ cap ∧ cap ≤ maxLen ∧ (0 < len → ∃ b o, A = some ⟨b, o, none⟩ ∧ b < w.heap.size ∧ ∀ k, k < len → ∃ cs : List Value, cs.length = C ∧ Tr enc P w base spare held e cs ∧ ∀ j u, cs[j]? = some u → w.cell? ⟨b, o + k * C + j, none⟩ = some u) := by
 obtain ⟨fuel, x, hx⟩ := h
 rcases open_slice ht hx with ⟨hcs, _⟩ | ⟨a, len', cap', m, n, D, Pl, hcs, hb, hl, hm, hmm, _, hi⟩
 ·simp only [List.cons.injEq, and_true, Value.slice.injEq] at hcs
  obtain ⟨rfl, rfl, rfl⟩ := hcs
  exact ⟨Nat.le_refl _, by unfold maxLen; omega, fun h => absurd h (by simp)⟩
 ·simp only [List.cons.injEq, and_true, Value.slice.injEq] at hcs
  obtain ⟨rfl, rfl, rfl⟩ := hcs
  have hlm : len ≤ m := by rw [hmm]; split <;> omega
  refine ⟨hl, hm, fun h0 => ?_⟩
  obtain ⟨b, o, s⟩ := a
  obtain ⟨cs0, hc0, _⟩ := hi 0 (by omega)
  rw [hC] at hc0
  obtain ⟨_, hcl, hat⟩ := World.cells?_some hc0
  have h1 := hat 0 (by omega)
  rw [List.getElem?_eq_getElem (by omega)] at h1
  have hs : s = none := by
   cases s with
   | none => rfl
   | some q =>
    exfalso
    simp [Addr.add, World.cell?] at h1
    split at h1 <;> simp at h1
  subst hs
  have hadd : ∀ x y : Nat, ((⟨b, o, none⟩ : Addr).add x).add y = ⟨b, o + x + y, none⟩ := fun x y => by
   unfold Addr.add
   by_cases hx : x = 0 <;> by_cases hy : y = 0 <;> simp [hx, hy]
  have hlt : b < w.heap.size := by
   have := block_lt_of_cell h1
   rw [hadd] at this
   exact this
  refine ⟨b, o, rfl, hlt, fun k hk => ?_⟩
  obtain ⟨cs, hc, ht'⟩ := hi k (by omega)
  rw [hC] at hc
  obtain ⟨_, hcl', hat'⟩ := World.cells?_some hc
  refine ⟨cs, hcl', ⟨_, _, ht'⟩, fun j u hu => ?_⟩
  have hj : j < C := by
   have := (List.getElem?_eq_some_iff.1 hu).1
   omega
  rw [← hadd, hat' j hj, hu]
theorem pick_list {α : Type} (Q : Nat → α → Prop) : ∀ n, (∀ i, i < n → ∃ x, Q i x) → ∃ l : List α, l.length = n ∧ ∀ i (hi : i < l.length), Q i l[i]
 | 0, _ => ⟨[], rfl, fun i hi => absurd hi (by simp)⟩
 | n + 1, h => by
  obtain ⟨l, hl, hp⟩ := pick_list Q n (fun i hi => h i (by omega))
  obtain ⟨x, hx⟩ := h n (by omega)
  refine ⟨l ++ [x], by simp [hl], fun i hi => ?_⟩
  by_cases hin : i < l.length
  ·rw [List.getElem_append_left hin]; exact hp i hin
  ·have : i = n := by simp at hi; omega
   subst this
   rw [List.getElem_append_right (by omega)]
   simpa [hl] using hx
theorem Tr.list {t e : TypeId} {A : Option Addr} {len cap C : Nat} (h : Tr enc P w base spare held t [.slice A len cap]) (ht : P.underlying t = some (.slice e)) (hC : P.cellsOf e = C) (hpos : 0 < C) {α : Type} (eα : α → List Value) (R : α → Prop)
  (hq : ∀ cs : List Value, cs.length = C → Tr enc P w base spare held e cs → ∃ a : α, eα a = cs ∧ R a) : ∃ l : List α, l.length = len ∧ Rd eα C w A cap l ∧ ∀ a ∈ l, R a := by
 obtain ⟨hl, hm, hr⟩ := h.rows ht hC hpos
 by_cases h0 : 0 < len
 ·obtain ⟨b, o, rfl, hb, hk⟩ := hr h0
  obtain ⟨l, hll, hp⟩ := pick_list (fun k (a : α) => R a ∧ ∀ j u, (eα a)[j]? = some u → w.cell? ⟨b, o + k * C + j, none⟩ = some u) len (fun k hkl => by
   obtain ⟨cs, h1, h2, h3⟩ := hk k hkl
   obtain ⟨a, ha, hR⟩ := hq cs h1 h2
   exact ⟨a, hR, by rw [ha]; exact h3⟩)
  refine ⟨l, hll, ⟨by omega, hm, fun _ => ⟨b, o, rfl, hb, fun k hkk j u hu => (hp k hkk).2 j u hu⟩⟩, fun a ha => ?_⟩
  obtain ⟨i, hi, rfl⟩ := List.getElem_of_mem ha
  exact (hp i hi).1
 ·obtain rfl : len = 0 := by omega
  exact ⟨[], rfl, ⟨by simp, hm, fun h => absurd h (by simp)⟩, by simp⟩
end
theorem list2 {α : Type} {l : List α} (h : l.length = 2) : ∃ a b, l = [a, b] := by match l, h with | [a, b], _ => exact ⟨a, b, rfl⟩
theorem list3 {α : Type} {l : List α} (h : l.length = 3) : ∃ a b c, l = [a, b, c] := by match l, h with | [a, b, c], _ => exact ⟨a, b, c, rfl⟩
theorem list5 {α : Type} {l : List α} (h : l.length = 5) : ∃ a b c d e, l = [a, b, c, d, e] := by match l, h with | [a, b, c, d, e], _ => exact ⟨a, b, c, d, e, rfl⟩
theorem list10 {α : Type} {l : List α} (h : l.length = 10) : ∃ a b c d e f g i j k, l = [a, b, c, d, e, f, g, i, j, k] := by match l, h with | [a, b, c, d, e, f, g, i, j, k], _ => exact ⟨a, b, c, d, e, f, g, i, j, k, rfl⟩
section
variable {H : Type} {enc : TypeId × Value → H} {w : World} {base : Nat} {spare : Nat → Bool} {held : Bool}
theorem tr_cells {A : Option Addr} {n c : Nat} (h : Tr enc Tryz.prog w base spare held 79 [.slice A n c]) : ∃ l : List Cel, l.length = n ∧ Rd Cel.enc 2 w A c l := by
 obtain ⟨l, h1, h2, _⟩ := h.list Tryz.underlying79 (e := 176) (C := 2) (by kernel_rfl) (by decide) Cel.enc (fun _ => True) (fun cs hl ht => by
  obtain ⟨x0, e0, _⟩ := ht.int (n := 3) (lt := 3) 0 (by kernel_rfl) Tryz.underlying3
  obtain ⟨x1, e1, _⟩ := ht.int (n := 3) (lt := 3) 1 (by kernel_rfl) Tryz.underlying3
  obtain ⟨a, b, rfl⟩ := list2 hl
  simp at e0 e1
  subst e0 e1
  exact ⟨⟨x0, x1⟩, rfl, trivial⟩)
 exact ⟨l, h1, h2⟩
theorem tr_seats {A : Option Addr} {n c : Nat} (h : Tr enc Tryz.prog w base spare held 80 [.slice A n c]) : ∃ l : List Sea, l.length = n ∧ Rd Sea.enc 3 w A c l := by
 obtain ⟨l, h1, h2, _⟩ := h.list Tryz.underlying80 (e := 178) (C := 3) (by kernel_rfl) (by decide) Sea.enc (fun _ => True) (fun cs hl ht => by
  obtain ⟨x0, e0, _⟩ := ht.int (n := 3) (lt := 3) 0 (by kernel_rfl) Tryz.underlying3
  obtain ⟨x1, e1, _⟩ := ht.int (n := 3) (lt := 3) 1 (by kernel_rfl) Tryz.underlying3
  obtain ⟨x2, e2, _⟩ := ht.int (n := 3) (lt := 3) 2 (by kernel_rfl) Tryz.underlying3
  obtain ⟨a, b, c, rfl⟩ := list3 hl
  simp at e0 e1 e2
  subst e0 e1 e2
  exact ⟨⟨x0, x1, x2⟩, rfl, trivial⟩)
 exact ⟨l, h1, h2⟩
theorem tr_ents {A : Option Addr} {n c : Nat} (h : Tr enc Tryz.prog w base spare held 83 [.slice A n c]) : ∃ l : List Ent, l.length = n ∧ Rd Ent.enc 5 w A c l := by
 obtain ⟨l, h1, h2, _⟩ := h.list Tryz.underlying83 (e := 165) (C := 5) (by kernel_rfl) (by decide) Ent.enc (fun _ => True) (fun cs hl ht => by
  obtain ⟨x0, e0, _⟩ := ht.int (n := 4) (lt := 3) 0 (by kernel_rfl) Tryz.underlying3
  obtain ⟨x1, e1, _⟩ := ht.int (n := 4) (lt := 3) 1 (by kernel_rfl) Tryz.underlying3
  obtain ⟨x2, e2, _⟩ := ht.int (n := 4) (lt := 3) 2 (by kernel_rfl) Tryz.underlying3
  obtain ⟨x3, e3, _⟩ := ht.int (n := 4) (lt := 3) 3 (by kernel_rfl) Tryz.underlying3
  obtain ⟨x4, e4, _⟩ := ht.int (n := 4) (lt := 3) 4 (by kernel_rfl) Tryz.underlying3
  obtain ⟨a, b, c, d, e, rfl⟩ := list5 hl
  simp at e0 e1 e2 e3 e4
  subst e0 e1 e2 e3 e4
  exact ⟨⟨x0, x1, x2, x3, x4⟩, rfl, trivial⟩)
 exact ⟨l, h1, h2⟩
theorem tr_log {t : TypeId} {cs : List Value} (h : Tr enc Tryz.prog w base spare held t cs) (j : Nat) (h0 : leafTy Tryz.prog 5 t j = some 3) (h1 : leafTy Tryz.prog 5 t (j + 1) = some 79) (h2 : leafTy Tryz.prog 5 t (j + 2) = some 80) (h3 : leafTy Tryz.prog 5 t (j + 3) = some 83) :
  ∃ (a : LAd) (l : Lg), LgR w a l ∧ cs[j]? = some (.int .i64 l.base) ∧ cs[j + 1]? = some (.slice a.cA l.cells.length a.cc) ∧ cs[j + 2]? = some (.slice a.sA l.seats.length a.sc) ∧ cs[j + 3]? = some (.slice a.eA l.ents.length a.ec) := by
 obtain ⟨b, e0, _⟩ := h.int j h0 Tryz.underlying3
 obtain ⟨A1, n1, c1, e1, t1⟩ := h.slice (j + 1) h1 Tryz.underlying79
 obtain ⟨A2, n2, c2, e2, t2⟩ := h.slice (j + 2) h2 Tryz.underlying80
 obtain ⟨A3, n3, c3, e3, t3⟩ := h.slice (j + 3) h3 Tryz.underlying83
 obtain ⟨l1, rfl, r1⟩ := tr_cells t1
 obtain ⟨l2, rfl, r2⟩ := tr_seats t2
 obtain ⟨l3, rfl, r3⟩ := tr_ents t3
 exact ⟨⟨A1, c1, A2, c2, A3, c3⟩, ⟨b, l1, l2, l3⟩, ⟨r1, r2, r3⟩, e0, e1, e2, e3⟩
theorem tr_votes {A : Option Addr} {n c : Nat} (h : Tr enc Tryz.prog w base spare held 86 [.slice A n c]) : ∃ ps : List VtE, ps.length = n ∧ VsR w A c ps := by
 obtain ⟨l, h1, h2, h3⟩ := h.list Tryz.underlying86 (e := 138) (C := 10) (by kernel_rfl) (by decide) VtE.enc (fun p => LgR w p.1 p.2.log) (fun cs hl ht => by
  obtain ⟨x0, e0, _⟩ := ht.int (n := 4) (lt := 3) 0 (by kernel_rfl) Tryz.underlying3
  obtain ⟨x1, e1, _⟩ := ht.int (n := 4) (lt := 3) 1 (by kernel_rfl) Tryz.underlying3
  obtain ⟨x2, e2, _⟩ := ht.int (n := 4) (lt := 3) 2 (by kernel_rfl) Tryz.underlying3
  obtain ⟨x3, e3, _⟩ := ht.int (n := 4) (lt := 3) 3 (by kernel_rfl) Tryz.underlying3
  obtain ⟨x4, e4, _⟩ := ht.int (n := 4) (lt := 3) 4 (by kernel_rfl) Tryz.underlying3
  obtain ⟨x5, e5, _⟩ := ht.int (n := 4) (lt := 3) 5 (by kernel_rfl) Tryz.underlying3
  obtain ⟨a, l, hr, e6, e7, e8, e9⟩ := tr_log ht 6 (by kernel_rfl) (by kernel_rfl) (by kernel_rfl) (by kernel_rfl)
  obtain ⟨y0, y1, y2, y3, y4, y5, y6, y7, y8, y9, rfl⟩ := list10 hl
  simp at e0 e1 e2 e3 e4 e5 e6 e7 e8 e9
  subst e0 e1 e2 e3 e4 e5 e6 e7 e8 e9
  exact ⟨(a, ⟨x0, x1, x2, x3, x4, x5, l⟩), rfl, hr⟩)
 exact ⟨l, h1, h2, h3⟩
end
end Go.Proofs.YtmphedkbdlckhaaGreat
namespace Go.Proofs.YtmphedkbdlckhaaGreat
open Go.ChangeShapes Go.WideShapes Go.ChangeAt Go.RowKit Go.Sort
set_option linter.unusedVariables false
set_option linter.unusedSimpArgs false
instance : Inhabited Lg := ⟨Lg.none⟩
instance : Inhabited LAd := ⟨LAd.none⟩
instance : Inhabited Vt := ⟨⟨0, 0, 0, 0, 0, 0, Lg.none⟩⟩
theorem mixed_at {α : Type} (M : Nat → α) (l : List α) {j : Nat} (hj : j ≤ l.length) {i : Nat} (hi : i < (mixed M l j).length) : (mixed M l j)[i] = if i < j then M i else l[i]'(by rw [mixed_length M l hj] at hi; exact hi) := by
 have hil : i < l.length := by rw [mixed_length M l hj] at hi; exact hi
 have h2 : (mixed M l j)[i]? = some (if i < j then M i else l[i]) := by
  unfold mixed
  by_cases h : i < j
  ·rw [List.getElem?_append_left (by simpa using h), if_pos h]
   simp [h]
  ·rw [List.getElem?_append_right (by simp; omega), if_neg h, List.getElem?_drop, List.length_map, List.length_range, show j + (i - j) = i by omega, List.getElem?_eq_getElem hil]
 rw [List.getElem?_eq_getElem hi] at h2
 exact Option.some.inj h2
theorem flatMap_congr_at {α β : Type} {f : α → List β} {l m : List α} (hl : l.length = m.length) (h : ∀ (i : Nat) (h1 : i < l.length) (h2 : i < m.length), f l[i] = f m[i]) : l.flatMap f = m.flatMap f := by
 rw [List.flatMap_def, List.flatMap_def]
 congr 1
 exact List.ext_getElem (by simpa using hl) (fun i h1 h2 => by simpa using h i (by simpa using h1) (by simpa using h2))
theorem nodup_apart {α : Type} {f : α → List Nat} : ∀ {l : List α} (_ : (l.flatMap f).Nodup) {i j : Nat} (hi : i < l.length) (hj : j < l.length) (_ : i ≠ j), ∀ x ∈ f l[i], x ∉ f l[j]
 | [], _, i, _, hi, _, _ => absurd hi (by simp)
 | a :: l, h, 0, 0, _, _, hne => absurd rfl hne
 | a :: l, h, 0, j + 1, hi, hj, hne => fun x hx hy => by
  rw [List.flatMap_cons, List.nodup_append] at h
  simp only [List.getElem_cons_zero, List.getElem_cons_succ] at hx hy
  exact h.2.2 x hx x (List.mem_flatMap.2 ⟨_, List.getElem_mem _, hy⟩) rfl
 | a :: l, h, i + 1, 0, hi, hj, hne => fun x hx hy => by
  rw [List.flatMap_cons, List.nodup_append] at h
  simp only [List.getElem_cons_zero, List.getElem_cons_succ] at hx hy
  exact h.2.2 x hy x (List.mem_flatMap.2 ⟨_, List.getElem_mem _, hx⟩) rfl
 | a :: l, h, i + 1, j + 1, hi, hj, hne => fun x hx hy => by
  rw [List.flatMap_cons, List.nodup_append] at h
  simp only [List.getElem_cons_succ] at hx hy
  exact nodup_apart h.2.1 (by simpa using hi) (by simpa using hj) (by omega) x hx hy
theorem Ow.frozen {α : Type} {enc : α → List Value} {e : TypeId} {sz : Nat} {w : World} {B g n c : Nat} {l : List α} (h : Ow enc e sz w B (.slice (some ⟨g, 0, none⟩) n c) l) : ∀ y, w.frozen? ⟨g, y, none⟩ = false := fun y => by
 rcases h.2 with ⟨h2, _⟩ | ⟨g', cap, cur, hv, hb, hh, r⟩
 ·cases h2
 ·simp only [Value.slice.injEq, Option.some.injEq, Addr.mk.injEq] at hv
  obtain ⟨⟨rfl, _⟩, _⟩ := hv
  exact frozen_of_row w g y cur e hh
def Vt.mk' (k : Int) (v : Vt) : Vt := ⟨k, k + 1, k + 1 + 1, k + 1 + 1 + 1, k + 1 + 1 + 1 + 1, k + 1 + 1 + 1 + 1 + 1, v.log.mk' (k + 1 + 1 + 1 + 1 + 1 + 1 + 1) (k + 1 + 1 + 1 + 1 + 1 + 1)⟩
def Vt.mN (v : Vt) : Int := 7 + v.log.mN
def VtE.Ks (k : Int) (ps : List VtE) : Nat → Int
 | 0 => k
 | j + 1 => VtE.Ks k ps j + match ps[j]? with | some p => p.2.mN | none => 0
def VtE.M (k : Int) (ps : List VtE) (i : Nat) : VtE := match ps[i]? with
 | some p => (p.1, p.2.mk' (VtE.Ks k ps i))
 | none => (LAd.none, (⟨LAd.none, default⟩ : VtE).2)
theorem VtE.M_at (k : Int) {ps : List VtE} {i : Nat} (h : i < ps.length) : VtE.M k ps i = (ps[i].1, ps[i].2.mk' (VtE.Ks k ps i)) := by simp [VtE.M, h]
def VtE.mks (k : Int) (ps : List VtE) : List VtE := (List.range ps.length).map (VtE.M k ps)
theorem VtE.mixed_fp (k : Int) (ps : List VtE) (j : Nat) (hj : j ≤ ps.length) : (mixed (VtE.M k ps) ps j).flatMap (fun p => p.1.fp) = ps.flatMap (fun p => p.1.fp) := by
 refine flatMap_congr_at (mixed_length _ _ hj) fun i h1 h2 => ?_
 rw [mixed_at _ _ hj h1]
 split
 ·rw [VtE.M_at k h2]
 ·rfl
theorem VsO.step {wr w7 w3 : World} {B T : Nat} {A : Option Addr} {c : Nat} {ps : List VtE} {k : Int} {j : Nat} (hj : j < ps.length) (h : VsO wr B T A c (mixed (VtE.M k ps) ps j)) (c7 : Chg wr w7 (blk A)) (o7 : Ow VtE.enc 93 10 w7 B (.slice A ps.length c) (mixed (VtE.M k ps) ps (j + 1))) (hL : LgO w3 B T ps[j].1 (ps[j].2.mk' (VtE.Ks k ps j)).log) (c3 : Chg w7 w3 ps[j].1.fp) : VsO w3 B T A c (mixed (VtE.M k ps) ps (j + 1)) := by
 have hnd := h.nd
 have htop := h.top
 rw [VtE.mixed_fp k ps j (by omega)] at hnd htop
 refine ⟨?_, ?_, ?_, ?_⟩
 ·rw [mixed_length _ _ (by omega : j + 1 ≤ ps.length)]
  exact o7.chg c3 (fun x hx hm => by
   rw [List.nodup_append] at hnd
   exact hnd.2.2 x hx x (List.mem_flatMap.2 ⟨ps[j], List.getElem_mem hj, hm⟩) rfl)
 ·intro p hp
  obtain ⟨i, hi, rfl⟩ := List.mem_iff_getElem.1 hp
  have hi2 : i < ps.length := by rw [mixed_length _ _ (by omega : j + 1 ≤ ps.length)] at hi; exact hi
  by_cases he : i = j
  ·subst he
   rw [mixed_at _ _ (by omega) hi, if_pos (by omega), VtE.M_at k hi2]
   exact hL
  ·have hold := h.l ((mixed (VtE.M k ps) ps j)[i]'(by rw [mixed_length _ _ (by omega : j ≤ ps.length)]; exact hi2)) (List.getElem_mem _)
   have hsame : (mixed (VtE.M k ps) ps (j + 1))[i] = (mixed (VtE.M k ps) ps j)[i]'(by rw [mixed_length _ _ (by omega : j ≤ ps.length)]; exact hi2) := by
    rw [mixed_at _ _ (by omega) hi, mixed_at _ _ (by omega) _]
    by_cases h1 : i < j
    ·rw [if_pos (by omega), if_pos h1]
    ·rw [if_neg (by omega), if_neg h1]
   have hfp : ((mixed (VtE.M k ps) ps j)[i]'(by rw [mixed_length _ _ (by omega : j ≤ ps.length)]; exact hi2)).1.fp = ps[i].1.fp := by
    rw [mixed_at _ _ (by omega) _]
    split
    ·rw [VtE.M_at k hi2]
    ·rfl
   rw [hsame]
   refine (hold.chg c7 (fun x hx hm => ?_)).chg c3 (fun x hx hm => ?_)
   ·rw [hfp] at hx
    rw [List.nodup_append] at hnd
    exact hnd.2.2 x hm x (List.mem_flatMap.2 ⟨ps[i], List.getElem_mem hi2, hx⟩) rfl
   ·rw [hfp] at hx
    rw [List.nodup_append] at hnd
    exact nodup_apart hnd.2.1 hi2 hj he x hx hm
 ·rw [VtE.mixed_fp k ps (j + 1) (by omega)]; exact hnd
 ·rw [VtE.mixed_fp k ps (j + 1) (by omega)]; exact htop
theorem VsO.done {w : World} {B T : Nat} {A : Option Addr} {c : Nat} {ps : List VtE} {k : Int} (h : VsO w B T A c (mixed (VtE.M k ps) ps ps.length)) : VsO w B T A c (VtE.mks k ps) := by
 rw [mixed_all] at h
 exact h
end Go.Proofs.YtmphedkbdlckhaaGreat
namespace Go.Proofs.YtmphedkbdlckhaaGreat
open Go.ChangeShapes Go.WideShapes Go.ChangeAt Go.RowKit Go.Joins Go.Deep
set_option linter.unusedVariables false
theorem list13 {α : Type} {l : List α} (h : l.length = 13) : ∃ a b c d e f g i j k m n o, l = [a, b, c, d, e, f, g, i, j, k, m, n, o] := by match l, h with | [a, b, c, d, e, f, g, i, j, k, m, n, o], _ => exact ⟨a, b, c, d, e, f, g, i, j, k, m, n, o, rfl⟩
section
variable {H : Type} {enc : TypeId × Value → H} {w : World} {base : Nat} {spare : Nat → Bool} {held : Bool}
end
theorem lgN_small {l : Lg} {n : Nat} (h : lgN l ≤ n) (hn : n ≤ 1048576) : l.small := by unfold lgN at h; unfold Lg.small; omega
theorem vsN_small (ps : List VtE) (n : Nat) (h : ps.length + vsN ps ps.length ≤ n) (hn : n ≤ 1048576) : LgS ps := fun p hp => by
 obtain ⟨k, hk, rfl⟩ := List.mem_iff_getElem.1 hp
 have h1 := vsN_next hk
 have h2 := vsN_up ps (k + 1) (ps.length - (k + 1))
 rw [show k + 1 + (ps.length - (k + 1)) = ps.length by omega] at h2
 exact lgN_small (n := n) (by omega) hn
end Go.Proofs.YtmphedkbdlckhaaGreat
namespace Go.Proofs.YtmphedkbdlckhaaGreat
open Go.ChangeShapes Go.WideShapes Go.ChangeAt Go.RowKit Go.Sort
set_option linter.unusedVariables false
set_option linter.unusedSimpArgs false
structure RpH (w : World) (a : LAd) (A : Option Addr) (c : Nat) (ps : List VtE) (r : Rp) (k : Int) : Prop where
 l : LgR w a (r.log.mk' k r.log.base)
 v : VsR w A c (VtE.mks (k + r.log.mN) ps)
theorem RpH.keep {w w' : World} {a : LAd} {A : Option Addr} {c : Nat} {ps : List VtE} {r : Rp} {k : Int} (h : RpH w a A c ps r k) (hx : Ext w w') : RpH w' a A c ps r k := ⟨h.l.keep hx, h.v.keep hx⟩
theorem LgS.congr {ps qs : List VtE} (h : ps.map Prod.snd = qs.map Prod.snd) (hs : LgS ps) : LgS qs := fun q hq => by
 have h1 : q.2 ∈ qs.map Prod.snd := List.mem_map_of_mem hq
 rw [← h] at h1
 obtain ⟨p, hp, he⟩ := List.mem_map.1 h1
 rw [← he]
 exact hs p hp
def RpV (n : Nat) (r : Rp) (v : Value) (w : World) : Prop := ∃ a g qs, v = Rp.val a (some ⟨g, 0, none⟩) n n r ∧ List.length qs = n ∧ RpR w a (some ⟨g, 0, none⟩) n qs r
theorem RpV.mono (n : Nat) (r : Rp) : Mono (RpV n r) := fun v w w' ⟨a, g, qs, h, hl, hr⟩ hx => ⟨a, g, qs, h, hl, hr.keep hx⟩
end Go.Proofs.YtmphedkbdlckhaaGreat
