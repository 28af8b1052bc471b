/- Copies of slices, and own rows beside one another. No program in sight. -/
import Derived.Test.YtmpjokdidomafaaGreatBox
import Derived.OwnWalk
namespace Go.Proofs.YtmpjokdidomafaaGreat
open Go.ChangeShapes Go.WideShapes Go.ChangeAt Go.RowKit Go.Sort
set_option linter.unusedVariables false

theorem Rd.none_len {α : Type} {enc : α → List Value} {sz : Nat} {w : World} {c : Nat} {l : List α} (h : Rd enc sz w none c l) : l.length = 0 := by
  by_cases h0 : 0 < l.length
  · obtain ⟨b, o, e, _⟩ := h.2.2 h0
    cases e
  · omega
theorem Rd.base {α : Type} {enc : α → List Value} {sz : Nat} {w : World} {A : Option Addr} {c : Nat} {l : List α} (h : Rd enc sz w A c l) (h0 : 0 < l.length) : ∃ a, A = some a := by
  obtain ⟨b, o, e, _⟩ := h.2.2 h0
  exact ⟨_, e⟩
theorem Rd.flat {α : Type} {enc : α → List Value} {sz : Nat} {w : World} {a : Addr} {c : Nat} {l : List α} (h : Rd enc sz w (some a) c l) (h0 : 0 < sz) (hsz : ∀ x, (enc x).length = sz) :
    ∀ (j : Nat) (u : Value), (l.flatMap enc)[j]? = some u → w.cell? (a.add j) = some u := by
  intro j u hu
  have hj : j < l.length * sz := by
    have := (List.getElem?_eq_some_iff.1 hu).1
    rwa [flat_length hsz] at this
  have hl : 0 < l.length := by
    rcases Nat.eq_zero_or_pos l.length with e | e
    · rw [e] at hj; omega
    · exact e
  obtain ⟨b, o, e, _, hc⟩ := h.2.2 hl
  simp only [Option.some.injEq] at e
  subst e
  have hk : j / sz < l.length := (Nat.div_lt_iff_lt_mul h0).2 hj
  have hm : j % sz < sz := Nat.mod_lt _ h0
  have hd : j / sz * sz + j % sz = j := Nat.div_add_mod' j sz
  have h1 := flat_get hsz l (j / sz) hk (j % sz) hm
  rw [hd, hu] at h1
  have h2 := hc (j / sz) hk (j % sz) u h1.symm
  rw [Addr.add_lit]
  rw [Nat.add_assoc, hd] at h2
  exact h2
theorem flat_one {α : Type} {enc : α → List Value} (h : ∀ x, ∀ u ∈ enc x, u.oneCell' = true) (l : List α) : ∀ u ∈ l.flatMap enc, u.oneCell' = true := by
  intro u hu
  obtain ⟨x, _, hx⟩ := List.mem_flatMap.1 hu
  exact h x u hx

/-- an own row stays where another block is written -/
theorem Ow.beside {α : Type} {enc : α → List Value} {e : TypeId} {sz : Nat} {w w' : World} {B : Nat} {v : Value} {l : List α} {row : Option Nat} (h : Ow enc e sz w B v l) (hg : w.grownBy w' row) (hne : ∀ k, v.ownBlock = some k → row ≠ some k) : Ow enc e sz w' B v l := by
  refine ⟨h.1, ?_⟩
  rcases h.2 with h2 | ⟨g, cap, cur, hv, hb, hh, r⟩
  · exact .inl h2
  · refine .inr ⟨g, cap, cur, hv, hb, ?_, r⟩
    rw [hg.block g (Array.getElem?_eq_some_iff.1 hh).1 (fun he => hne g (by rw [hv]; rfl) he.symm)]
    exact hh
theorem Ow.lt {α : Type} {enc : α → List Value} {e : TypeId} {sz : Nat} {w : World} {B : Nat} {v : Value} {l : List α} (h : Ow enc e sz w B v l) : ∀ k, v.ownBlock = some k → B ≤ k ∧ k < w.heap.size := World.ownsRow.lt h
/-- the form of what owns a row -/
theorem Ow.form {α : Type} {enc : α → List Value} {e : TypeId} {sz : Nat} {w : World} {B : Nat} {v : Value} {l : List α} (h : Ow enc e sz w B v l) : ∃ A c, v = .slice A l.length c := by
  rcases h.2 with ⟨h2, h3⟩ | ⟨g, cap, cur, hv, _⟩
  · exact ⟨none, 0, by rw [h2, h3]⟩
  · exact ⟨_, _, hv⟩
theorem Rd.beside {α : Type} {enc : α → List Value} {sz : Nat} {w w' : World} {A : Option Addr} {c : Nat} {l : List α} {row : Option Nat} (h : Rd enc sz w A c l) (hg : w.grownBy w' row) (hne : ∀ a, A = some a → row ≠ some a.block) : Rd enc sz w' A c l := by
  refine ⟨h.1, h.2.1, fun hl => ?_⟩
  obtain ⟨b, o, e, hlt, hc⟩ := h.2.2 hl
  exact ⟨b, o, e, Nat.lt_of_lt_of_le hlt hg.size, fun k hk j u hu => by
    rw [World.cell?_of_block (a := ⟨b, o + k * sz + j, none⟩) (hg.block b hlt (fun he => hne _ e he.symm))]
    exact hc k hk j u hu⟩
theorem Ow.base {α : Type} {enc : α → List Value} {e : TypeId} {sz : Nat} {w : World} {B : Nat} {v : Value} {l : List α} (h : Ow enc e sz w B v l) (h0 : 0 < l.length) : ∃ g c, v = .slice (some ⟨g, 0, none⟩) l.length c ∧ B ≤ g ∧ g < w.heap.size := by
  rcases h.2 with ⟨h2, h3⟩ | ⟨g, cap, cur, hv, hb, hg, _⟩
  · omega
  · exact ⟨g, cap, hv, hb, (Array.getElem?_eq_some_iff.1 hg).1⟩
theorem list_set_self {α : Type} {l : List α} {i : Nat} {x : α} (h : l[i]? = some x) : l.set i x = l := by
  obtain ⟨h1, rfl⟩ := List.getElem?_eq_some_iff.1 h
  exact List.set_getElem_self h1
/-- one element written whole -/
theorem setAll_one {α : Type} {enc : α → List Value} {sz : Nat} (hsz : ∀ x, (enc x).length = sz) (l : List α) (k : Nat) (hk : k < l.length) (y : α) : setAll (l.flatMap enc) (k * sz) (enc y) = (l.set k y).flatMap enc := by
  have hle : (k + 1) * sz ≤ l.length * sz := Nat.mul_le_mul_right sz (by omega)
  rw [Nat.succ_mul] at hle
  have hf := flat_length hsz l
  have ht : ((l.take k).flatMap enc).length = k * sz := by rw [flat_length hsz, List.length_take, Nat.min_eq_left (by omega)]
  rw [setAll_eq _ _ _ (by rw [hsz]; omega), hsz, List.set_eq_take_append_cons_drop, if_pos hk]
  have hsplit : l.flatMap enc = (l.take k).flatMap enc ++ (enc l[k] ++ (l.drop (k + 1)).flatMap enc) := by
    rw [← List.flatMap_cons, ← List.flatMap_append, ← List.drop_eq_getElem_cons hk, List.take_append_drop]
  rw [hsplit, List.take_left' ht, ← List.append_assoc ((l.take k).flatMap enc), List.drop_left' (by rw [List.length_append, ht, hsz]), List.flatMap_append, List.flatMap_cons, List.append_assoc]
theorem alloc_cell (w : World) (cs : Array Value) (T : TypeId) : ∀ (j : Nat) (u : Value), cs.toList[j]? = some u → (w.alloc (.cells cs T)).cell? ((⟨w.heap.size, 0, none⟩ : Addr).add j) = some u := fun j u hj => by
  rw [Addr.add_lit, Nat.zero_add, bx_cell (hNew rfl) j]
  simpa using hj
theorem alloc_cellB (w : World) (cs : Array Value) (T : TypeId) (B : Nat) (hB : B = w.heap.size) : ∀ (j : Nat) (u : Value), cs.toList[j]? = some u → (w.alloc (.cells cs T)).cell? ((⟨B, 0, none⟩ : Addr).add j) = some u := by
  subst hB; exact alloc_cell w cs T
theorem ownsRow_setCell {w : World} {B : Nat} {e : TypeId} {sz : Nat} {v : Value} {n : Nat} {xs : List Value} (h : w.ownsRow B e sz v n xs) {p : Addr} (u : Value) (hne : ∀ k, v.ownBlock = some k → k ≠ p.block) : (w.setCell p u).ownsRow B e sz v n xs := by
  refine ⟨h.1, ?_⟩
  rcases h.2 with h2 | ⟨g, cap, cur, hv, hb, hh, r⟩
  · exact .inl h2
  · exact .inr ⟨g, cap, cur, hv, hb, by rw [Below.heap_setCell _ _ _ _ (hne g (by rw [hv]; rfl))]; exact hh, r⟩
theorem flat_snoc {α : Type} (enc : α → List Value) (l : List α) (x : α) : l.flatMap enc ++ enc x = (l ++ [x]).flatMap enc := by simp
theorem own_of {α : Type} {enc : α → List Value} {e : TypeId} {sz : Nat} {w : World} {B : Nat} {v : Value} {l : List α} {n : Nat} (h : w.ownsRow B e sz v n (l.flatMap enc)) (hn : n = l.length) : Ow enc e sz w B v l := by
  subst hn; exact h
theorem own_snoc {α : Type} {enc : α → List Value} {e : TypeId} {sz : Nat} {w : World} {B : Nat} {v : Value} {l : List α} {x : α} {n : Nat} {cs : List Value} (h : w.ownsRow B e sz v n cs) (hn : n = l.length + 1) (hc : cs = l.flatMap enc ++ enc x) : Ow enc e sz w B v (l ++ [x]) := by
  unfold Ow
  rw [List.length_append, List.length_singleton, ← flat_snoc, ← hn, ← hc]
  exact h
theorem ext_app {a b c : World} {B : Nat} {e : TypeId} {sz : Nat} {v : Value} {n : Nat} {xs : List Value} (h : Ext a b) (k : b.grownBy c v.ownBlock) (ho : b.ownsRow B e sz v n xs) (hB : a.heap.size ≤ B) : Ext a c := ext_grown h k (fun g hg => Nat.le_trans hB (World.ownsRow.lt ho g hg).1)
theorem box_beside {w w' : World} {k : Nat} {o : Obj} {row : Option Nat} (h : w.heap[k]? = some o) (hg : w.grownBy w' row) (hne : row ≠ some k) : w'.heap[k]? = some o := by
  rw [hg.block k (bx_lt h) (fun he => hne he.symm)]; exact h
theorem box_set {w : World} {k : Nat} {o : Obj} {p : Addr} {u : Value} (h : w.heap[k]? = some o) (hne : p.block ≠ k) : (w.setCell p u).heap[k]? = some o := by
  rw [← h]; exact Below.heap_setCell _ _ _ _ (fun e => hne e.symm)
theorem sz_alloc (w : World) (o : Obj) : (w.alloc o).heap.size = w.heap.size + 1 := by simp
theorem ret_vb {v : Value} {a b : Bool} (h : a = b) : Ending.returned (.tuple #[v, .bool a]) = .returned (.tuple #[v, .bool b]) := by rw [h]
theorem grownBy_ext {w w' : World} {B : Nat} (hg : w.grownBy w' (some B)) {w0 : World} (hx : Ext w0 w) (hB : w0.heap.size ≤ B) : Ext w0 w' := ext_grown hx hg (fun g h => by simp only [Option.some.injEq] at h; omega)
end Go.Proofs.YtmpjokdidomafaaGreat
