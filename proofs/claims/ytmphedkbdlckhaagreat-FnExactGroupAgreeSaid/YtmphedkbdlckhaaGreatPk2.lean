/- Own rows: copied onto, made longer, put out of the way: run equations at any size of element. No program in sight. -/
import Derived.Test.YtmphedkbdlckhaaGreatPk1
import Derived.Laws.CopyRow
import Derived.Laws.Tables
import Derived.Lib.AppendZerosOnto
import Derived.Lib.Overlaps
import Derived.Laws.Externs
namespace Go.Proofs.YtmphedkbdlckhaaGreat
open Go.ChangeShapes Go.WideShapes Go.ChangeAt Go.RowKit Go.Sort
set_option linter.unusedVariables false
set_option linter.unusedSimpArgs false
section
variable {P : Program}
theorem run_copy_any (w : World) (dT sT ty elem : TypeId) (g o dLen dCap : Nat) (a : Addr) (sLen sCap size : Nat) (cur : Array Value) (t : TypeId) (cs : List Value)
  (hu : P.underlying dT = some (.slice elem)) (hs : (P.info? elem).map (·.size) = some size)
  (hg : w.heap[g]? = some (.cells cur t (0, 0))) (hn : cs.length = Nat.min sLen dLen * size)
  (hsrc : ∀ j v, cs[j]? = some v → w.cell? (a.add j) = some v) (hfit : o + cs.length ≤ cur.size) (h1 : ∀ v ∈ cs, v.oneCell' = true) :
  (Builtin.copy_ #[dT, sT] ty #[.slice (some ⟨g, o, none⟩) dLen dCap, .slice (some a) sLen sCap]).run P w =
   .ok (goInt (Nat.min sLen dLen)) (w.setRow g (cur.toList.take o ++ cs ++ cur.toList.drop (o + cs.length)).toArray) := by
 have hl := run_loadCells_list (P := P) w a cs hsrc
 have hst := run_storeCells_at P g o t cs 0 cur w hg (by simpa using hfit) h1
 cases hq : P.info? elem with
 | none => simp [hq] at hs
 | some i =>
  have hi : i.size = size := by simpa [hq] using hs
  simp [Builtin.copy_, run_underlying hu, Builtin.lenOf, Builtin.firstCells, sizeOf, typeInfo, hq, hi, ← hn, hl, hst]
theorem grown_setRow (w : World) (g : Nat) (cs : Array Value) : w.grownBy (w.setRow g cs) (some g) :=
 ⟨rfl, rfl, rfl, by simp, fun k _ hne => setRow_other w g k cs (fun e => hne (by rw [e]))⟩
theorem own_copy {w : World} {B g n c : Nat} {e : TypeId} {sz : Nat} {xs : List Value} (ho : w.ownsRow B e sz (.slice (some ⟨g, 0, none⟩) n c) n xs) (dT sT ty : TypeId) (o dLen dCap : Nat) (a : Addr) (sLen sCap : Nat) (cs : List Value)
  (hu : P.underlying dT = some (.slice e)) (hs : (P.info? e).map (·.size) = some sz) (hn : cs.length = Nat.min sLen dLen * sz) (hsrc : ∀ j v, cs[j]? = some v → w.cell? (a.add j) = some v) (hfit : o + cs.length ≤ n * sz) (h1 : ∀ v ∈ cs, v.oneCell' = true) :
  ∃ w', (Builtin.copy_ #[dT, sT] ty #[.slice (some ⟨g, o, none⟩) dLen dCap, .slice (some a) sLen sCap]).run P w = .ok (goInt (Nat.min sLen dLen)) w' ∧
   w'.ownsRow B e sz (.slice (some ⟨g, 0, none⟩) n c) n (xs.take o ++ cs ++ xs.drop (o + cs.length)) ∧ w.grownBy w' (some g) := by
 have hxl := ho.1
 rcases ho.2 with ⟨h2, _⟩ | ⟨g', cap, cur, hv, hb, hg, hnc, hcm, hcs, htake⟩
 ·cases h2
 ·simp only [Value.slice.injEq, Option.some.injEq, Addr.mk.injEq] at hv
  obtain ⟨⟨rfl, _⟩, _, rfl⟩ := hv
  have hle : n * sz ≤ c * sz := Nat.mul_le_mul_right sz hnc
  refine ⟨_, run_copy_any w dT sT ty e g o dLen dCap a sLen sCap sz cur e cs hu hs hg hn hsrc (by omega) h1, ⟨?_, .inr ⟨g, c, _, rfl, hb, setRow_heap w g cur _ e (0, 0) hg, hnc, hcm, ?_, ?_⟩⟩, grown_setRow _ _ _⟩
  ·simp only [List.length_append, List.length_take, List.length_drop]
   omega
  ·have : cur.toList.length = c * sz := by simpa using hcs
   simp only [List.size_toArray, List.length_append, List.length_take, List.length_drop]
   omega
  ·have hcl : cur.toList.length = c * sz := by simpa using hcs
   rw [← htake]
   simp only [List.toList_toArray]
   have e1 : (cur.toList.take (n * sz)).take o = cur.toList.take o := by rw [List.take_take, Nat.min_eq_left (by omega)]
   have e2 : (cur.toList.take (n * sz)).drop (o + cs.length) = (cur.toList.drop (o + cs.length)).take (n * sz - (o + cs.length)) := by rw [List.drop_take]
   rw [e1, e2]
   rw [List.take_append, List.take_of_length_le (by simp only [List.length_append, List.length_take]; omega)]
   congr 2
   simp only [List.length_append, List.length_take]
   omega
theorem own_room {w : World} {B g n c : Nat} {e : TypeId} {sz : Nat} {xs : List Value} (ho : w.ownsRow B e sz (.slice (some ⟨g, 0, none⟩) n c) n xs) (hr : n + 1 ≤ c) :
  ∃ ys, ys.length = sz ∧ w.ownsRow B e sz (.slice (some ⟨g, 0, none⟩) (n + 1) c) (n + 1) (xs ++ ys) := by
 have hxl := ho.1
 rcases ho.2 with ⟨h2, _⟩ | ⟨g', cap, cur, hv, hb, hg, hnc, hcm, hcs, htake⟩
 ·cases h2
 ·simp only [Value.slice.injEq, Option.some.injEq, Addr.mk.injEq] at hv
  obtain ⟨⟨rfl, _⟩, _, rfl⟩ := hv
  have hle : (n + 1) * sz ≤ c * sz := Nat.mul_le_mul_right sz hr
  rw [Nat.succ_mul] at hle
  have hcl : cur.toList.length = c * sz := by simpa using hcs
  refine ⟨(cur.toList.drop (n * sz)).take sz, by simp only [List.length_take, List.length_drop]; omega, ?_, .inr ⟨g, c, cur, rfl, hb, hg, hr, hcm, hcs, ?_⟩⟩
  ·simp only [List.length_append, List.length_take, List.length_drop, hxl, Nat.succ_mul]
   omega
  ·rw [← htake, Nat.succ_mul, List.take_add]
theorem own_zeros {w : World} {B g n c : Nat} {e : TypeId} {sz : Nat} {xs : List Value} (ho : w.ownsRow B e sz (.slice (some ⟨g, 0, none⟩) n c) n xs) (t tn ty : TypeId) (i0 : TypeInfo) (z : Value) (kq kn : IntKind) (ht : P.underlying t = some (.slice e)) (htn : P.underlying tn = some (.int kn))
  (hi : P.info? e = some i0) (hz : i0.zero = some z) (h4 : i0.size = sz) (hzs : z.cells.size = sz) (hsz : 0 < sz) (i k : Nat) (hk : 0 < k) (hin : i ≤ n) (hroom : c < i + k) (hbig : (i + k) * i0.bytes ≤ 140737488355328) (h63 : i + k ≤ 1099511627776) (hB : B ≤ w.heap.size) :
  ∃ w' g' c', (Builtin.append_ #[t, tn] ty #[.slice (some ⟨g, 0, none⟩) i c, .int kq k]).run P w = .ok (.slice (some ⟨g', 0, none⟩) (i + k) c') w' ∧ g' = w.heap.size ∧
   (∃ ys, ys.length = k * sz ∧ w'.ownsRow B e sz (.slice (some ⟨g', 0, none⟩) (i + k) c') (i + k) (xs.take (i * sz) ++ ys)) ∧ w.grownBy w' none := by
 have hxl := ho.1
 have hle : i * sz ≤ n * sz := Nat.mul_le_mul_right sz hin
 have hfit := growslice_fits (bytes := i0.bytes) hroom hbig
 have hold : (Builtin.firstCells i0.size i (.slice (some ⟨g, 0, none⟩) i c)).run P w.drew = .ok (xs.take (i * sz)).toArray w.drew := by
  rw [h4]
  refine run_firstCells_some w.drew sz i ⟨g, 0, none⟩ i c (xs.take (i * sz)) (by rw [List.length_take]; omega) (fun j v hj => ?_)
  rw [Addr.add_lit, Nat.zero_add]
  rw [List.getElem?_take] at hj
  split at hj
  ·show w.cell? _ = _
   rw [World.ownsRow.cellAt ho j (by omega)]
   exact hj
  ·cases hj
 have h := Lib.run_append_grow_zeros w t tn ty e i0 z kq kn ht htn hi hz (some ⟨g, 0, none⟩) i c (xs.take (i * sz)) hold k hk (by omega) hroom (by omega) (by
  have h9 : k * i0.bytes ≤ (i + k) * i0.bytes := Nat.mul_le_mul_right _ (by omega)
  omega) hfit
 have hG := grownCap_ge w (i + k) c e
 have hG2 := grownCap_le_maxLen w (i + k) c e (by unfold maxLen; omega)
 have hzl : ∀ q, (Builtin.zeroCells z.cells q).size = q * sz := fun q => by simp [Builtin.zeroCells, hzs]
 refine ⟨_, _, _, h, rfl, ⟨(Builtin.zeroCells z.cells k).toList, by simp [hzl], ?_, .inr ⟨w.heap.size, _, _, rfl, hB, heap_alloc_new w.drew _, hG, hG2, ?_, ?_⟩⟩, ?_⟩
 ·simp only [List.length_append, List.length_take, Array.length_toList, hzl, Nat.add_mul, hxl]
  omega
 ·simp only [Array.size_append, hzl, List.size_toArray, List.length_take, hxl, Nat.min_eq_left hle]
  have h8 : (grownCap w (i + k) c e - (i + k)) * sz + (i + k) * sz = grownCap w (i + k) c e * sz := by rw [← Nat.add_mul]; congr 1; omega
  rw [Nat.add_mul] at h8
  omega
 ·simp only [Array.toList_append, List.toList_toArray]
  rw [List.take_append, List.take_of_length_le (by simp only [List.length_append, List.length_take, Array.length_toList, hzl, Nat.add_mul]; omega)]
  have : (i + k) * sz - ((xs.take (i * sz)) ++ (Builtin.zeroCells z.cells k).toList).length = 0 := by
   simp only [List.length_append, List.length_take, Array.length_toList, hzl, Nat.add_mul]; omega
  rw [this]
  simp
 ·exact ⟨rfl, rfl, rfl, by simp, fun k hk _ => by
   show (w.drew.alloc _).heap[k]? = _
   rw [heap_alloc_if, if_neg (by show ¬ k = w.heap.size; omega)]
   rfl⟩
theorem wpList_zeros_own {w : World} {ops : Array Oper} {rest : List Oper} {o : Oper} {a : Act} {Q : Exit → Act → World → Prop} (hgd : o.guard = none) (s x : Operand) (t tn : TypeId)
  (hop : o.op = .call { callee := .builtin .append, args := #[s, x], argTypes := #[t, tn] }) (g i c : Nat) (hs : a.eval s = .slice (some ⟨g, 0, none⟩) i c) (kq : IntKind) (K : Int) (hx : a.eval x = .int kq K) (k : Nat) (hK : K = k)
  {B n : Nat} {e : TypeId} {sz : Nat} {xs : List Value} (ho : w.ownsRow B e sz (.slice (some ⟨g, 0, none⟩) n c) n xs) (i0 : TypeInfo) (z : Value) (kn : IntKind) (ht : P.underlying t = some (.slice e)) (htn : P.underlying tn = some (.int kn))
  (hi : P.info? e = some i0) (hz : i0.zero = some z) (h4 : i0.size = sz) (hzs : z.cells.size = sz) (hsz : 0 < sz) (hk : 0 < k) (hin : i ≤ n) (hroom : c < i + k) (hbig : (i + k) * i0.bytes ≤ 140737488355328) (h63 : i + k ≤ 1099511627776) (hB : B ≤ w.heap.size) (N : Nat) (hN : i + k = N)
  (h : ∀ w' c' ys, ys.length = k * sz → w'.ownsRow B e sz (.slice (some ⟨w.heap.size, 0, none⟩) N c') N (xs.take (i * sz) ++ ys) → w.grownBy w' none → wpList P ops Q rest (a.put o.dst (.slice (some ⟨w.heap.size, 0, none⟩) N c')) w') : wpList P ops Q (o :: rest) a w := by
 subst hK hN
 obtain ⟨w', g', c', hr, rfl, ⟨ys, hy, h2⟩, h3⟩ := own_zeros ho t tn o.type i0 z kq kn ht htn hi hz h4 hzs hsz i k hk hin hroom hbig h63 hB
 exact Lib.wpList_append_run w hgd s x t tn hop _ _ hs hx _ _ hr (h w' c' ys hy h2 h3)
theorem own_apart {w : World} {tS tR e : TypeId} (ht : P.underlying tS = some (.slice e)) {size : Nat} (hz : ∀ w, (Go.sizeOf e).run P w = .ok size w) {p g : Nat} {cs cr : Array Value} {ta tb : TypeId} (hp : w.heap[p]? = some (.cells cs ta (0, 0))) (hg : w.heap[g]? = some (.cells cr tb (0, 0))) (hne : p ≠ g) (h0 : cr.size ≠ 0)
  (oa ob la ca lb cb : Nat) : (Extern.SlicesOverlaps.overlaps #[tS, tS] #[tR] #[.slice (some ⟨p, oa, none⟩) la ca, .slice (some ⟨g, ob, none⟩) lb cb]).run P w = .ok (.bool false) w :=
 Lib.run_overlaps_apart w tS tR e ht size hz ⟨p, oa, none⟩ ⟨g, ob, none⟩ la ca lb cb hne ta tb cs.size cr.size (by simp [World.shape?, hp]) (by simp [World.shape?, hg]) h0 (bx_frozen hp _) (bx_frozen hp _)
theorem own_heap {w : World} {B g n c : Nat} {e : TypeId} {sz : Nat} {xs : List Value} (ho : w.ownsRow B e sz (.slice (some ⟨g, 0, none⟩) n c) n xs) : ∃ cur : Array Value, w.heap[g]? = some (.cells cur e (0, 0)) ∧ cur.size = c * sz := by
 rcases ho.2 with ⟨h2, _⟩ | ⟨g', cap, cur, hv, hb, hg, hnc, hcm, hcs, htake⟩
 ·cases h2
 ·simp only [Value.slice.injEq, Option.some.injEq, Addr.mk.injEq] at hv
  obtain ⟨⟨rfl, _⟩, _, rfl⟩ := hv
  exact ⟨cur, hg, hcs⟩
end
theorem ownsRow_beside {w w' : World} {B : Nat} {e : TypeId} {sz : Nat} {v : Value} {n : Nat} {xs : List Value} {row : Option Nat} (h : w.ownsRow B e sz v n xs) (hg : w.grownBy w' row) (hne : ∀ k, v.ownBlock = some k → row ≠ some k) : w'.ownsRow B e sz v n xs := by
 refine ⟨h.1, ?_⟩
 rcases h.2 with h2 | ⟨g, cap, cur, hv, hb, hh, r⟩
 ·exact .inl h2
 ·refine .inr ⟨g, cap, cur, hv, hb, ?_, r⟩
  rw [hg.block g (Array.getElem?_eq_some_iff.1 hh).1 (fun he => hne g (by rw [hv]; rfl) he.symm)]
  exact hh
theorem own_cap {w : World} {B n c g : Nat} {e : TypeId} {sz : Nat} {xs : List Value} (h : w.ownsRow B e sz (.slice (some ⟨g, 0, none⟩) n c) n xs) : n ≤ c ∧ c ≤ 9223372036854775807 := by
 rcases h.2 with ⟨h2, _⟩ | ⟨g', cap, cur, hv, hb, hg, hnc, hcm, hcs, htake⟩
 ·cases h2
 ·simp only [Value.slice.injEq] at hv
  obtain ⟨_, _, rfl⟩ := hv
  exact ⟨hnc, hcm⟩
theorem grown_of_ext {w w' : World} {row : Option Nat} (h : Ext w w') : w.grownBy w' row := ⟨h.os, h.tape, h.output, h.size, fun k hk _ => h.block k hk⟩
theorem box_put {w : World} {P : Nat} {cs : Array Value} {T : TypeId} (h : w.heap[P]? = some (.cells cs T (0, 0))) (k : Nat) (u : Value) : (w.setCell ⟨P, k, none⟩ u).heap[P]? = some (.cells (cs.setIfInBounds k u) T (0, 0)) := by
 rw [setCell_eq_setRow w P k cs T (0, 0) u h]
 exact setRow_heap w P cs _ T (0, 0) h
theorem own_less_any {w w' : World} {B B' : Nat} {e : TypeId} {sz : Nat} {v : Value} {n : Nat} {xs : List Value} (h : w.ownsRow B e sz v n xs) (k : w.ownsRow B e sz v n xs → w'.ownsRow B e sz v n xs) (hB : B' ≤ B) : w'.ownsRow B' e sz v n xs := by
 have h1 := k h
 refine ⟨h1.1, ?_⟩
 rcases h1.2 with h2 | ⟨g, cap, cur, hv, hb, r⟩
 ·exact .inl h2
 ·exact .inr ⟨g, cap, cur, hv, by omega, r⟩
theorem sz_set (w : World) (p : Addr) (u : Value) : (w.setCell p u).heap.size = w.heap.size := by simp
theorem ins_new {α : Type} {enc : α → List Value} {sz : Nat} (hsz : ∀ x, (enc x).length = sz) (l : List α) (i : Nat) (hi : i < l.length) (x : α) (ys : List Value) (hy : ys.length = (l.length + 1 - i) * sz) :
  let r1 := (l.flatMap enc).take (i * sz) ++ ys
  let r2 := r1.take (i * sz) ++ enc x ++ r1.drop (i * sz + (enc x).length)
  r2.take ((i + 1) * sz) ++ (l.flatMap enc).drop (i * sz) ++ r2.drop ((i + 1) * sz + ((l.flatMap enc).drop (i * sz)).length) = (l.take i ++ x :: l.drop i).flatMap enc := by
 intro r1 r2
 have hf := flat_length hsz l
 have hle : i * sz ≤ l.length * sz := Nat.mul_le_mul_right sz (by omega)
 have ht : ((l.flatMap enc).take (i * sz)).length = i * sz := by rw [List.length_take]; omega
 have htk : (l.flatMap enc).take (i * sz) = (l.take i).flatMap enc := by
  rw [← List.take_append_drop i l, List.flatMap_append, List.take_left' (by rw [flat_length hsz, List.length_take, Nat.min_eq_left (by omega)]), List.take_append_drop]
 have hdk : (l.flatMap enc).drop (i * sz) = (l.drop i).flatMap enc := by
  rw [← List.take_append_drop i l, List.flatMap_append, List.drop_left' (by rw [flat_length hsz, List.length_take, Nat.min_eq_left (by omega)]), List.take_append_drop]
 have e1 : r1.take (i * sz) = (l.flatMap enc).take (i * sz) := List.take_left' ht
 have e2 : r2.take ((i + 1) * sz) = (l.flatMap enc).take (i * sz) ++ enc x := by
  show (r1.take (i * sz) ++ enc x ++ _).take _ = _
  rw [e1]
  exact List.take_left' (by rw [List.length_append, ht, hsz, Nat.succ_mul])
 have e3 : r2.drop ((i + 1) * sz + ((l.flatMap enc).drop (i * sz)).length) = [] := by
  refine List.drop_eq_nil_of_le ?_
  have hy2 : ys.length + i * sz = (l.length + 1) * sz := by
   rw [hy, ← Nat.add_mul]; congr 1; omega
  show (r1.take (i * sz) ++ enc x ++ r1.drop (i * sz + (enc x).length)).length ≤ _
  have hr1 : r1.length = i * sz + ys.length := by show (_ ++ ys).length = _; rw [List.length_append, ht]
  simp only [List.length_append, List.length_take, List.length_drop, hr1, hsz, hf]
  rw [Nat.succ_mul] at *
  omega
 rw [e2, e3, List.append_nil, htk, hdk]
 simp [List.flatMap_append, List.append_assoc]
theorem ins_room {α : Type} {enc : α → List Value} {sz : Nat} (hsz : ∀ x, (enc x).length = sz) (l : List α) (i : Nat) (hi : i < l.length) (x : α) (ys : List Value) (hy : ys.length = sz) :
  let r1 := l.flatMap enc ++ ys
  let r2 := r1.take ((i + 1) * sz) ++ (l.flatMap enc).drop (i * sz) ++ r1.drop ((i + 1) * sz + ((l.flatMap enc).drop (i * sz)).length)
  r2.take (i * sz) ++ enc x ++ r2.drop (i * sz + (enc x).length) = (l.take i ++ x :: l.drop i).flatMap enc := by
 intro r1 r2
 have hf := flat_length hsz l
 have hle : (i + 1) * sz ≤ l.length * sz := Nat.mul_le_mul_right sz (by omega)
 have hle' := hle
 rw [Nat.succ_mul] at hle'
 have htk : (l.flatMap enc).take (i * sz) = (l.take i).flatMap enc := by
  rw [← List.take_append_drop i l, List.flatMap_append, List.take_left' (by rw [flat_length hsz, List.length_take, Nat.min_eq_left (by omega)]), List.take_append_drop]
 have hdk : (l.flatMap enc).drop (i * sz) = (l.drop i).flatMap enc := by
  rw [← List.take_append_drop i l, List.flatMap_append, List.drop_left' (by rw [flat_length hsz, List.length_take, Nat.min_eq_left (by omega)]), List.take_append_drop]
 have e0 : r1.drop ((i + 1) * sz + ((l.flatMap enc).drop (i * sz)).length) = [] := by
  refine List.drop_eq_nil_of_le ?_
  show (l.flatMap enc ++ ys).length ≤ _
  simp only [List.length_append, List.length_drop, hf, hy]
  rw [Nat.succ_mul]
  omega
 have hr1 : (r1.take ((i + 1) * sz)).length = (i + 1) * sz := by
  rw [List.length_take]
  show min _ (l.flatMap enc ++ ys).length = _
  rw [List.length_append, hf]; omega
 have e1 : r2.take (i * sz) = (l.flatMap enc).take (i * sz) := by
  show (r1.take ((i + 1) * sz) ++ _ ++ _).take (i * sz) = _
  rw [List.append_assoc, List.take_append_of_le_length (by rw [hr1, Nat.succ_mul]; omega), List.take_take, Nat.min_eq_left (by rw [Nat.succ_mul]; omega)]
  show (l.flatMap enc ++ ys).take (i * sz) = _
  rw [List.take_append_of_le_length (by omega)]
 have e2 : r2.drop (i * sz + (enc x).length) = (l.flatMap enc).drop (i * sz) := by
  show (r1.take ((i + 1) * sz) ++ _ ++ _).drop _ = _
  rw [e0, List.append_nil]
  exact List.drop_left' (by rw [hr1, hsz, Nat.succ_mul])
 rw [e1, e2, htk, hdk]
 simp [List.flatMap_append, List.append_assoc]
end Go.Proofs.YtmphedkbdlckhaaGreat
