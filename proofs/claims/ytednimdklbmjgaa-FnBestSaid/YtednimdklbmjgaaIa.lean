/- slices.Delete at cells, slices.Insert at an empty row, and the program's put. -/
import Derived.Test.YtednimdklbmjgaaRa
import Derived.Test.YtednimdklbmjgaaInC
import Derived.Test.YtednimdklbmjgaaCp
namespace Go.Proofs.Ytednimdklbmjgaa
open Go.ChangeShapes Go.WideShapes Go.ChangeAt Go.RowKit Go.Sort
set_option linter.unusedVariables false
set_option linter.unusedSimpArgs false

/-- where the part behind the one left out lies -/
def DelAt (ado : Option Addr) (m g off : Nat) : Prop := ∃ ad, ado = some ad ∧ (m = 0 ∨ ad = ⟨g, off, none⟩)
section
variable {P : Program} {α : Type} {enc : α → List Value} {ops : Array Oper} {rest : List Oper} {o : Oper} {a : Act} {w : World} {Q : Exit → Act → World → Prop}
/-- one element left out: the part behind it moved down, in place -/
theorem wl_appDel (hgd : o.guard = none) (s x : Operand) (t e : TypeId) (i : TypeInfo) (size : Nat) (ho : o.op = .call { callee := .builtin .append, args := #[s, x], argTypes := #[t, t] })
    (ht : P.underlying t = some (.slice e)) (hi : P.info? e = some i) (hsize : i.size = size) (hsz : 0 < size) (hlen : ∀ x, (enc x).length = size) (hone : ∀ x, ∀ u ∈ enc x, u.oneCell' = true)
    (B g c : Nat) (l : List α) (k : Nat) (hk : k < l.length) (hown : Ow enc e size w B (.slice (some ⟨g, 0, none⟩) l.length c) l) (hs : a.eval s = .slice (some ⟨g, 0, none⟩) k c)
    (ado : Option Addr) (m c2 : Nat) (hx : a.eval x = .slice ado m c2) (hado : DelAt ado m g ((k + 1) * size)) (hm : m = l.length - (k + 1))
    (h : ∀ W cur, W.heap[g]? = some (.cells cur e (0, 0)) → cur.size = c * size → cur.toList.take ((l.length - 1) * size) = (l.take k ++ l.drop (k + 1)).flatMap enc → Chg w W [g] → wpList P ops Q rest (a.put o.dst (.slice (some ⟨g, 0, none⟩) (l.length - 1) c)) W) : wpList P ops Q (o :: rest) a w := by
  subst hsize hm
  obtain ⟨ad, rfl, had⟩ := hado
  rcases hown.2 with ⟨he, _⟩ | ⟨g', cap, cur, he, hbg, hgg, hnc, hcm, hcs, htake⟩
  · simp at he
  simp only [Value.slice.injEq, Option.some.injEq, Addr.mk.injEq, and_true, true_and] at he
  obtain ⟨rfl, rfl⟩ := he
  have hfl : (l.flatMap enc).length = l.length * i.size := hown.1
  have hD : ((l.drop (k + 1)).flatMap enc).length = (l.length - (k + 1)) * i.size := by rw [flat_length hlen, List.length_drop]
  have hT : ((l.take k).flatMap enc).length = k * i.size := by rw [flat_length hlen, List.length_take, Nat.min_eq_left (by omega)]
  have hT1 : ((l.take (k + 1)).flatMap enc).length = (k + 1) * i.size := by rw [flat_length hlen, List.length_take, Nat.min_eq_left (by omega)]
  have hsplit : l.flatMap enc = (l.take k).flatMap enc ++ (l.drop k).flatMap enc := by rw [← List.flatMap_append, List.take_append_drop]
  have hsplit1 : l.flatMap enc = (l.take (k + 1)).flatMap enc ++ (l.drop (k + 1)).flatMap enc := by rw [← List.flatMap_append, List.take_append_drop]
  have hcells : ∀ j u, (l.flatMap enc)[j]? = some u → w.cell? ((⟨g, 0, none⟩ : Addr).add j) = some u := World.ownsRow.cells hown rfl
  have hnews : ∀ j u, ((l.drop (k + 1)).flatMap enc)[j]? = some u → w.cell? (ad.add j) = some u := fun j u hu => by
    rcases had with h0 | rfl
    · have := (List.getElem?_eq_some_iff.1 hu).1
      rw [hD, h0, Nat.zero_mul] at this
      omega
    have h1 := hcells ((k + 1) * i.size + j) u (by rw [hsplit1, List.getElem?_append_right (by omega), hT1]; simpa using hu)
    rw [Addr.add_lit] at h1 ⊢
    rw [Nat.zero_add] at h1
    exact h1
  have hmul : k * i.size + (l.length - (k + 1)) * i.size = (l.length - 1) * i.size := by rw [← Nat.add_mul]; congr 1; omega
  have hle : (l.length - 1) * i.size ≤ c * i.size := Nat.mul_le_mul_right _ (by omega)
  have hrun := run_append_room (P := P) (w := w) t o.type e i ht hi g k c cur hgg ad (l.length - (k + 1)) c2 ((l.drop (k + 1)).flatMap enc) hD hnews (flat_one hone _) (by omega) (by rw [hD, hcs, hmul]; exact hle)
  refine wpList_plain hgd fun K hK => ?_
  unfold Oper.wp execOp
  rw [show k + (l.length - (k + 1)) = l.length - 1 by omega] at hrun
  simp only [ho, resolve, invoke, builtin, Sem.run_bind, Sem.run_pure, Result.andThen_ok, List.map_toArray, List.map_cons, List.map_nil, hs, hx, hrun]
  have htk : cur.toList.take (k * i.size) = (l.take k).flatMap enc := by
    have h1 : cur.toList.take (k * i.size) = (cur.toList.take (l.length * i.size)).take (k * i.size) := by rw [List.take_take, Nat.min_eq_left (Nat.mul_le_mul_right _ (by omega))]
    rw [h1, htake, hsplit, ← hT]
    exact List.take_left
  refine hK _ _ (h _ _ (setRow_heap w g cur _ e (0, 0) hgg) ?_ ?_ (chg_setRow w g _))
  · simp only [List.size_toArray, List.length_append, List.length_take, List.length_drop, Array.length_toList, hD, hcs]
    have : k * i.size ≤ c * i.size := Nat.mul_le_mul_right _ (by omega)
    omega
  · rw [htk, ← List.flatMap_append]
    have hl : ((l.take k ++ l.drop (k + 1)).flatMap enc).length = (l.length - 1) * i.size := by rw [List.flatMap_append, List.length_append, hT, hD, hmul]
    rw [← hl]
    show ((l.take k ++ l.drop (k + 1)).flatMap enc ++ _).take _ = _
    exact List.take_left
/-- the last element's cells become zero -/
theorem run_clear1 (t e : TypeId) (i : TypeInfo) (z : Value) (size : Nat) (ht : P.underlying t = some (.slice e)) (hi : P.info? e = some i) (hz : i.zero = some z) (hzc : (Builtin.zeroCells z.cells 1).toList.length = size) (hzo : ∀ u ∈ (Builtin.zeroCells z.cells 1).toList, u.oneCell' = true)
    (g q : Nat) (cur : Array Value) (hg : w.heap[g]? = some (.cells cur e (0, 0))) (hfit : q * size + size ≤ cur.size) :
    ∃ W cur', (∀ ty c, (Builtin.clear_ #[t] ty #[.slice (some ⟨g, q * size, none⟩) 1 c]).run P w = .ok (.tuple #[]) W) ∧ W.heap[g]? = some (.cells cur' e (0, 0)) ∧ cur'.size = cur.size ∧ cur'.toList.take (q * size) = cur.toList.take (q * size) ∧ Chg w W [g] := by
  have hst := run_storeCells_at P g (q * size) e (Builtin.zeroCells z.cells 1).toList 0 cur w hg (by rw [hzc]; omega) hzo
  have hv : (zeroValue e).run P w = .ok z w := by simp [zeroValue, typeInfo, hi, hz, go_sem]
  have h1 : (cur.toList.take (q * size)).length = q * size := by rw [List.length_take, Array.length_toList]; omega
  refine ⟨w.setRow g (cur.toList.take (q * size + 0) ++ (Builtin.zeroCells z.cells 1).toList ++ cur.toList.drop (q * size + 0 + (Builtin.zeroCells z.cells 1).toList.length)).toArray, _, fun ty c => ?_, setRow_heap w g cur _ e (0, 0) hg, ?_, ?_, chg_setRow w g _⟩
  · simp only [Builtin.clear_, List.getElem?_toArray, List.getElem?_cons_zero, Sem.run_bind, run_underlying ht, Result.andThen_ok, hv, hst]
    rfl
  · simp only [List.size_toArray, List.length_append, List.length_take, List.length_drop, Array.length_toList, hzc, Nat.add_zero]
    omega
  · rw [Nat.add_zero]
    have h2 : (cur.toList.take (q * size) ++ (Builtin.zeroCells z.cells 1).toList ++ cur.toList.drop (q * size + (Builtin.zeroCells z.cells 1).toList.length)).take (q * size) = cur.toList.take (q * size) := by
      rw [List.append_assoc]
      have h3 := List.take_left (l₁ := cur.toList.take (q * size)) (l₂ := (Builtin.zeroCells z.cells 1).toList ++ cur.toList.drop (q * size + (Builtin.zeroCells z.cells 1).toList.length))
      rw [h1] at h3
      exact h3
    exact h2
end

end Go.Proofs.Ytednimdklbmjgaa
