/- append of a row that is read to a row of one's own. No program in sight. -/
import Derived.Test.YtpghedeghoegmaaGb
import Derived.Laws.OwnMore
import Derived.Laws.AppendOwn
namespace Go.Proofs.Ytpghedeghoegmaa
open Go.ChangeShapes Go.WideShapes Go.ChangeAt Go.RowKit Go.Sort
set_option linter.unusedVariables false

theorem run_append_none {P : Program} {w : World} {t ty e : TypeId} {i : TypeInfo} {size base c : Nat} (ht : P.underlying t = some (.slice e)) (hi : P.info? e = some i)
    (v : Value) (n : Nat) (xs : List Value) (hown : w.ownsRow base e size v n xs) :
    (Builtin.append_ #[t, t] ty #[v, .slice none 0 c]).run P w = .ok v w := by
  rcases hown.2 with ⟨rfl, rfl⟩ | ⟨g, cap, cur, rfl, _, _, hnc, _⟩
  · simp [Builtin.append_, run_underlying ht, sizeOf, typeInfo, hi, Builtin.lenOf, Builtin.firstCells]
  · simp [Builtin.append_, run_underlying ht, sizeOf, typeInfo, hi, Builtin.lenOf, Builtin.firstCells, hnc, storeCells]

theorem wp_app {P : Program} {α : Type} {enc : α → List Value} {o : Oper} {a : Act} {w : World} {K : Act → World → Prop} {Q : Exit → Act → World → Prop} (s x : Operand) (t : TypeId)
    (ho : o.op = .call { callee := .builtin .append, args := #[s, x], argTypes := #[t, t] })
    (base : Nat) (e : TypeId) (i : TypeInfo) (z : Value) (size bytes : Nat) (ht : P.underlying t = some (.slice e)) (hi : P.info? e = some i) (hz : i.zero = some z)
    (hsize : i.size = size) (hby : i.bytes = bytes) (hzs : z.cells.size = size) (hsz : 0 < size) (hlen : ∀ x, (enc x).length = size) (hone : ∀ x, ∀ u ∈ enc x, u.oneCell' = true)
    (v : Value) (l0 : List α) (hs : a.eval s = v) (hown : Ow enc e size w base v l0) (A : Option Addr) (c : Nat) (l : List α) (n : Nat) (hn : n = l.length) (hx : a.eval x = .slice A n c) (hr : Rd enc size w A c l)
    (h63 : l0.length + l.length ≤ maxLen) (hbytes : (l0.length + l.length) * bytes ≤ 140737488355328) (hbase : base ≤ w.heap.size)
    (h : ∀ v' w', Ow enc e size w' base v' (l0 ++ l) → w.grownBy w' v.ownBlock → K (a.put o.dst v') w') : o.wp P a w K Q := by
  subst hn
  cases A with
  | none =>
    have h0 := hr.none_len
    obtain rfl : l = [] := List.eq_nil_of_length_eq_zero h0
    have hrun := run_append_none (P := P) (w := w) (ty := o.type) (c := c) ht hi v _ _ hown
    unfold Oper.wp execOp
    simp only [ho, resolve, invoke, builtin, Sem.run_bind, Sem.run_pure, Result.andThen_ok, List.map_toArray, List.map_cons, List.map_nil, hs, hx, List.length_nil, hrun]
    exact h v w (by simpa using hown) (World.grownBy.refl _ _)
  | some ad =>
    refine wp_append_own w s x t ho base e i z size bytes ht hi hz hsize hby hzs hsz v _ _ hs hown ad l.length c (l.flatMap enc) hx (flat_length hlen l) (hr.flat hsz hlen) (flat_one hone l) h63 hbytes hbase (fun v' w' ho' hg _ => h v' w' ?_ hg)
    unfold Ow
    rw [List.length_append, List.flatMap_append]
    exact ho'
theorem wl_app {P : Program} {α : Type} {enc : α → List Value} {ops : Array Oper} {rest : List Oper} {o : Oper} {a : Act} {w : World} {Q : Exit → Act → World → Prop} (hgd : o.guard = none) (s x : Operand) (t : TypeId)
    (ho : o.op = .call { callee := .builtin .append, args := #[s, x], argTypes := #[t, t] })
    (base : Nat) (e : TypeId) (i : TypeInfo) (z : Value) (size bytes : Nat) (ht : P.underlying t = some (.slice e)) (hi : P.info? e = some i) (hz : i.zero = some z)
    (hsize : i.size = size) (hby : i.bytes = bytes) (hzs : z.cells.size = size) (hsz : 0 < size) (hlen : ∀ x, (enc x).length = size) (hone : ∀ x, ∀ u ∈ enc x, u.oneCell' = true)
    (v : Value) (l0 : List α) (hs : a.eval s = v) (hown : Ow enc e size w base v l0) (A : Option Addr) (c : Nat) (l : List α) (n : Nat) (hn : n = l.length) (hx : a.eval x = .slice A n c) (hr : Rd enc size w A c l)
    (h63 : l0.length + l.length ≤ maxLen) (hbytes : (l0.length + l.length) * bytes ≤ 140737488355328) (hbase : base ≤ w.heap.size)
    (h : ∀ v' w', Ow enc e size w' base v' (l0 ++ l) → w.grownBy w' v.ownBlock → wpList P ops Q rest (a.put o.dst v') w') : wpList P ops Q (o :: rest) a w :=
  wpList_plain hgd fun _ hK => wp_app s x t ho base e i z size bytes ht hi hz hsize hby hzs hsz hlen hone v l0 hs hown A c l n hn hx hr h63 hbytes hbase fun v' w' h2 h3 => hK _ _ (h v' w' h2 h3)
/-- an empty row that was just laid is one's own -/
theorem own_empty {α : Type} {enc : α → List Value} {e : TypeId} {sz : Nat} {w : World} {p B : Nat} (h : w.heap[p]? = some (.cells #[] e (0, 0))) (hB : B ≤ p) : Ow enc e sz w B (.slice (some ⟨p, 0, none⟩) 0 0) ([] : List α) :=
  ⟨by simp, .inr ⟨p, 0, #[], rfl, hB, h, Nat.le_refl _, by unfold maxLen; omega, by simp, by simp⟩⟩
theorem Rd.take {α : Type} {enc : α → List Value} {sz : Nat} {w : World} {A : Option Addr} {c : Nat} {l : List α} (h : Rd enc sz w A c l) (n : Nat) : Rd enc sz w A c (l.take n) := by
  refine ⟨Nat.le_trans (by simp; omega) h.1, h.2.1, fun h0 => ?_⟩
  have hl : 0 < l.length := by
    rw [List.length_take] at h0; omega
  obtain ⟨b, o, e, hb, hc⟩ := h.2.2 hl
  refine ⟨b, o, e, hb, fun k hk j u hu => ?_⟩
  have hk2 : k < l.length := by rw [List.length_take] at hk; omega
  refine hc k hk2 j u ?_
  rw [List.getElem_take] at hu
  exact hu
end Go.Proofs.Ytpghedeghoegmaa
