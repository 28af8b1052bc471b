/- append to a row that is one's own or has no room. No program in sight. -/
import Derived.Test.YtednimdklbmjgaaGk
import Derived.Test.YtednimdklbmjgaaAp
import Derived.Test.YtednimdklbmjgaaRet
namespace Go.Proofs.Ytednimdklbmjgaa
open Go.ChangeShapes Go.WideShapes Go.ChangeAt Go.RowKit Go.Sort
set_option linter.unusedVariables false
set_option linter.unusedSimpArgs false

/-- the blocks lie in or above the base, and hold rows of that type -/
def Typd (w : World) (S : List Nat) (base : Nat) (e : TypeId) : Prop := ∀ k ∈ S, base ≤ k ∧ ∃ cur, w.heap[k]? = some (.cells cur e (0, 0))
theorem Typd.box {w : World} {S : List Nat} {base : Nat} {e T : TypeId} (h : Typd w S base e) {p : Nat} {cs : Array Value} (hb : w.heap[p]? = some (.cells cs T (0, 0))) (hne : T ≠ e) : p ∉ S := fun hm => by
  obtain ⟨_, cur, h2⟩ := h p hm
  rw [h2] at hb
  simp only [Option.some.injEq, Obj.cells.injEq] at hb
  exact hne hb.2.1.symm
theorem Typd.row {w : World} {S : List Nat} {base : Nat} {e e' : TypeId} (h : Typd w S base e) {α : Type} {enc : α → List Value} {sz : Nat} {B : Nat} {A : Option Addr} {c : Nat} {l : List α} (hr : RdF enc e' sz w B A c l) (hne : e' ≠ e) : 0 < c → ∀ k ∈ blk A, k ∉ S := fun h0 k hk hm => by
  obtain ⟨_, cur, h2⟩ := h k hm
  exact box_apart h2 (hr.2 h0) (Ne.symm hne) hk
theorem Typd.gr {w0 w w' : World} {S : List Nat} {base : Nat} {e : TypeId} {row : Option Nat} (h : Typd w S base e) (hg : w0.grownBy w row) (hc : Chg w w' S) (hb : w0.heap.size ≤ base) : w0.grownBy w' row :=
  ⟨hc.os.trans hg.os, hc.tape.trans hg.tape, hc.output.trans hg.output, Nat.le_trans hg.size hc.size, fun k hk hne => (hc.block k (Nat.lt_of_lt_of_le hk hg.size) (fun hm => by have := (h k hm).1; omega)).trans (hg.block k hk hne)⟩
theorem box_out {w w' : World} {S : List Nat} {p : Nat} {o : Obj} (h : w.heap[p]? = some o) (hg : Chg w w' S) (hn : p ∉ S) : w'.heap[p]? = some o := (hg.block p (bx_lt h) hn).trans h

theorem wl_appC {P : Program} {α : Type} {enc : α → List Value} {ops : Array Oper} {rest : List Oper} {o : Oper} {a : Act} {w : World} {Q : Exit → Act → World → Prop} (hgd : o.guard = none) (s x : Operand) (t : TypeId)
    (ho : o.op = .call { callee := .builtin .append, args := #[s, x], argTypes := #[t, t] })
    (base : Nat) (e : TypeId) (i : TypeInfo) (z : Value) (size bytes : Nat) (ht : P.underlying t = some (.slice e)) (hi : P.info? e = some i) (hz : i.zero = some z)
    (hsize : i.size = size) (hby : i.bytes = bytes) (hzs : z.cells.size = size) (hsz : 0 < size) (hlen : ∀ x, (enc x).length = size)
    (ad : Addr) (hs : a.eval s = .slice (some ad) 0 0) (A : Option Addr) (c : Nat) (l : List α) (n : Nat) (hn : n = l.length) (hpos : 0 < l.length) (hx : a.eval x = .slice A n c) (hr : Rd enc size w A c l)
    (h63 : l.length ≤ maxLen) (hbytes : l.length * bytes ≤ 140737488355328) (hbase : base ≤ w.heap.size)
    (h : ∀ v' w', Ow enc e size w' base v' l → Ext w w' → wpList P ops Q rest (a.put o.dst v') w') : wpList P ops Q (o :: rest) a w := by
  subst hn
  subst hsize
  subst hby
  refine wpList_plain hgd fun _ hK => ?_
  have hsmall : l.length ≤ 9223372036854775807 := by simp only [maxLen] at h63; omega
  obtain ⟨ad2, rfl⟩ := hr.base hpos
  have hf := flat_length hlen l
  have hrun := run_append_grow (P := P) (w := w) t o.type e i z ht hi hz ad 0 0 [] (by simp) (by simp) ad2 l.length c (l.flatMap enc) hf (hr.flat hsz hlen) (by omega) (by omega) (growslice_fits (by omega) (by simpa using hbytes))
  have hge := grownCap_ge w (0 + l.length) 0 e
  have hcm : grownCap w (0 + l.length) 0 e ≤ maxLen := grownCap_le_maxLen w (0 + l.length) 0 e (by simpa using h63)
  generalize grownCap w (0 + l.length) 0 e = G at hrun hge hcm
  have hown : Ow enc e i.size (w.drew.alloc (.cells (([] : List Value).toArray ++ (l.flatMap enc).toArray ++ Builtin.zeroCells z.cells (G - (0 + l.length))) e)) base (.slice (some ⟨w.heap.size, 0, none⟩) l.length G) l := by
    refine ⟨hf, .inr ⟨w.heap.size, _, _, rfl, hbase, heap_alloc_new w.drew _, by omega, hcm, ?_, ?_⟩⟩
    · simp only [Array.size_append, List.size_toArray, List.length_nil, size_zeroCells, hzs, hf, Nat.zero_add]
      rw [← Nat.add_mul]
      congr 1
      omega
    · simp only [Array.toList_append, List.append_assoc, List.nil_append]
      rw [← hf]
      exact List.take_left
  unfold Oper.wp execOp
  simp only [ho, resolve, invoke, builtin, Sem.run_bind, Sem.run_pure, Result.andThen_ok, List.map_toArray, List.map_cons, List.map_nil, hs, hx, hrun, Nat.zero_add]
  rw [Nat.zero_add] at hown
  exact hK _ _ (h _ _ hown ((ext_drew (ext_refl w)).trans (ext_alloc _ _)))

theorem wl_appF {P : Program} {α : Type} {enc : α → List Value} {ops : Array Oper} {rest : List Oper} {o : Oper} {a : Act} {w : World} {Q : Exit → Act → World → Prop} (hgd : o.guard = none) (s x : Operand) (t : TypeId)
    (ho : o.op = .call { callee := .builtin .append, args := #[s, x], argTypes := #[t, t] })
    (base : Nat) (e : TypeId) (i : TypeInfo) (z : Value) (size bytes : Nat) (ht : P.underlying t = some (.slice e)) (hi : P.info? e = some i) (hz : i.zero = some z)
    (hsize : i.size = size) (hby : i.bytes = bytes) (hzs : z.cells.size = size) (hsz : 0 < size) (hlen : ∀ x, (enc x).length = size) (hone : ∀ x, ∀ u ∈ enc x, u.oneCell' = true)
    (A0 : Option Addr) (c0 : Nat) (l0 : List α) (m0 : Nat) (hm0 : m0 = l0.length) (hs : a.eval s = .slice A0 m0 c0) (hr0 : RdF enc e size w base A0 c0 l0) (A : Option Addr) (c : Nat) (l : List α) (n : Nat) (hn : n = l.length) (hpos : 0 < l.length) (hx : a.eval x = .slice A n c) (hr : Rd enc size w A c l)
    (h63 : l0.length + l.length ≤ maxLen) (hbytes : (l0.length + l.length) * bytes ≤ 140737488355328) (hbase : base ≤ w.heap.size)
    (h : ∀ v' w' S, Ow enc e size w' base v' (l0 ++ l) → Chg w w' S → Typd w S base e → wpList P ops Q rest (a.put o.dst v') w') : wpList P ops Q (o :: rest) a w := by
  subst hm0
  by_cases h0 : c0 = 0
  · subst h0
    have hl := hr0.1.1
    obtain rfl : l0 = [] := List.eq_nil_of_length_eq_zero (by omega)
    cases A0 with
    | none =>
      refine wl_app hgd s x t ho base e i z size bytes ht hi hz hsize hby hzs hsz hlen hone _ [] hs ⟨by simp, .inl ⟨rfl, rfl⟩⟩ A c l n hn hx hr h63 hbytes hbase fun v' w' h2 h3 => h v' w' [] h2 ⟨h3.os, h3.tape, h3.output, h3.size, fun k hk _ => h3.block k hk (by simp [Value.ownBlock])⟩ (fun k hk => by simp at hk)
    | some ad =>
      refine wl_appC hgd s x t ho base e i z size bytes ht hi hz hsize hby hzs hsz hlen ad hs A c l n hn hpos hx hr (by simpa using h63) (by simpa using hbytes) hbase fun v' w' h2 h3 => h v' w' [] h2 (chg_ext _ h3) (fun k hk => by simp at hk)
  · have hown := hr0.2 (by omega)
    refine wl_app hgd s x t ho base e i z size bytes ht hi hz hsize hby hzs hsz hlen hone _ l0 hs hown A c l n hn hx hr h63 hbytes hbase fun v' w' h2 h3 => h v' w' (blk A0) h2 (chg_grown h3) (fun k hk => ?_)
    refine ⟨(hown.inB k hk).1, ?_⟩
    rcases hown.2 with ⟨hv, _⟩ | ⟨g, cap, cur, hv, hb, hh, _⟩
    · simp only [Value.slice.injEq] at hv
      rw [hv.1] at hk
      simp [blk] at hk
    · simp only [Value.slice.injEq] at hv
      rw [hv.1] at hk
      simp only [blk, List.mem_singleton] at hk
      subst hk
      exact ⟨cur, hh⟩
end Go.Proofs.Ytednimdklbmjgaa
