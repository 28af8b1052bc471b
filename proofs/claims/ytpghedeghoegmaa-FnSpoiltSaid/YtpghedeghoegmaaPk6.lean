/- Copies of images and logs, of the program. -/
import Derived.Test.YtpghedeghoegmaaPk5
import Derived.Test.YtpghedeghoegmaaPk4
import Derived.Laws.OwnMore
import Derived.Laws.AppendOwn
import Derived.Test.YtpghedeghoegmaaPk3
namespace Go.Proofs.Ytpghedeghoegmaa
open Go.ChangeShapes Go.WideShapes Go.ChangeAt Go.RowKit Go.Sort
set_option linter.unusedVariables false
set_option linter.unusedSimpArgs false
theorem Ow.apart {α β : Type} {eα : α → List Value} {eβ : β → List Value} {t u : TypeId} {sα sβ : Nat} {w : World} {B B' : Nat} {A A' : Option Addr} {n n' c c' : Nat} {l : List α} {m : List β} (h : Ow eα t sα w B (.slice A n c) l) (k : Ow eβ u sβ w B' (.slice A' n' c') m) (hne : t ≠ u) : ∀ x ∈ blk A, x ∉ blk A' := fun x hx hy => by
 have e1 := (ownBlock_blk A n c x).2 hx
 have e2 := (ownBlock_blk A' n' c' x).2 hy
 rcases h.2 with ⟨h2, _⟩ | ⟨g, cap, cur, hv, hb, hh, r⟩
 ·rw [h2] at e1; cases e1
 ·rcases k.2 with ⟨k2, _⟩ | ⟨g', cap', cur', kv, kb, kh, r'⟩
  ·rw [k2] at e2; cases e2
  ·rw [hv] at e1
   rw [kv] at e2
   simp only [Value.ownBlock, Option.some.injEq] at e1 e2
   subst e1
   subst e2
   rw [hh] at kh
   simp at kh
   exact hne kh.2
theorem Ow.nodup {α : Type} {eα : α → List Value} {t : TypeId} {sα : Nat} {w : World} {B : Nat} {A : Option Addr} {n c : Nat} {l : List α} (h : Ow eα t sα w B (.slice A n c) l) : (blk A).Nodup := by cases A <;> simp [blk]
theorem Ow.chg1 {α : Type} {enc : α → List Value} {e : TypeId} {sz : Nat} {w w' : World} {B g : Nat} {A : Option Addr} {n c : Nat} {l : List α} (h : Ow enc e sz w B (.slice A n c) l) (hg : Chg w w' [g]) (hlt : g < B) : Ow enc e sz w' B (.slice A n c) l :=
 h.chg hg (fun k hk hm => by rw [Mi] at hm; have := (h.inB k hk).1; omega)
def LgV (w : World) (B : Nat) (cs : List Cel) (ss : List Sea) (v : Value) : Prop := ∃ A c A' c', v = .agg #[.slice A cs.length c, .slice A' ss.length c'] ∧ Ow Cel.enc 101 2 w B (.slice A cs.length c) cs ∧ Ow Sea.enc 103 3 w B (.slice A' ss.length c') ss
theorem LgV.mono (B : Nat) (cs : List Cel) (ss : List Sea) : Mono (fun v w => LgV w B cs ss v) := fun v w w' ⟨A, c, A', c', hv, h1, h2⟩ hx => ⟨A, c, A', c', hv, h1.kept hx, h2.kept hx⟩
theorem lgO_of {w : World} {B : Nat} {cA sA eA : Option Addr} {cc sc ec : Nat} {l : Lg} (h1 : Ow Cel.enc 101 2 w B (.slice cA l.cells.length cc) l.cells) (h2 : Ow Sea.enc 103 3 w B (.slice sA l.seats.length sc) l.seats) (h3 : Ow Ent.enc 105 5 w B (.slice eA l.ents.length ec) l.ents) :
  LgO w B w.heap.size ⟨cA, cc, sA, sc, eA, ec⟩ l := by
 refine ⟨h1, h2, h3, ?_, fun k hk => ?_⟩
 ·unfold LAd.fp
  rw [List.nodup_append, List.nodup_append]
  refine ⟨⟨h1.nodup, h2.nodup, fun x hx y hy e => ?_⟩, h3.nodup, fun x hx y hy e => ?_⟩
  ·subst e; exact h1.apart h2 (by decide) x hx hy
  ·subst e
   rcases List.mem_append.1 hx with hx | hx
   ·exact h1.apart h3 (by decide) x hx hy
   ·exact h2.apart h3 (by decide) x hx hy
 ·unfold LAd.fp at hk
  rw [List.mem_append, List.mem_append] at hk
  rcases hk with (hk | hk) | hk
  ·exact (h1.inB k hk).2
  ·exact (h2.inB k hk).2
  ·exact (h3.inB k hk).2
theorem run_append_none {P : Program} {w : World} {t ty e : TypeId} {i : TypeInfo} {size base c : Nat} (ht : P.underlying t = some (.slice e)) (hi : P.info? e = some i)
  (v : Value) (n : Nat) (xs : List Value) (hown : w.ownsRow base e size v n xs) :
  (Builtin.append_ #[t, t] ty #[v, .slice none 0 c]).run P w = .ok v w := by
 rcases hown.2 with ⟨rfl, rfl⟩ | ⟨g, cap, cur, rfl, _, _, hnc, _⟩
 ·simp [Builtin.append_, run_underlying ht, sizeOf, typeInfo, hi, Builtin.lenOf, Builtin.firstCells]
 ·simp [Builtin.append_, run_underlying ht, sizeOf, typeInfo, hi, Builtin.lenOf, Builtin.firstCells, hnc, storeCells]
theorem wp_app {P : Program} {α : Type} {enc : α → List Value} {o : Oper} {a : Act} {w : World} {K : Act → World → Prop} {Q : Exit → Act → World → Prop} (s x : Operand) (t : TypeId)
  (ho : o.op = .call { callee := .builtin .append, args := #[s, x], argTypes := #[t, t] })
  (base : Nat) (e : TypeId) (i : TypeInfo) (z : Value) (size bytes : Nat) (ht : P.underlying t = some (.slice e)) (hi : P.info? e = some i) (hz : i.zero = some z)
  (hsize : i.size = size) (hby : i.bytes = bytes) (hzs : z.cells.size = size) (hsz : 0 < size) (hlen : ∀ x, (enc x).length = size) (hone : ∀ x, ∀ u ∈ enc x, u.oneCell' = true)
  (v : Value) (l0 : List α) (hs : a.eval s = v) (hown : Ow enc e size w base v l0) (A : Option Addr) (c : Nat) (l : List α) (n : Nat) (hn : n = l.length) (hx : a.eval x = .slice A n c) (hr : Rd enc size w A c l)
  (h63 : l0.length + l.length ≤ maxLen) (hbytes : (l0.length + l.length) * bytes ≤ 140737488355328) (hbase : base ≤ w.heap.size)
  (h : ∀ v' w', Ow enc e size w' base v' (l0 ++ l) → w.grownBy w' v.ownBlock → K (a.put o.dst v') w') : o.wp P a w K Q := by
 subst hn
 cases A with
 | none =>
  have h0 := hr.none_len
  obtain rfl : l = [] := List.eq_nil_of_length_eq_zero h0
  have hrun := run_append_none (P := P) (w := w) (ty := o.type) (c := c) ht hi v _ _ hown
  unfold Oper.wp execOp
  simp only [ho, resolve, invoke, builtin, Sem.run_bind, Sem.run_pure, Result.andThen_ok, List.map_toArray, List.map_cons, List.map_nil, hs, hx, List.length_nil, hrun]
  exact h v w (by simpa using hown) (World.grownBy.refl _ _)
 | some ad =>
  refine wp_append_own w s x t ho base e i z size bytes ht hi hz hsize hby hzs hsz v _ _ hs hown ad l.length c (l.flatMap enc) hx (flat_length hlen l) (hr.flat hsz hlen) (flat_one hone l) h63 hbytes hbase (fun v' w' ho' hg _ => h v' w' ?_ hg)
  unfold Ow
  rw [List.length_append, List.flatMap_append]
  exact ho'
theorem wl_app {P : Program} {α : Type} {enc : α → List Value} {ops : Array Oper} {rest : List Oper} {o : Oper} {a : Act} {w : World} {Q : Exit → Act → World → Prop} (hgd : o.guard = none) (s x : Operand) (t : TypeId)
  (ho : o.op = .call { callee := .builtin .append, args := #[s, x], argTypes := #[t, t] })
  (base : Nat) (e : TypeId) (i : TypeInfo) (z : Value) (size bytes : Nat) (ht : P.underlying t = some (.slice e)) (hi : P.info? e = some i) (hz : i.zero = some z)
  (hsize : i.size = size) (hby : i.bytes = bytes) (hzs : z.cells.size = size) (hsz : 0 < size) (hlen : ∀ x, (enc x).length = size) (hone : ∀ x, ∀ u ∈ enc x, u.oneCell' = true)
  (v : Value) (l0 : List α) (hs : a.eval s = v) (hown : Ow enc e size w base v l0) (A : Option Addr) (c : Nat) (l : List α) (n : Nat) (hn : n = l.length) (hx : a.eval x = .slice A n c) (hr : Rd enc size w A c l)
  (h63 : l0.length + l.length ≤ maxLen) (hbytes : (l0.length + l.length) * bytes ≤ 140737488355328) (hbase : base ≤ w.heap.size)
  (h : ∀ v' w', Ow enc e size w' base v' (l0 ++ l) → w.grownBy w' v.ownBlock → wpList P ops Q rest (a.put o.dst v') w') : wpList P ops Q (o :: rest) a w :=
 wpList_plain hgd fun _ hK => wp_app s x t ho base e i z size bytes ht hi hz hsize hby hzs hsz hlen hone v l0 hs hown A c l n hn hx hr h63 hbytes hbase fun v' w' h2 h3 => hK _ _ (h v' w' h2 h3)
theorem own_empty {α : Type} {enc : α → List Value} {e : TypeId} {sz : Nat} {w : World} {p B : Nat} (h : w.heap[p]? = some (.cells #[] e (0, 0))) (hB : B ≤ p) : Ow enc e sz w B (.slice (some ⟨p, 0, none⟩) 0 0) ([] : List α) :=
 ⟨by simp, .inr ⟨p, 0, #[], rfl, hB, h, Nat.le_refl _, by unfold maxLen; omega, by simp, by simp⟩⟩
theorem Rd.take {α : Type} {enc : α → List Value} {sz : Nat} {w : World} {A : Option Addr} {c : Nat} {l : List α} (h : Rd enc sz w A c l) (n : Nat) : Rd enc sz w A c (l.take n) := by
 refine ⟨Nat.le_trans (by simp; omega) h.1, h.2.1, fun h0 => ?_⟩
 have hl : 0 < l.length := by
  rw [List.length_take] at h0; omega
 obtain ⟨b, o, e, hb, hc⟩ := h.2.2 hl
 refine ⟨b, o, e, hb, fun k hk j u hu => ?_⟩
 have hk2 : k < l.length := by rw [List.length_take] at hk; omega
 refine hc k hk2 j u ?_
 rw [List.getElem_take] at hu
 exact hu
theorem logOk_b {l : Lg} (h : logOk l = true) : 0 ≤ l.base ∧ l.base ≤ 1000000000 ∧ l.ents.length ≤ 60 := by
 have h1 := of_decide_eq_true h
 have := (inB_yes _ _ _).1 h1.1
 exact ⟨this.1, this.2, h1.2.2.1⟩
structure VsQ (w : World) (B : Nat) (qs : List VtE) : Prop where
 l : ∀ p ∈ qs, LgO w B w.heap.size p.1 p.2.log
 nd : (qs.flatMap (fun p => p.1.fp)).Nodup
theorem VsQ.nil (w : World) (B : Nat) : VsQ w B [] := ⟨by simp, by simp⟩
theorem VsQ.step {w w' : World} {B : Nat} {qs : List VtE} {a : LAd} {v : Vt} (h : VsQ w B qs) (hB : B ≤ w.heap.size) (ho : LgO w' w.heap.size w'.heap.size a v.log) (hx : Ext w w') : VsQ w' B (qs ++ [(a, v)]) := by
 refine ⟨fun p hp => ?_, ?_⟩
 ·rcases List.mem_append.1 hp with hp | hp
  ·exact ((h.l p hp).kept hx).wide (Nat.le_refl _) hx.size
  ·rw [Mi] at hp
   subst hp
   exact ho.wide hB (Nat.le_refl _)
 ·simp only [List.flatMap_append, List.flatMap_cons, List.flatMap_nil, List.append_nil]
  rw [List.nodup_append]
  refine ⟨h.nd, ho.nd, fun x hx1 y hy he => ?_⟩
  subst he
  obtain ⟨p, hp, hxp⟩ := List.mem_flatMap.1 hx1
  have h1 := (h.l p hp).lt x hxp
  have h2 := ho.low x hy
  omega
theorem VsQ.chg {w w' : World} {B : Nat} {qs : List VtE} {S : List Nat} (h : VsQ w B qs) (hg : Chg w w' S) (hne : ∀ p ∈ qs, ∀ k ∈ p.1.fp, k ∉ S) : VsQ w' B qs :=
 ⟨fun p hp => ((h.l p hp).chg hg (hne p hp)).wide (Nat.le_refl _) hg.size, h.nd⟩
theorem VsQ.kept {w w' : World} {B : Nat} {qs : List VtE} (h : VsQ w B qs) (hx : Ext w w') : VsQ w' B qs := ⟨fun p hp => ((h.l p hp).kept hx).wide (Nat.le_refl _) hx.size, h.nd⟩
theorem chg_set {w w' : World} {S : List Nat} (h : Chg w w' S) {p : Addr} (hp : p.block ∈ S) (u : Value) : Chg w (w'.setCell p u) S :=
 ⟨h.os, h.tape, h.output, by simpa using h.size, fun k hk hn => (Below.heap_setCell _ _ _ _ (fun he => hn (by rw [he]; exact hp))).trans (h.block k hk hn)⟩
theorem VtE.one (p : VtE) : ∀ u ∈ p.enc, u.oneCell' = true := by
 intro u hu
 simp [VtE.enc] at hu
 rcases hu with rfl | rfl | rfl | rfl | rfl | rfl | rfl | rfl | rfl | rfl <;> rfl
theorem Rd.one {α : Type} {enc : α → List Value} {sz : Nat} {w : World} {p : Nat} {cs : Array Value} {T : TypeId} {x : α} (h : w.heap[p]? = some (.cells cs T (0, 0))) (hx : cs.toList = enc x) : Rd enc sz w (some ⟨p, 0, none⟩) 1 [x] := by
 refine ⟨Nat.le_refl _, by unfold maxLen; omega, fun _ => ⟨p, 0, rfl, bx_lt h, fun k hk j u hu => ?_⟩⟩
 simp only [List.length_singleton] at hk
 obtain rfl : k = 0 := by omega
 rw [bx_cell h]
 simp only [List.getElem_cons_zero] at hu
 rw [← hx] at hu
 simpa using hu
end Go.Proofs.Ytpghedeghoegmaa
