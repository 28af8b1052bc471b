/- LogFold for any number: of the reference and of the program. -/
import Derived.Test.YtkenlhdiehaemaaGreatPk45
import Derived.Test.YtkenlhdiehaemaaGreatPk19
namespace Go.Proofs.YtkenlhdiehaemaaGreat
open Go.ChangeShapes Go.WideShapes Go.ChangeAt Go.RowKit Go.Sort
set_option linter.unusedVariables false
set_option linter.unusedSimpArgs false
end Go.Proofs.YtkenlhdiehaemaaGreat
namespace Go.Proofs.YtkenlhdiehaemaaGreat
open Go.ChangeShapes Go.WideShapes Go.ChangeAt Go.RowKit Go.Sort
set_option linter.unusedVariables false
set_option linter.unusedSimpArgs false
def SlZ {α : Type} (enc : α → List Value) (e : TypeId) (sz B : Nat) (l : List α) (v : Value) (w : World) : Prop := SlV enc e sz B l v w ∧ (l.length = 0 → ∃ p, v = .slice (some ⟨p, 0, none⟩) 0 0)
theorem SlZ.mono {α : Type} (enc : α → List Value) (e : TypeId) (sz B : Nat) (l : List α) : Mono (SlZ enc e sz B l) := fun v w w' h hx => ⟨SlV.mono _ _ _ _ _ v w w' h.1 hx, h.2⟩
theorem run_app0Z {P : Program} {α : Type} {enc : α → List Value} {w : World} (p : Nat) (t ty e : TypeId) (i : TypeInfo) (z : Value) (size bytes : Nat) (ht : P.underlying t = some (.slice e)) (hi : P.info? e = some i) (hz : i.zero = some z)
  (hsize : i.size = size) (hby : i.bytes = bytes) (hzs : z.cells.size = size) (hsz : 0 < size) (hlen : ∀ x, (enc x).length = size) {A : Option Addr} {c : Nat} {l : List α} (hr : Rd enc size w A c l)
  (h63 : l.length ≤ maxLen) (hbytes : l.length * bytes ≤ 140737488355328) (b0 : Nat) (hb0 : b0 ≤ w.heap.size) :
  ∃ v' w', (Builtin.append_ #[t, t] ty #[.slice (some ⟨p, 0, none⟩) 0 0, .slice A l.length c]).run P w = .ok v' w' ∧ SlZ enc e size b0 l v' w' ∧ Ext w w' := by
 by_cases h0 : l.length = 0
 ·obtain rfl : l = [] := List.eq_nil_of_length_eq_zero h0
  subst hsize
  refine ⟨.slice (some ⟨p, 0, none⟩) 0 0, w, ?_, ⟨⟨some ⟨p, 0, none⟩, 0, rfl, ⟨Nat.le_refl _, by unfold maxLen; omega, fun h => absurd h (by simp)⟩, fun h => absurd h (by simp)⟩, fun _ => ⟨p, rfl⟩⟩, ext_refl _⟩
  cases A <;> simp [Builtin.append_, run_underlying ht, sizeOf, typeInfo, hi, Builtin.lenOf, Builtin.firstCells, loadCells, loadCellsFrom, storeCells]
 ·obtain ⟨v', w', h1, h2, h3⟩ := run_app0 (P := P) (w := w) p t ty e i z size bytes ht hi hz hsize hby hzs hsz hlen hr h63 hbytes b0 hb0
  exact ⟨v', w', h1, ⟨h2, fun h => absurd h h0⟩, h3⟩
open Ap in
theorem wpMix_app0Z {P : Program} {ops : Array Oper} {w : World} {B : Bnd} {L : (World → Prop) → Act → Prop} {o : Oper} {rest : List Oper} {C : World → Prop} {ps : List Nat} {a : Act} {α : Type} {enc : α → List Value} (s x : Operand) (t : TypeId)
  (ho : o.op = .call { callee := .builtin .append, args := #[s, x], argTypes := #[t, t] }) (hgd : o.guard = none) (e : TypeId) (i : TypeInfo) (z : Value) (size bytes : Nat) (ht : P.underlying t = some (.slice e)) (hi : P.info? e = some i) (hz : i.zero = some z)
  (hsize : i.size = size) (hby : i.bytes = bytes) (hzs : z.cells.size = size) (hsz : 0 < size) (hlen : ∀ x, (enc x).length = size) (p : Nat) (hs : a.eval s = .slice (some ⟨p, 0, none⟩) 0 0) (A : Option Addr) (n c : Nat) (l : List α) (hn : n = l.length) (hx : a.eval x = .slice A n c)
  (hr : ∀ W, Ext w W → Rd enc size W A c l) (hΦ : B.2 o.dst = SlZ enc e size w.heap.size l) (h63 : l.length ≤ maxLen) (hbytes : l.length * bytes ≤ 140737488355328)
  (h : ∀ A' c', Ap.Mx P ops (Ext w) B L rest (fun W => C W ∧ SlZ enc e size w.heap.size l (.slice A' l.length c') W) ps (a.put o.dst (.slice A' l.length c'))) : Ap.Mx P ops (Ext w) B L (o :: rest) C ps a := by
 subst hn
 refine Ap.wpMix_app (by unfold isAlloc; rw [ho]) (by unfold Ap.isApp; rw [ho]) (by simp [Region.wanted, hgd]) (by rw [hΦ]; exact SlZ.mono _ _ _ _ _) (fun W hW => ?_) (fun v hv => ?_)
 ·obtain ⟨v', w', h1, h2, h3⟩ := run_app0Z (P := P) (w := W) p t o.type e i z size bytes ht hi hz hsize hby hzs hsz hlen (hr W hW) h63 hbytes w.heap.size hW.size
  refine ⟨v', w', ?_, by rw [hΦ]; exact h2, h3⟩
  unfold execOp
  simp only [ho, resolve, invoke, builtin, Sem.run_bind, Sem.run_pure, Result.andThen_ok, List.map_toArray, List.map_cons, List.map_nil, hs, hx, h1]
 ·rw [hΦ] at hv ⊢
  obtain ⟨W, _, ⟨A', c', rfl, _⟩, _⟩ := hv
  exact h A' c'
set_option maxRecDepth 100000 in
set_option maxHeartbeats 4000000 in
theorem c_l3CopyZ (a : LAd) (l : Lg) (hs : l.small) (w : World) (hr : LgR w a l) :
  Calls Tryz.prog 103 #[Lg.val a l] w fun e w' => ∃ a', e = .returned (Lg.val a' l) ∧ LgF w' w.heap.size a' l ∧ (l.ents.length = 0 → ∃ p, a'.eA = some ⟨p, 0, none⟩ ∧ a'.ec = 0) ∧ Ext w w' := by
 have X0 : Ext w ((w.alloc (Lg.obj a l)).alloc (.cells #[.int .i64 0, .slice none 0 0, .slice none 0 0, .slice none 0 0] 40)) := ext_to (ext_alloc _ _) _
 have HC := Lib.hid (fun W (h : Ext ((w.alloc (Lg.obj a l)).alloc (.cells #[.int .i64 0, .slice none 0 0, .slice none 0 0, .slice none 0 0] 40)) W) => c_l2Copy a.cA a.cc l.cells a.sA a.sc l.seats W (hr.1.keep (Ext.trans X0 h)) (hr.2.1.keep (Ext.trans X0 h)) hs.1 hs.2.1)
 have HE := Lib.hid (fun W (h : Ext ((w.alloc (Lg.obj a l)).alloc (.cells #[.int .i64 0, .slice none 0 0, .slice none 0 0, .slice none 0 0] 40)) W) => hr.2.2.keep (Ext.trans X0 h))
 obtain ⟨i0, hi, hz0, hz1, hz2⟩ := info_parts Tryz.infoEnt
 have hse := hs.2.2
 clear hr hs
 go_enter Tryz.func103, Tryz.ntmps103
 go_wp2
 (refine Ap.wp_region_mix' (fun d => if d = some 11 then SlZ Ent.enc 119 5 (w.heap.size + 1 + 1) l.ents else fun _ _ => True) (fun _ _ _ _ _ hq => hq) 9 (by kernel_rfl) (by kernel_rfl) (fun hg => ?_); simp only [List.take_succ_cons, List.take_zero, List.drop_succ_cons, List.drop_zero])
 (repeat (first | (refine Ap.wpMix_plain rfl rfl ?_; go_big_quiet_step (fail); refine wpQuiet_nil ?_) | (refine Ap.wpMix_skip rfl rfl ?_; simp only [Act.put, List.setIfInBounds_toArray, List.set_cons_zero, List.set_cons_succ])))
 refine Ap.wpMix_call (ImgV (w.heap.size + 1 + 1) l.cells l.seats) rfl rfl rfl (enters Tryz.func161 (by kernel_rfl) rfl) (ImgV.mono _ _ _) (fun W hW => (HC.out W hW).mono fun e w' ⟨v, he, h1, hx⟩ => ⟨v, he, h1.less (by have := hW.size; simp at this; omega), hx⟩) rfl (fun v1 hv1 => ?_)
 obtain ⟨W1, _, A1, c1, A2, c2, rfl, _⟩ := hv1
 simp only [Act.put, List.setIfInBounds_toArray, List.set_cons_zero, List.set_cons_succ]
 (repeat (first | (refine Ap.wpMix_plain rfl rfl ?_; go_big_quiet_step (fail); refine wpQuiet_nil ?_) | (refine Ap.wpMix_skip rfl rfl ?_; simp only [Act.put, List.setIfInBounds_toArray, List.set_cons_zero, List.set_cons_succ])))
 (refine Ap.wpMix_alloc (.cells #[] 119) rfl (fun W => by kernel_rfl) ?_; intro p1 hp1 hps1 hpi1; simp only [layVal, Act.put, List.setIfInBounds_toArray, List.set_cons_zero, List.set_cons_succ])
 (repeat (first | (refine Ap.wpMix_plain rfl rfl ?_; go_big_quiet_step (fail); refine wpQuiet_nil ?_) | (refine Ap.wpMix_skip rfl rfl ?_; simp only [Act.put, List.setIfInBounds_toArray, List.set_cons_zero, List.set_cons_succ])))
 refine wpMix_app0Z (enc := Ent.enc) _ _ 38 rfl rfl 119 i0 (.agg #[.int .i64 0, .int .i64 0, .int .i64 0, .int .i64 0, .int .i64 0]) 5 40 Tryz.underlying38 hi hz0 hz1 hz2 rfl (by decide) Ent.len p1 rfl a.eA l.ents.length a.ec l.ents rfl rfl (fun W hW => HE.out W hW) (by simp [sz_alloc]) (by unfold maxLen; omega) (by omega) (fun A3 c3 => ?_)
 simp only [Act.put, List.setIfInBounds_toArray, List.set_cons_zero, List.set_cons_succ]
 refine Ap.wpMix_nil ?_
 rintro w2 ⟨⟨⟨hw2, A1', c1', A2', c2', heq, o1, o2⟩, _⟩, o3⟩
 simp only [Value.agg.injEq] at heq
 simp at heq
 obtain ⟨⟨rfl, rfl⟩, rfl, rfl⟩ := heq
 have B2 := hw2.box (hNew (w := w.alloc (Lg.obj a l)) (o := .cells #[.int .i64 0, .slice none 0 0, .slice none 0 0, .slice none 0 0] 40) rfl)
 rw [sz_alloc] at B2
 have o3' := o3.1.rdF
 have HZ := Lib.hid (show l.ents.length = 0 → ∃ p, A3 = some ⟨p, 0, none⟩ ∧ c3 = 0 from fun h0 => by obtain ⟨p, hp⟩ := o3.2 h0; simp only [Value.slice.injEq] at hp; exact ⟨p, hp.1, hp.2.2⟩)
 simp only [sz_alloc] at o3'
 have HF := Lib.hid (show LgF w2 (w.heap.size + 1 + 1) ⟨A1, c1, A2, c2, A3, c3⟩ l from ⟨o1, o2, o3'⟩)
 have HB := Lib.hid B2
 clear B2 o1 o2 o3 o3'
 go_wp2_with (with_reducible refine wl_stopS 40 ?_)
 refine stop_store (w.heap.size + 1) #[.int .i64 l.base, .slice A1 l.cells.length c1, .slice A2 l.seats.length c2, .slice A3 l.ents.length c3] rfl rfl HB.out (by kernel_rfl) rfl (by simp [Value.oneCell']) ?_
 intro W4 E4 C4
 have hX4 := Lib.hid (chg_new (Ext.trans X0 hw2) C4 (by omega))
 have P4 := Lib.hid ((HF.out.chg C4 (fun k hk => by simp only [List.mem_singleton] at hk; omega)).less (by omega : w.heap.size ≤ _))
 go_wp2
 exact bodyPost_ret (results_box Tryz.results103 rfl Tryz.underlying40 (by kernel_rfl) E4) rfl ⟨⟨A1, c1, A2, c2, A3, c3⟩, rfl, P4.out, HZ.out, hX4.out⟩
end Go.Proofs.YtkenlhdiehaemaaGreat
