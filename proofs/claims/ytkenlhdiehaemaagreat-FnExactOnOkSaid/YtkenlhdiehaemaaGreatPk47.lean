/- The reference's functions on votes. -/
import Derived.Test.YtkenlhdiehaemaaGreatPk45
import Derived.Test.YtkenlhdiehaemaaGreatPk39
namespace Go.Proofs.YtkenlhdiehaemaaGreat
open Go.ChangeShapes Go.WideShapes Go.ChangeAt Go.RowKit Go.Sort
set_option linter.unusedVariables false
set_option linter.unusedSimpArgs false
def VzV {α : Type} (enc : α → List Value) (e : TypeId) (sz B : Nat) (l : List α) (v : Value) (w : World) : Prop := ∃ A c, v = .slice A l.length c ∧ ((0 < l.length ∧ Ow enc e sz w B (.slice A l.length c) l) ∨ (l = [] ∧ c = 0 ∧ ∃ p, A = some ⟨p, 0, none⟩))
theorem VzV.inv {α : Type} {enc : α → List Value} {e : TypeId} {sz B : Nat} {l : List α} {A : Option Addr} {n c : Nat} {w : World} (h : VzV enc e sz B l (.slice A n c) w) : n = l.length ∧ ((0 < l.length ∧ Ow enc e sz w B (.slice A l.length c) l) ∨ (l = [] ∧ c = 0 ∧ ∃ p, A = some ⟨p, 0, none⟩)) := by
 obtain ⟨A', c', he, hk⟩ := h
 simp only [Value.slice.injEq] at he
 obtain ⟨rfl, rfl, rfl⟩ := he
 exact ⟨rfl, hk⟩
theorem run_appz {P : Program} {α : Type} {enc : α → List Value} {w : World} (p : Nat) (t ty e : TypeId) (i : TypeInfo) (z : Value) (size bytes : Nat) (ht : P.underlying t = some (.slice e)) (hi : P.info? e = some i) (hz : i.zero = some z)
  (hsize : i.size = size) (hby : i.bytes = bytes) (hzs : z.cells.size = size) (hsz : 0 < size) (hlen : ∀ x, (enc x).length = size) {A : Option Addr} {c : Nat} {l : List α} (hr : Rd enc size w A c l)
  (h63 : l.length ≤ maxLen) (hbytes : l.length * bytes ≤ 140737488355328) (b0 : Nat) (hb0 : b0 ≤ w.heap.size) :
  ∃ v' w', (Builtin.append_ #[t, t] ty #[.slice (some ⟨p, 0, none⟩) 0 0, .slice A l.length c]).run P w = .ok v' w' ∧ VzV enc e size b0 l v' w' ∧ Ext w w' := by
 by_cases h0 : l.length = 0
 ·obtain rfl : l = [] := List.eq_nil_of_length_eq_zero h0
  refine ⟨.slice (some ⟨p, 0, none⟩) 0 0, w, ?_, ⟨some ⟨p, 0, none⟩, 0, rfl, .inr ⟨rfl, rfl, p, rfl⟩⟩, ext_refl _⟩
  cases A <;> simp [Builtin.append_, run_underlying ht, sizeOf, typeInfo, hi, Builtin.lenOf, Builtin.firstCells, loadCells, loadCellsFrom, storeCells]
 ·obtain ⟨v', w', h1, ⟨A', c', h2, h3, h4⟩, h5⟩ := run_app0 (P := P) (w := w) p t ty e i z size bytes ht hi hz hsize hby hzs hsz hlen hr h63 hbytes b0 hb0
  exact ⟨v', w', h1, ⟨A', c', h2, .inl ⟨by omega, h4 (by omega)⟩⟩, h5⟩
theorem rm_appz {P : Program} {ops : Array Oper} {w : World} {b : Nat} {B : Rm.Bnd} {L : (World → Prop) → Act → Prop} {o : Oper} {rest : List Oper} {C : World → Prop} {ps : List Nat} {a : Act} {α : Type} {enc : α → List Value} (s x : Operand) (t : TypeId)
  (ho : o.op = .call { callee := .builtin .append, args := #[s, x], argTypes := #[t, t] }) (hgd : o.guard = none) (e : TypeId) (i : TypeInfo) (z : Value) (size bytes : Nat) (ht : P.underlying t = some (.slice e)) (hi : P.info? e = some i) (hz : i.zero = some z)
  (hsize : i.size = size) (hby : i.bytes = bytes) (hzs : z.cells.size = size) (hsz : 0 < size) (hlen : ∀ x, (enc x).length = size) (p : Nat) (hs : a.eval s = .slice (some ⟨p, 0, none⟩) 0 0) (A : Option Addr) (n c : Nat) (l : List α) (hn : n = l.length) (hx : a.eval x = .slice A n c)
  (b0 : Nat) (hb0 : b0 ≤ w.heap.size) (hr : ∀ W, Ext w W → Rd enc size W A c l) (hΦ : B.2 o.dst = VzV enc e size b0 l) (h63 : l.length ≤ maxLen) (hbytes : l.length * bytes ≤ 140737488355328)
  (h : ∀ A' c', Rm.Mx (relE b) P ops ((relE b).rel w) B L rest (fun W => C W ∧ VzV enc e size b0 l (.slice A' l.length c') W) ps (a.put o.dst (.slice A' l.length c'))) : Rm.Mx (relE b) P ops ((relE b).rel w) B L (o :: rest) C ps a := by
 subst hn
 refine Rm.wpMix_app (by unfold isAlloc; rw [ho]) (by unfold Rm.isApp; rw [ho]) (by simp [Region.wanted, hgd]) ?_ (fun W hW => ?_) (fun v hv => ?_)
 ·rw [hΦ]
  exact fun v w w' ⟨A, c, he, hk⟩ hx => ⟨A, c, he, hk.imp (fun k => ⟨k.1, k.2.kept hx⟩) id⟩
 ·have hW' : Ext w W := hW
  obtain ⟨v', w', h1, h2, h3⟩ := run_appz (P := P) (w := W) p t o.type e i z size bytes ht hi hz hsize hby hzs hsz hlen (hr W hW') h63 hbytes b0 (Nat.le_trans hb0 hW'.size)
  refine ⟨v', w', ?_, by rw [hΦ]; exact h2, h3⟩
  unfold execOp
  simp only [ho, resolve, invoke, builtin, Sem.run_bind, Sem.run_pure, Result.andThen_ok, List.map_toArray, List.map_cons, List.map_nil, hs, hx, h1]
 ·rw [hΦ] at hv ⊢
  obtain ⟨W, _, A', c', rfl, _⟩ := hv
  exact h A' c'
def Typed (w : World) (e : TypeId) (S : List Nat) : Prop := ∀ g cs t', w.heap[g]? = some (.cells cs t' (0, 0)) → t' ≠ e → g ∉ S
theorem Ow.kind {α : Type} {enc : α → List Value} {e : TypeId} {sz : Nat} {w : World} {B : Nat} {A : Option Addr} {n c : Nat} {l : List α} (h : Ow enc e sz w B (.slice A n c) l) : ∀ k ∈ blk A, ∃ cs, w.heap[k]? = some (.cells cs e (0, 0)) := fun k hk => by
 rcases h.2 with ⟨he, _⟩ | ⟨g, cap, cur, he, _, hg, _⟩
 ·simp only [Value.slice.injEq] at he
  rw [he.1] at hk
  exact absurd hk (by simp [blk])
 ·simp only [Value.slice.injEq] at he
  rw [he.1] at hk
  simp only [blk, Mi] at hk
  subst hk
  exact ⟨cur, hg⟩
theorem LgF.typed {w w' : World} {B : Nat} {a : LAd} {l : Lg} {e : TypeId} {S : List Nat} (h : LgF w B a l) (hS : Typed w e S) (h1 : 146 ≠ e) (h2 : 149 ≠ e) (h3 : 119 ≠ e) (hg : Chg w w' S) : LgF w' B a l :=
 ⟨h.c.chg Cel.len hg (fun hl x hx => by obtain ⟨cs, hc⟩ := (h.c.2 hl).kind x hx; exact hS x cs _ hc h1),
  h.s.chg Sea.len hg (fun hl x hx => by obtain ⟨cs, hc⟩ := (h.s.2 hl).kind x hx; exact hS x cs _ hc h2),
  h.e.chg Ent.len hg (fun hl x hx => by obtain ⟨cs, hc⟩ := (h.e.2 hl).kind x hx; exact hS x cs _ hc h3)⟩
theorem wl_appz {P : Program} {α : Type} {enc : α → List Value} {ops : Array Oper} {rest : List Oper} {o : Oper} {a : Act} {w : World} {Q : Exit → Act → World → Prop} (hgd : o.guard = none) (s x : Operand) (t : TypeId)
  (ho : o.op = .call { callee := .builtin .append, args := #[s, x], argTypes := #[t, t] })
  (b0 : Nat) (e : TypeId) (i : TypeInfo) (z : Value) (size bytes : Nat) (ht : P.underlying t = some (.slice e)) (hi : P.info? e = some i) (hz : i.zero = some z)
  (hsize : i.size = size) (hby : i.bytes = bytes) (hzs : z.cells.size = size) (hsz : 0 < size) (hlen : ∀ x, (enc x).length = size) (hone : ∀ x, ∀ u ∈ enc x, u.oneCell' = true)
  (A0 : Option Addr) (c0 : Nat) (l0 : List α) (n0 : Nat) (hs : a.eval s = .slice A0 n0 c0) (hz0 : VzV enc e size b0 l0 (.slice A0 n0 c0) w) (A : Option Addr) (c : Nat) (l : List α) (n : Nat) (hn : n = l.length) (hpos : 0 < l.length) (hx : a.eval x = .slice A n c) (hr : Rd enc size w A c l)
  (h63 : l0.length + l.length ≤ maxLen) (hbytes : (l0.length + l.length) * bytes ≤ 140737488355328) (hbase : b0 ≤ w.heap.size)
  (h : ∀ v' w' S, Ow enc e size w' b0 v' (l0 ++ l) → Chg w w' S → Typed w e S → (∀ g ∈ S, b0 ≤ g) → wpList P ops Q rest (a.put o.dst v') w') : wpList P ops Q (o :: rest) a w := by
 obtain ⟨rfl, hk⟩ := hz0.inv
 rcases hk with ⟨hp, hk⟩ | ⟨rfl, rfl, p, rfl⟩
 ·exact wl_app hgd s x t ho b0 e i z size bytes ht hi hz hsize hby hzs hsz hlen hone (.slice A0 l0.length c0) l0 hs hk A c l n hn hx hr h63 hbytes hbase (fun v' w' h1 h2 => h v' w' _ h1 (chg_grown h2) (fun g cs t' hb hne => box_apart hb hk hne) (fun g hg => (hk.inB g hg).1))
 ·subst hn
  refine wpList_plain hgd fun K hK => ?_
  obtain ⟨v', w', h1, ⟨A', c', h2, h3, h4⟩, h5⟩ := run_app0 (P := P) (w := w) p t o.type e i z size bytes ht hi hz hsize hby hzs hsz hlen hr (by simpa using h63) (by simpa using hbytes) b0 hbase
  unfold Oper.wp execOp
  simp only [List.length_nil] at hs
  simp only [ho, resolve, invoke, builtin, Sem.run_bind, Sem.run_pure, Result.andThen_ok, List.map_toArray, List.map_cons, List.map_nil, hs, hx, h1]
  subst h2
  exact hK _ _ (h _ _ [] (h4 hpos) (chg_ext _ h5) (fun _ _ _ _ _ hm => List.not_mem_nil hm) (fun _ hm => (List.not_mem_nil hm).elim))
abbrev Vt.cs2 (a : LAd) (v : Vt) : Array Value := #[.int .i64 v.kind, .int .i64 v.frm, .int .i64 v.view, .int .i64 v.normal, .int .i64 v.op, .int .i64 v.commit, .int .i64 v.log.base, .slice a.cA v.log.cells.length a.cc, .slice a.sA v.log.seats.length a.sc, .slice a.eA v.log.ents.length a.ec]
theorem vt_whole2 {w w' : World} {p : Nat} {a : LAd} {v : Vt} (hb : w.heap[p]? = some (Vt.obj a v)) (hx : Ext w w') : ∀ j u, (Vt.cs2 a v).toList[j]? = some u → w'.cell? ⟨p, 0 + j, none⟩ = some u := cells_mid (cs := Vt.cs2 a v) (hx.box hb) [] [] rfl rfl
set_option maxRecDepth 100000 in
set_option maxHeartbeats 8000000 in
theorem c_l6Vote (B : Nat) (a : LAd) (A : Option Addr) (c : Nat) (qs : List VtE) (R : Rp) (av : LAd) (v : Vt) (w : World) (hF : RpF w B a A c qs R) (hV : LgF w B av v.log) (hB : B ≤ w.heap.size) (h20 : R.votes.length ≤ 20) :
  Calls Tryz.prog 96 #[Rp.val a A qs.length c R, VtE.val av v] w fun e w' => (∃ A' c' qs', e = .returned (Rp.val a A' (List.length qs') c' (R.voted v)) ∧ RpF w' B a A' c' qs' (R.voted v)) ∧ Ext w w' := by
 obtain ⟨i0, hi, hz0, hz1, hz2⟩ := info_parts Tryz.infoVt
 have hql : R.votes.length = qs.length := by rw [← hF.e, List.length_map]
 have X0 : Ext w (((w.alloc (Rp.obj a A qs.length c R)).alloc (Vt.obj av v)).alloc Rp.zobj) := ext_to (ext_to (ext_alloc _ _) _) _
 have D1 := Hd (hOld (o := Rp.zobj) (hOld (o := Vt.obj av v) (hNew (w := w) (o := Rp.obj a A qs.length c R) rfl)))
 have D2 := Hd (hOld (o := Rp.zobj) (hNew (w := w.alloc (Rp.obj a A qs.length c R)) (o := Vt.obj av v) (k := w.heap.size + 1) (by simp)))
 have D3 := Hd (hNew (w := (w.alloc (Rp.obj a A qs.length c R)).alloc (Vt.obj av v)) (o := Rp.zobj) (k := w.heap.size + 1 + 1) (by simp))
 have HX0 := Hd X0
 have HF := Hd (hF.keep X0)
 have HV := Hd (hV.keep X0)
 clear X0 hF hV
 by_cases hlt : qs.length < 20
 ·have HE := Hd (show R.votesTo (R.votes ++ [v]) = R.voted v by unfold Rp.voted; rw [if_pos (by omega)])
  have g20 : decide ((qs.length : Int) < 20) = true := by simp; omega
  clear hql h20
  go_enter Tryz.func96, Tryz.ntmps96
  go_wp2
  (refine Rm.wp_region_mix' (R := relE (((w.alloc (Rp.obj a A qs.length c R)).alloc (Vt.obj av v)).alloc Rp.zobj).heap.size) (fun d => if d = some 12 then VzV VtE.enc 110 10 w.heap.size qs else fun _ _ => True) (fun _ _ _ _ _ hq => hq) 6 (by first | exact Nat.le_refl _ | omega | (simp; omega)) (by kernel_rfl) (by kernel_rfl) ?_; simp only [Tc, Tz, Dc, Dz])
  (refine Rm.wpMix_alloc (.cells #[] 110) rfl (fun W => by kernel_rfl) ?_; intro p1 hp1 hps1 hpi1; simp only [layVal, Act.put, Sa, Sz, Ss])
  (iterate 1 (refine Rm.wpMix_plain rfl rfl ?_; go_big_quiet_step (fail); refine wpQuiet_nil ?_))
  (refine Rm.wpMix_load1 (fun W9' h9 => show W9'.cell? _ = some (.slice A qs.length c) from bx_cell (Ext.box h9 D1.out) 10) rfl rfl rfl Tryz.underlying41 rfl ?_; simp only [Act.put, Sa, Sz, Ss])
  refine rm_appz (enc := VtE.enc) _ _ 41 rfl rfl 110 i0 Vt.zero 10 128 Tryz.underlying41 hi hz0 hz1 hz2 rfl (by decide) VtE.len p1 rfl A qs.length c qs rfl rfl w.heap.size HX0.out.size (fun W hW => (HF.out.keep hW).v.1) rfl (by unfold maxLen; omega) (by omega) (fun A1 c1 => ?_)
  simp only [Act.put, Sa, Sz, Ss]
  (refine Rm.wpMix_loadAgg (fun W9' h9 => vt_whole2 D2.out h9) rfl rfl rfl Tryz.underlying110 (by kernel_rfl) ?_; simp only [Act.put, Sa, Sz, Ss])
  (refine Rm.wpMix_alloc (.cells (Vt.cs2 av v) 110) rfl (fun W => by kernel_rfl) ?_; intro p2 hp2 hps2 hpi2; simp only [layVal, Act.put, Sa, Sz, Ss])
  refine Rm.wpMix_nil ?_
  rintro w2 ⟨⟨⟨h2, _⟩, hz⟩, hp⟩
  have x2 : Ext (((w.alloc (Rp.obj a A qs.length c R)).alloc (Vt.obj av v)).alloc Rp.zobj) w2 := h2
  have hs0 := HX0.out.size
  have hs2 := x2.size
  have hp2' := bx_lt hp
  have HZ := Hd hz
  have HP := Hd hp
  have E1 := Hd (x2.box D1.out)
  have E3 := Hd (x2.box D3.out)
  have X2 := Hd (Ext.trans HX0.out x2)
  have HF2 := Hd (HF.out.keep x2)
  have HV2 := Hd (HV.out.keep x2)
  clear h2 hz hp x2 D1 D2 D3 HF HV hp1 hps1 hpi1 hp2 hps2 hpi2 HX0
  have hw2 : w.heap.size + 1 + 1 < w2.heap.size := bx_lt E3.out
  go_wp2_with (at_builtin; refine wl_appz (enc := VtE.enc) rfl _ _ 41 rfl w.heap.size 110 i0 Vt.zero 10 128 Tryz.underlying41 hi hz0 hz1 hz2 rfl (by decide) VtE.len VtE.one A1 c1 qs qs.length rfl HZ.out (some ⟨p2, 0, none⟩) 1 [(av, v)] 1 rfl Nat.zero_lt_one rfl (Rd.one HP.out rfl) ?c1 ?c2 ?c3 ?_)
  case c1 => unfold maxLen; simp; omega
  case c2 => simp; omega
  case c3 => omega
  intro v' w4 S ho4 c4 hS hSb
  obtain ⟨A', c', rfl⟩ := ho4.form
  have hl1 : (qs ++ [(av, v)]).length = qs.length + 1 := by simp
  have E1' := box_out' E1.out c4 (hS _ _ _ E1.out (by decide))
  have E3' := box_out' E3.out c4 (hS _ _ _ E3.out (by decide))
  have b4 := bx_cell E1'
  have g4 := bx_frozen E1'
  have z4 := bx_lt E1'
  have P4 := box_put E1' 10 (.slice A' (qs.length + 1) c')
  simp only [Sa, Sz, Ss] at P4
  have c5 := chg_set (Chg.refl w4 [w.heap.size]) (p := ⟨w.heap.size, 10, none⟩) (by simp) (.slice A' (qs.length + 1) c')
  have hb5 : ∀ {B : Nat} {a : LAd} {l : Lg}, LgF w2 B a l → LgF (w4.setCell ⟨w.heap.size, 10, none⟩ (.slice A' (qs.length + 1) c')) B a l := fun h => (h.typed hS (by decide) (by decide) (by decide) c4).boxed E1' (by decide) (by decide) (by decide) c5
  have HP := Hd P4
  have HL1 := Hd hl1
  have HF5 := Hd (show RpF (w4.setCell ⟨w.heap.size, 10, none⟩ (.slice A' (qs.length + 1) c')) B a A' c' (qs ++ [(av, v)]) (R.voted v) from by
   rw [← HE.out]
   refine ⟨hb5 HF2.out.l, ((Ow.rdF VtE.len ho4).chg VtE.len c5 (fun _ x hx hm => by rw [Mi] at hm; subst hm; exact box_apart E1' ho4 (by decide) hx)).less hB, fun p hp => ?_, by rw [List.map_append, HF2.out.e]; rfl⟩
   rcases List.mem_append.1 hp with hp | hp
   ·exact hb5 (HF2.out.vl p hp)
   ·rw [Mi] at hp; subst hp; exact hb5 HV2.out)
  have HE3 := Hd (box_out' E3' c5 (by simp; omega))
  have HX5 := Hd (chg_new (ext_chg X2.out c4 hSb) c5 (Nat.le_refl _))
  clear hl1 E1' E3' P4 c5 c4 ho4 hS hSb hb5 E1 E3 X2 HF2 HV2 HZ
  go_wp2_with (with_reducible refine wl_stop 17 ?_)
  refine stop_go (F := fun W => W.heap[w.heap.size]? = some (Rp.obj a A' (qs.length + 1) c' R) ∧ RpF W B a A' c' (qs ++ [(av, v)]) (R.voted v) ∧ W.heap[w.heap.size + 1 + 1]? = some Rp.zobj ∧ Ext w W) ⟨HP.out, HF5.out, HE3.out, HX5.out⟩ ?_
  intro W7 ⟨e7, f7, z7, x7⟩
  have E7 := Hd e7
  have F7 := Hd f7
  have Z7 := Hd z7
  have X7 := Hd x7
  clear e7 f7 z7 x7 HP HF5 HE3 HX5 b4 g4 z4
  (go_wp2_with (with_reducible refine wl_stop 17 ?_); refine stop_load (E7.out) rfl Tryz.underlying43 (by kernel_rfl) ?_; simp only [Act.put, Sa, Sz, Ss])
  (go_wp2_with (with_reducible refine wl_stopS 43 ?_); refine stop_store ((w.heap.size + 1 + 1)) (Rp.cs a A' (qs.length + 1) c' R) rfl rfl (Z7.out) (by kernel_rfl) rfl (by simp [Value.oneCell']) ?_)
  intro W9 e9 k9
  have HE9 := Hd e9
  have HX9 := Hd (chg_new X7.out k9 (by omega))
  have HF9 := Hd (F7.out.boxed Z7.out k9)
  clear e9 k9
  go_wp2
  refine bodyPost_ret (results_box Tryz.results96 rfl Tryz.underlying43 (by kernel_rfl) HE9.out) rfl ⟨⟨A', c', qs ++ [(av, v)], ?_, HF9.out⟩, HX9.out⟩
  rw [← HE.out, HL1.out]; rfl
 ·have HE := Hd (show R = R.voted v by unfold Rp.voted; rw [if_neg (by omega)])
  have g20 : decide ((qs.length : Int) < 20) = false := by simp; omega
  clear hql h20
  go_enter Tryz.func96, Tryz.ntmps96
  (go_wp2_with (with_reducible refine wl_stop 17 ?_); refine stop_load (D1.out) rfl Tryz.underlying43 (by kernel_rfl) ?_; simp only [Act.put, Sa, Sz, Ss])
  (go_wp2_with (with_reducible refine wl_stopS 43 ?_); refine stop_store ((w.heap.size + 1 + 1)) (Rp.cs a A qs.length c R) rfl rfl (D3.out) (by kernel_rfl) rfl (by simp [Value.oneCell']) ?_)
  intro W9 e9 k9
  have HE9 := Hd e9
  have HX9 := Hd (chg_new HX0.out k9 (by omega))
  have HF9 := Hd (HF.out.boxed D3.out k9)
  clear e9 k9
  go_wp2
  refine bodyPost_ret (results_box Tryz.results96 rfl Tryz.underlying43 (by kernel_rfl) HE9.out) rfl ⟨⟨A, c, qs, ?_, by rw [← HE.out]; exact HF9.out⟩, HX9.out⟩
  rw [← HE.out]
set_option maxHeartbeats 4000000 in
theorem c_l6Find (A : Option Addr) (c : Nat) (qs : List VtE) (kind who : Int) (w : World) (hr : Rd VtE.enc 10 w A c qs) (hn : qs.length ≤ 1048576) :
  Calls Tryz.prog 95 #[.slice A qs.length c, .int .i64 kind, .int .i64 who] w fun e w' => e = .returned (.int .i64 (findV kind who (qs.map Prod.snd))) ∧ Ext w w' := by
 have HR := Hd hr
 have hm : ∀ k (h : k < qs.length), ∃ h2 : k < (qs.map Prod.snd).length, (qs.map Prod.snd)[k] = qs[k].2 := fun k h => ⟨by simpa using h, by simp⟩
 have HM := Hd hm
 clear hr hm
 go_enter Tryz.func95, Tryz.ntmps95
 go_wp2
 go_loopw [7] (fun i wr => ∃ k : Nat, k ≤ qs.length ∧ i = .int .i64 k ∧ Hid (∀ j (h : j < (qs.map Prod.snd).length), j < k → isV kind who (qs.map Prod.snd)[j] = false) ∧ Ext w wr) (fun i _ => qs.length - (intOf i).toNat)
 case atStart => exact ⟨0, Nat.zero_le _, rfl, Hd (fun j hj hk => absurd hk (by omega)), ext_refl _⟩
 case round =>
  obtain ⟨k, hk, rfl, HB, X⟩ := hrel
  by_cases hlt : k < qs.length
  ·obtain ⟨ab, ao, hA, hab, a0, a1, a2, a3, a4, a5, a6, a7, a8, a9⟩ := (HR.out.keep X).atVtE hlt
   subst hA
   obtain ⟨h2, h3⟩ := HM.out k hlt
   have HE := Hd h3
   clear h3
   cases g1 : (qs[k].2.kind == kind)
   ·have HN := Hd (no_next HB.out (fun _ => show isV kind who _ = false by rw [HE.out]; unfold isV; rw [g1]; rfl))
    go_wp2
    go_roundw
    case rel => exact ⟨k + 1, by omega, by go_num, Hd HN.out, X⟩
    case measure => simp [intOf] <;> omega
   ·cases g2 : (qs[k].2.frm == who)
    ·have HN := Hd (no_next HB.out (fun _ => show isV kind who _ = false by rw [HE.out]; unfold isV; rw [g1, g2]; rfl))
     go_wp2
     go_roundw
     case rel => exact ⟨k + 1, by omega, by go_num, Hd HN.out, X⟩
     case measure => simp [intOf] <;> omega
    ·have HN := Hd (show findV kind who (qs.map Prod.snd) = k from idx_hit h2 (by rw [HE.out]; unfold isV; rw [g1, g2]; rfl) HB.out)
     go_wp2
     go_ret
     exact ⟨ret_int HN.out.symm, X⟩
  ·obtain rfl : k = qs.length := by omega
   have HN := Hd (show findV kind who (qs.map Prod.snd) = -1 from idx_miss (fun j hj => HB.out j hj (by simpa using hj)))
   go_wp2
   go_ret
   exact ⟨ret_int HN.out.symm, X⟩
theorem c_l6Half (a : LAd) (A : Option Addr) (n c : Nat) (r : Rp) (w : World) (ho : ofB r.of = true) : Calls Tryz.prog 110 #[Rp.val a A n c r] w fun e w' => e = .returned (.int .i64 ((r.of - 1) / 2)) ∧ Ext w w' := by
 have h1 := ofB_b ho
 have X0 := ext_alloc w (Rp.obj a A n c r)
 clear ho
 go_enter Tryz.func110, Tryz.ntmps110
 go_wp2
 go_ret
 exact ⟨rfl, X0⟩
def LgV9 (B : Nat) (l : Lg) (v : Value) (W : World) : Prop := ∃ a, v = Lg.val a l ∧ LgF W B a l
theorem LgV9.mono (b B : Nat) (l : Lg) : Rm.Mono (relE b) (LgV9 B l) := fun v w w' ⟨a, h, hf⟩ hx => ⟨a, h, hf.keep hx⟩
theorem LgV9.inv {B : Nat} {l : Lg} {a : LAd} {W : World} (h : LgV9 B l (Lg.val a l) W) : LgF W B a l := LgV8.inv (B := B) h
def relM (p g : Nat) (obj obj1 : Obj) (B : Nat) (hp : p < B) (hg : g < B) : Rm.Rel where
 rel a b := Chg a b [p, g] ∧ (p < a.heap.size → b.heap[p]? = a.heap[p]? ∨ b.heap[p]? = some obj) ∧ (g < a.heap.size → b.heap[g]? = a.heap[g]? ∨ b.heap[g]? = some obj1)
 base := B
 refl w := ⟨Chg.refl w _, fun _ => .inl rfl, fun _ => .inl rfl⟩
 trans a b c h k := ⟨h.1.trans k.1, fun hlt => by
  rcases k.2.1 (Nat.lt_of_lt_of_le hlt h.1.size) with e | e
  ·rw [e]; exact h.2.1 hlt
  ·exact .inr e, fun hlt => by
  rcases k.2.2 (Nat.lt_of_lt_of_le hlt h.1.size) with e | e
  ·rw [e]; exact h.2.2 hlt
  ·exact .inr e⟩
 ext a b h := ⟨chg_ext _ h, fun hlt => .inl (h.block p hlt), fun hlt => .inl (h.block g hlt)⟩
 size a b h := h.1.size
 keep a b h q hq hlt := h.1.block q hlt (by simp; omega)
def upd (cur : Array Value) (n : Nat) (L : List Value) : Array Value := (cur.toList.take n ++ L ++ cur.toList.drop (n + L.length)).toArray
theorem upd_size {cur : Array Value} {n : Nat} {L : List Value} (h : n + L.length ≤ cur.size) : (upd cur n L).size = cur.size := by
 unfold upd
 simp
 omega
theorem upd_take2 {cur : Array Value} {n : Nat} {L : List Value} (h : n + L.length ≤ cur.size) : (upd cur n L).toList.take (n + L.length) = cur.toList.take n ++ L := by
 unfold upd
 have hn : (cur.toList.take n ++ L).length = n + L.length := by simp; omega
 show (cur.toList.take n ++ L ++ _).take _ = _
 rw [← hn]
 exact List.take_left
theorem Ow.same {α : Type} {enc : α → List Value} {e : TypeId} {sz : Nat} {w w' : World} {B : Nat} {A : Option Addr} {n c : Nat} {l : List α} (h : Ow enc e sz w B (.slice A n c) l) (hs : ∀ k ∈ blk A, w'.heap[k]? = w.heap[k]?) : Ow enc e sz w' B (.slice A n c) l := by
 refine ⟨h.1, ?_⟩
 rcases h.2 with h2 | ⟨g, cap, cur, he, h3, h4, h5⟩
 ·exact .inl h2
 ·refine .inr ⟨g, cap, cur, he, h3, ?_, h5⟩
  simp only [Value.slice.injEq] at he
  rw [hs g (by rw [he.1]; simp [blk])]
  exact h4
def ApV {α : Type} (enc : α → List Value) (e : TypeId) (sz : Nat) (g : Nat) (obj1 : Obj) (B b0 : Nat) (l : List α) (v : Value) (W : World) : Prop := ∃ A c, v = .slice A l.length c ∧ Ow enc e sz W b0 (.slice A l.length c) l ∧ ∀ k ∈ blk A, (k = g ∧ W.heap[g]? = some obj1) ∨ B ≤ k
theorem ApV.mono {α : Type} (enc : α → List Value) (e : TypeId) (sz : Nat) (p g : Nat) (obj obj1 : Obj) (B b0 : Nat) (hp : p < B) (hg : g < B) (l : List α) : Rm.Mono (relM p g obj obj1 B hp hg) (ApV enc e sz g obj1 B b0 l) := fun v w w' ⟨A, c, he, ho, hk⟩ hx => by
 have hs : ∀ k ∈ blk A, w'.heap[k]? = w.heap[k]? := fun k hm => by
  have hlt := (ho.inB k hm).2
  rcases hk k hm with ⟨e, h1⟩ | h1
  ·subst e
   rcases hx.2.2 hlt with h | h
   ·exact h
   ·rw [h, h1]
  ·exact hx.1.block k hlt (by simp; omega)
 refine ⟨A, c, he, ho.same hs, fun k hm => ?_⟩
 rcases hk k hm with ⟨e, h1⟩ | h1
 ·refine .inl ⟨e, ?_⟩
  rw [← e, hs k hm, e, h1]
 ·exact .inr h1
section
variable {P : Program} {α : Type} {enc : α → List Value}
theorem own_grow {W : World} (t ty e : TypeId) (i : TypeInfo) (z : Value) (size bytes : Nat) (ht : P.underlying t = some (.slice e)) (hi : P.info? e = some i) (hz : i.zero = some z)
  (hsize : i.size = size) (hby : i.bytes = bytes) (hzs : z.cells.size = size) (hsz : 0 < size) (hlen : ∀ x, (enc x).length = size) (b0 : Nat) (v0 : Value) (l0 : List α) (hown : Ow enc e size W b0 v0 l0)
  {A : Option Addr} {c : Nat} {l : List α} (hr : Rd enc size W A c l) (hno : ∀ g cap, v0 = .slice (some ⟨g, 0, none⟩) l0.length cap → cap < l0.length + l.length)
  (h63 : l0.length + l.length ≤ maxLen) (hbytes : (l0.length + l.length) * bytes ≤ 140737488355328) (hb0 : b0 ≤ W.heap.size) :
  ∃ A' c' W', (Builtin.append_ #[t, t] ty #[v0, .slice A l.length c]).run P W = .ok (.slice A' (l0 ++ l).length c') W' ∧ Ext W W' ∧ Ow enc e size W' b0 (.slice A' (l0 ++ l).length c') (l0 ++ l) ∧ ∀ k ∈ blk A', W.heap.size ≤ k := by
 subst hsize
 subst hby
 have hsmall : l0.length + l.length ≤ 9223372036854775807 := by simp only [maxLen] at h63; omega
 have hf0 : (l0.flatMap enc).length = l0.length * i.size := hown.1
 have hf := flat_length hlen l
 have hfl : ((l0 ++ l).flatMap enc).length = (l0.length + l.length) * i.size := by rw [List.flatMap_append, List.length_append, hf0, hf, Nat.add_mul]
 have grown : ∀ old : Nat, Ow enc e i.size (W.drew.alloc (.cells ((l0.flatMap enc).toArray ++ (l.flatMap enc).toArray ++ Builtin.zeroCells z.cells (grownCap W (l0.length + l.length) old e - (l0.length + l.length))) e)) b0 (.slice (some ⟨W.heap.size, 0, none⟩) (l0 ++ l).length (grownCap W (l0.length + l.length) old e)) (l0 ++ l) := fun old => by
  have hge := grownCap_ge W (l0.length + l.length) old e
  have hcm : grownCap W (l0.length + l.length) old e ≤ maxLen := grownCap_le_maxLen W (l0.length + l.length) old e h63
  refine ⟨by rw [List.length_append]; exact hfl, .inr ⟨W.heap.size, _, _, rfl, hb0, heap_alloc_new W.drew _, by rw [List.length_append]; exact hge, hcm, ?_, ?_⟩⟩
  ·simp only [Array.size_append, List.size_toArray, size_zeroCells, hzs, hf0, hf, ← Nat.add_mul]
   congr 1
   omega
  ·simp only [Array.toList_append, List.append_assoc]
   rw [← List.append_assoc, List.length_append, ← hfl, List.flatMap_append]
   exact List.take_left
 have hext : ∀ o : Obj, Ext W (W.drew.alloc o) := fun o => (ext_drew (ext_refl W)).trans (ext_alloc _ _)
 have hblk : ∀ k ∈ blk (some (⟨W.heap.size, 0, none⟩ : Addr)), W.heap.size ≤ k := fun k hk => by simp only [blk, Mi] at hk; omega
 rcases hown.2 with ⟨rfl, h0⟩ | ⟨g, cap, cur, rfl, hbg, hg, hnc, hcm, hcs, htake⟩
 ·obtain rfl : l0 = [] := List.eq_nil_of_length_eq_zero h0
  by_cases hl : l.length = 0
  ·obtain rfl : l = [] := List.eq_nil_of_length_eq_zero hl
   refine ⟨none, 0, W, ?_, ext_refl _, World.ownsRow_nil W b0 e i.size, by simp [blk]⟩
   cases A <;> simp [Builtin.append_, run_underlying ht, sizeOf, typeInfo, hi, Builtin.lenOf, Builtin.firstCells, loadCells, loadCellsFrom]
  ·obtain ⟨ad, rfl⟩ := hr.base (by omega)
   have hrun := run_append_nil (P := P) W t ty e i z ht hi hz ad l.length c (l.flatMap enc) hf (hr.flat hsz hlen) (by omega) (by omega) (by have hb := hbytes; simp only [List.length_nil, Nat.zero_add] at hb; omega)
   have hgr := grown 0
   simp only [List.length_nil, Nat.zero_add, List.flatMap_nil, List.nil_append, Array.empty_append] at hgr hrun ⊢
   exact ⟨_, _, _, hrun, hext _, hgr, hblk⟩
 ·have hnr := hno g cap rfl
  obtain ⟨ad, rfl⟩ := hr.base (by omega)
  have holds : ∀ j u, (l0.flatMap enc)[j]? = some u → W.cell? ((⟨g, 0, none⟩ : Addr).add j) = some u := World.ownsRow.cells hown rfl
  have hrun := run_append_grow (P := P) (w := W) t ty e i z ht hi hz ⟨g, 0, none⟩ l0.length cap (l0.flatMap enc) hf0 holds ad l.length c (l.flatMap enc) hf (hr.flat hsz hlen) (by omega) (by omega) (growslice_fits (by omega) hbytes)
  have hgr := grown cap
  rw [List.length_append] at hgr ⊢
  exact ⟨_, _, _, hrun, hext _, hgr, hblk⟩
variable {ops : Array Oper} {w : World} {L : (World → Prop) → Act → Prop} {o : Oper} {rest : List Oper} {C : World → Prop} {ps : List Nat} {a : Act}
end
theorem OsV.inv {B : Nat} {O : List Ot} {A : Option Addr} {n c : Nat} {W : World} (h : OsV B O (.slice A n c) W) : ∃ os, n = List.length os ∧ List.map Prod.snd os = O ∧ OsK W B A c os := by
 obtain ⟨A', c', os, he, h1, h2, h3⟩ := h
 simp only [Value.slice.injEq] at he
 obtain ⟨rfl, rfl, rfl⟩ := he
 exact ⟨os, rfl, h1, h2, h3⟩
def RvV (B : Nat) (a : LAd) (R : Rp) (v : Value) (W : World) : Prop := ∃ A c qs, v = Rp.val a A (List.length qs) c R ∧ RpF W B a A c qs R
theorem RvV.mono (b B : Nat) (a : LAd) (R : Rp) : Rm.Mono (relE b) (RvV B a R) := fun v w w' ⟨A, c, qs, h, hf⟩ hx => ⟨A, c, qs, h, hf.keep hx⟩
theorem RvV.inv {B : Nat} {a : LAd} {R : Rp} {A : Option Addr} {n c : Nat} {W : World} (h : RvV B a R (Rp.val a A n c R) W) : ∃ qs, n = List.length qs ∧ RpF W B a A c qs R := by
 obtain ⟨A', c', qs, he, hf⟩ := h
 simp only [Value.agg.injEq, Array.mk.injEq, List.cons.injEq, Value.slice.injEq, true_and, and_true] at he
 obtain ⟨rfl, rfl, rfl⟩ := he
 exact ⟨qs, rfl, hf⟩
def Oth (w : World) (S : List Nat) : Prop := ∀ k ∈ S, ∃ cs t, w.heap[k]? = some (.cells cs t (0, 0)) ∧ t ≠ 146 ∧ t ≠ 149 ∧ t ≠ 119 ∧ t ≠ 110
theorem LgF.other {w w' : World} {B : Nat} {a : LAd} {l : Lg} {S : List Nat} (h : LgF w B a l) (hg : Chg w w' S) (hS : Oth w S) : LgF w' B a l :=
 ⟨h.c.chg Cel.len hg (fun hl x hx hm => by obtain ⟨cs, t, hb, h1, _, _, _⟩ := hS x hm; exact box_apart hb (h.c.2 hl) h1 hx),
  h.s.chg Sea.len hg (fun hl x hx hm => by obtain ⟨cs, t, hb, _, h1, _, _⟩ := hS x hm; exact box_apart hb (h.s.2 hl) h1 hx),
  h.e.chg Ent.len hg (fun hl x hx hm => by obtain ⟨cs, t, hb, _, _, h1, _⟩ := hS x hm; exact box_apart hb (h.e.2 hl) h1 hx)⟩
theorem RpF.other {w w' : World} {B : Nat} {a : LAd} {A : Option Addr} {c : Nat} {ps : List VtE} {r : Rp} {S : List Nat} (h : RpF w B a A c ps r) (hg : Chg w w' S) (hS : Oth w S) : RpF w' B a A c ps r :=
 ⟨h.l.other hg hS, h.v.chg VtE.len hg (fun hl x hx hm => by obtain ⟨cs, t, hb, _, _, _, h1⟩ := hS x hm; exact box_apart hb (h.v.2 hl) h1 hx), fun q hq => (h.vl q hq).other hg hS, h.e⟩
theorem ApV.own {α : Type} {enc : α → List Value} {e : TypeId} {sz g B b0 : Nat} {obj1 : Obj} {l : List α} {A : Option Addr} {n c : Nat} {W : World} (h : ApV enc e sz g obj1 B b0 l (.slice A n c) W) : Ow enc e sz W b0 (.slice A l.length c) l := by
 obtain ⟨A', c', he, ho, _⟩ := h
 simp only [Value.slice.injEq] at he
 obtain ⟨rfl, rfl, rfl⟩ := he
 exact ho
end Go.Proofs.YtkenlhdiehaemaaGreat
