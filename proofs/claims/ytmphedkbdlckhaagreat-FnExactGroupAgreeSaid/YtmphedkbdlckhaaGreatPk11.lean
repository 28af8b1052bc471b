/- Copies of images and logs, of the program. -/
import Derived.Test.YtmphedkbdlckhaaGreatPk10
import Derived.Test.YtmphedkbdlckhaaGreatPk9
import Derived.Laws.OwnMore
import Derived.Laws.AppendOwn
import Derived.Test.YtmphedkbdlckhaaGreatPk8
import Derived.Test.YtmphedkbdlckhaaGreatPk7
namespace Go.Proofs.YtmphedkbdlckhaaGreat
open Go.ChangeShapes Go.WideShapes Go.ChangeAt Go.RowKit Go.Sort
set_option linter.unusedVariables false
set_option linter.unusedSimpArgs false
theorem c_cloneCellS (A : Option Addr) (c : Nat) (l : List Cel) (w : World) (ha : Rd Cel.enc 2 w A c l) (hn : l.length ≤ 1048576) :
  Calls Tryz.prog 120 #[.slice A l.length c] w fun e w' => ∃ v, e = .returned v ∧ Ow Cel.enc 112 2 w' w.heap.size v l ∧ Ext w w' := by
 have q22 : ∀ (w : World) (a : Option Addr) (n c n' c' : Nat), (binOp .eql 47 (.slice a n c) (.slice none n' c')).run Tryz.prog w = .ok (.bool a.isNone) w := fun w a n c n' c' => Lib.run_eql_slice_nil w _ _ a n c n' c' Tryz.underlying47
 cases A with
 | none =>
  have h0 := ha.none_len
  go_enter Tryz.func120, Tryz.ntmps120
  go_wp2
  go_ret
  refine ⟨_, rfl, ?_, ext_refl _⟩
  obtain rfl : l = [] := List.eq_nil_of_length_eq_zero h0
  exact World.ownsRow_nil _ _ _ _
 | some a =>
  obtain ⟨i0, hi, hz0, hz1, hz2⟩ := info_parts Tryz.infoCel
  have HF := Hd (ha.flat (by decide) Cel.enc_len)
  have hl := flat_length Cel.enc_len l
  have HL := Hd hl
  clear hl
  go_enter Tryz.func120, Tryz.ntmps120
  go_wp2_with (at_builtin; refine wpList_append_own _ rfl _ _ 47 rfl w.heap.size 112 i0 (.agg #[.int .i64 0, .int .i64 0]) 2 16 Tryz.underlying47 hi hz0 hz1 hz2 rfl (by decide) _ _ _ rfl (World.ownsRow_made w #[] 0 (Nat.le_refl _) (Nat.zero_le _) (by simp)) a l.length c (l.flatMap Cel.enc) rfl ?c1 ?c2 ?c3 ?c4 ?c5 ?c6 ?_)
  case c1 => exact HL.out
  case c2 => intro j u hj; exact Lib.cell?_alloc_some _ (HF.out j u hj)
  case c3 => exact flat_one (fun x u hu => by simp [Cel.enc] at hu; rcases hu with rfl | rfl <;> rfl) l
  case c4 => unfold maxLen; omega
  case c5 => omega
  case c6 => simp
  intro v' w1 hown hgrow hnil
  have HN := Hd hnil
  clear hnil hz0 hz1 hz2 hi
  go_wp2
  go_ret
  refine ⟨v', rfl, ?_, ?_⟩
  ·unfold Ow; simpa using hown
  ·exact ((Below.refl _ w).alloc (Nat.le_refl _) _).grown hgrow (by simp) (by intro k hk; simp [Value.ownBlock] at hk; omega)
theorem c_cloneSeatS (A : Option Addr) (c : Nat) (l : List Sea) (w : World) (ha : Rd Sea.enc 3 w A c l) (hn : l.length ≤ 1048576) :
  Calls Tryz.prog 121 #[.slice A l.length c] w fun e w' => ∃ v, e = .returned v ∧ Ow Sea.enc 113 3 w' w.heap.size v l ∧ Ext w w' := by
 have q22 : ∀ (w : World) (a : Option Addr) (n c n' c' : Nat), (binOp .eql 48 (.slice a n c) (.slice none n' c')).run Tryz.prog w = .ok (.bool a.isNone) w := fun w a n c n' c' => Lib.run_eql_slice_nil w _ _ a n c n' c' Tryz.underlying48
 cases A with
 | none =>
  have h0 := ha.none_len
  go_enter Tryz.func121, Tryz.ntmps121
  go_wp2
  go_ret
  refine ⟨_, rfl, ?_, ext_refl _⟩
  obtain rfl : l = [] := List.eq_nil_of_length_eq_zero h0
  exact World.ownsRow_nil _ _ _ _
 | some a =>
  obtain ⟨i0, hi, hz0, hz1, hz2⟩ := info_parts Tryz.infoSea
  have HF := Hd (ha.flat (by decide) Sea.enc_len)
  have hl := flat_length Sea.enc_len l
  have HL := Hd hl
  clear hl
  go_enter Tryz.func121, Tryz.ntmps121
  go_wp2_with (at_builtin; refine wpList_append_own _ rfl _ _ 48 rfl w.heap.size 113 i0 (.agg #[.int .i64 0, .int .i64 0, .int .i64 0]) 3 24 Tryz.underlying48 hi hz0 hz1 hz2 rfl (by decide) _ _ _ rfl (World.ownsRow_made w #[] 0 (Nat.le_refl _) (Nat.zero_le _) (by simp)) a l.length c (l.flatMap Sea.enc) rfl ?c1 ?c2 ?c3 ?c4 ?c5 ?c6 ?_)
  case c1 => exact HL.out
  case c2 => intro j u hj; exact Lib.cell?_alloc_some _ (HF.out j u hj)
  case c3 => exact flat_one (fun x u hu => by simp [Sea.enc] at hu; rcases hu with rfl | rfl | rfl <;> rfl) l
  case c4 => unfold maxLen; omega
  case c5 => omega
  case c6 => simp
  intro v' w1 hown hgrow hnil
  have HN := Hd hnil
  clear hnil hz0 hz1 hz2 hi
  go_wp2
  go_ret
  refine ⟨v', rfl, ?_, ?_⟩
  ·unfold Ow; simpa using hown
  ·exact ((Below.refl _ w).alloc (Nat.le_refl _) _).grown hgrow (by simp) (by intro k hk; simp [Value.ownBlock] at hk; omega)
theorem Ow.apart {α β : Type} {eα : α → List Value} {eβ : β → List Value} {t u : TypeId} {sα sβ : Nat} {w : World} {B B' : Nat} {A A' : Option Addr} {n n' c c' : Nat} {l : List α} {m : List β} (h : Ow eα t sα w B (.slice A n c) l) (k : Ow eβ u sβ w B' (.slice A' n' c') m) (hne : t ≠ u) : ∀ x ∈ blk A, x ∉ blk A' := fun x hx hy => by
 have e1 := (ownBlock_blk A n c x).2 hx
 have e2 := (ownBlock_blk A' n' c' x).2 hy
 rcases h.2 with ⟨h2, _⟩ | ⟨g, cap, cur, hv, hb, hh, r⟩
 ·rw [h2] at e1; cases e1
 ·rcases k.2 with ⟨k2, _⟩ | ⟨g', cap', cur', kv, kb, kh, r'⟩
  ·rw [k2] at e2; cases e2
  ·rw [hv] at e1
   rw [kv] at e2
   simp only [Value.ownBlock, Option.some.injEq] at e1 e2
   subst e1
   subst e2
   rw [hh] at kh
   simp at kh
   exact hne kh.2
theorem Ow.nodup {α : Type} {eα : α → List Value} {t : TypeId} {sα : Nat} {w : World} {B : Nat} {A : Option Addr} {n c : Nat} {l : List α} (h : Ow eα t sα w B (.slice A n c) l) : (blk A).Nodup := by cases A <;> simp [blk]
theorem Ow.chg1 {α : Type} {enc : α → List Value} {e : TypeId} {sz : Nat} {w w' : World} {B g : Nat} {A : Option Addr} {n c : Nat} {l : List α} (h : Ow enc e sz w B (.slice A n c) l) (hg : Chg w w' [g]) (hlt : g < B) : Ow enc e sz w' B (.slice A n c) l :=
 h.chg hg (fun k hk hm => by rw [Mi] at hm; have := (h.inB k hk).1; omega)
theorem own_mono {α : Type} (enc : α → List Value) (t : TypeId) (sz B : Nat) (l : List α) : Mono (fun v w => Ow enc t sz w B v l) := fun _ _ _ h hx => h.kept hx
set_option maxHeartbeats 2000000 in
theorem c_copyImage (cA : Option Addr) (cc : Nat) (cs : List Cel) (sA : Option Addr) (sc : Nat) (ss : List Sea) (w : World) (hc : Rd Cel.enc 2 w cA cc cs) (hs : Rd Sea.enc 3 w sA sc ss) (hn : cs.length ≤ 1048576) (hm : ss.length ≤ 1048576) :
  Calls Tryz.prog 99 #[.agg #[.slice cA cs.length cc, .slice sA ss.length sc]] w fun e w' => ∃ A c A' c', e = .returned (.agg #[.slice A cs.length c, .slice A' ss.length c']) ∧
   Ow Cel.enc 112 2 w' w.heap.size (.slice A cs.length c) cs ∧ Ow Sea.enc 113 3 w' w.heap.size (.slice A' ss.length c') ss ∧ Ext w w' := by
 have X0 : Ext w ((w.alloc (.cells #[.slice cA cs.length cc, .slice sA ss.length sc] 50)).alloc (.cells #[.slice none 0 0, .slice none 0 0] 50)) := ext_to (ext_alloc _ _) _
 have HC := Hd (fun W (h : Ext ((w.alloc (.cells #[.slice cA cs.length cc, .slice sA ss.length sc] 50)).alloc (.cells #[.slice none 0 0, .slice none 0 0] 50)) W) => c_cloneCellS cA cc cs W (hc.keep (Ext.trans X0 h)) hn)
 have HS := Hd (fun W (h : Ext ((w.alloc (.cells #[.slice cA cs.length cc, .slice sA ss.length sc] 50)).alloc (.cells #[.slice none 0 0, .slice none 0 0] 50)) W) => c_cloneSeatS sA sc ss W (hs.keep (Ext.trans X0 h)) hm)
 clear hc hs
 go_enter Tryz.func99, Tryz.ntmps99
 go_wp2
 (refine wp_region_mix' (fun _ _ _ _ _ hq => hq) 6 (by kernel_rfl) (by kernel_rfl) (fun hg => ?_); simp only [headOps, Tc, Tz, List.filter_cons, List.filter_nil, isAlloc, Bool.not_false, Bf, if_true, if_false, List.append_nil, Dc, Dz])
 (repeat (first | (refine wpMix_plain rfl rfl ?_; go_big_quiet_step (fail); refine wpQuiet_nil ?_) | (refine wpMix_skip rfl rfl ?_; simp only [Act.put, Sa, Sz, Ss])))
 refine wpMix_call (fun v W => Ow Cel.enc 112 2 W (w.heap.size + 1 + 1) v cs) rfl rfl rfl (enters Tryz.func120 (by kernel_rfl) rfl) (own_mono _ _ _ _ _) (fun W hW => (HC.out W hW).mono fun e w' ⟨v, he, ho, hx⟩ => ⟨v, he, ho.less (by have := hW.size; simp at this; omega), hx⟩) rfl (fun v1 hv1 => ?_)
 simp only [Act.put, Sa, Sz, Ss]
 (repeat (first | (refine wpMix_plain rfl rfl ?_; go_big_quiet_step (fail); refine wpQuiet_nil ?_) | (refine wpMix_skip rfl rfl ?_; simp only [Act.put, Sa, Sz, Ss])))
 refine wpMix_call (fun v W => Ow Sea.enc 113 3 W (w.heap.size + 1 + 1) v ss) rfl rfl rfl (enters Tryz.func121 (by kernel_rfl) rfl) (own_mono _ _ _ _ _) (fun W hW => (HS.out W hW.1).mono fun e w' ⟨v, he, ho, hx⟩ => ⟨v, he, ho.less (by have := hW.1.size; simp at this; omega), hx⟩) rfl (fun v2 hv2 => ?_)
 simp only [Act.put, Sa, Sz, Ss]
 (repeat (first | (refine wpMix_plain rfl rfl ?_; go_big_quiet_step (fail); refine wpQuiet_nil ?_) | (refine wpMix_skip rfl rfl ?_; simp only [Act.put, Sa, Sz, Ss])))
 refine wpMix_nil ?_
 rintro w2 ⟨⟨hw2, o1⟩, o2⟩
 obtain ⟨A, c, rfl⟩ := o1.form
 obtain ⟨A', c', rfl⟩ := o2.form
 have B2 := hw2.box (hNew (w := w.alloc (.cells #[.slice cA cs.length cc, .slice sA ss.length sc] 50)) (o := .cells #[.slice none 0 0, .slice none 0 0] 50) rfl)
 rw [sz_alloc] at B2
 have HB := Hd B2
 have O1 := Hd o1
 have O2 := Hd o2
 clear B2 o1 o2
 go_wp2_with (with_reducible refine wl_stopS 50 ?_)
 refine stop_store (w.heap.size + 1) #[.slice A cs.length c, .slice A' ss.length c'] rfl rfl HB.out (by kernel_rfl) rfl (by simp [Value.oneCell']) ?_
 intro W4 E4 C4
 have hX4 := Hd (chg_new (Ext.trans X0 hw2) C4 (by omega))
 go_wp2
 refine bodyPost_ret (results_box Tryz.results99 rfl Tryz.underlying50 (by kernel_rfl) E4) rfl ⟨A, c, A', c', rfl, ?_, ?_, hX4.out⟩
 ·exact (O1.out.chg1 C4 (by omega)).less (by omega)
 ·exact (O2.out.chg1 C4 (by omega)).less (by omega)
def LgV (w : World) (B : Nat) (cs : List Cel) (ss : List Sea) (v : Value) : Prop := ∃ A c A' c', v = .agg #[.slice A cs.length c, .slice A' ss.length c'] ∧ Ow Cel.enc 112 2 w B (.slice A cs.length c) cs ∧ Ow Sea.enc 113 3 w B (.slice A' ss.length c') ss
theorem LgV.mono (B : Nat) (cs : List Cel) (ss : List Sea) : Mono (fun v w => LgV w B cs ss v) := fun v w w' ⟨A, c, A', c', hv, h1, h2⟩ hx => ⟨A, c, A', c', hv, h1.kept hx, h2.kept hx⟩
theorem run_append_none {P : Program} {w : World} {t ty e : TypeId} {i : TypeInfo} {size base c : Nat} (ht : P.underlying t = some (.slice e)) (hi : P.info? e = some i)
  (v : Value) (n : Nat) (xs : List Value) (hown : w.ownsRow base e size v n xs) :
  (Builtin.append_ #[t, t] ty #[v, .slice none 0 c]).run P w = .ok v w := by
 rcases hown.2 with ⟨rfl, rfl⟩ | ⟨g, cap, cur, rfl, _, _, hnc, _⟩
 ·simp [Builtin.append_, run_underlying ht, sizeOf, typeInfo, hi, Builtin.lenOf, Builtin.firstCells]
 ·simp [Builtin.append_, run_underlying ht, sizeOf, typeInfo, hi, Builtin.lenOf, Builtin.firstCells, hnc, storeCells]
theorem wp_app {P : Program} {α : Type} {enc : α → List Value} {o : Oper} {a : Act} {w : World} {K : Act → World → Prop} {Q : Exit → Act → World → Prop} (s x : Operand) (t : TypeId)
  (ho : o.op = .call { callee := .builtin .append, args := #[s, x], argTypes := #[t, t] })
  (base : Nat) (e : TypeId) (i : TypeInfo) (z : Value) (size bytes : Nat) (ht : P.underlying t = some (.slice e)) (hi : P.info? e = some i) (hz : i.zero = some z)
  (hsize : i.size = size) (hby : i.bytes = bytes) (hzs : z.cells.size = size) (hsz : 0 < size) (hlen : ∀ x, (enc x).length = size) (hone : ∀ x, ∀ u ∈ enc x, u.oneCell' = true)
  (v : Value) (l0 : List α) (hs : a.eval s = v) (hown : Ow enc e size w base v l0) (A : Option Addr) (c : Nat) (l : List α) (n : Nat) (hn : n = l.length) (hx : a.eval x = .slice A n c) (hr : Rd enc size w A c l)
  (h63 : l0.length + l.length ≤ maxLen) (hbytes : (l0.length + l.length) * bytes ≤ 140737488355328) (hbase : base ≤ w.heap.size)
  (h : ∀ v' w', Ow enc e size w' base v' (l0 ++ l) → w.grownBy w' v.ownBlock → K (a.put o.dst v') w') : o.wp P a w K Q := by
 subst hn
 cases A with
 | none =>
  have h0 := hr.none_len
  obtain rfl : l = [] := List.eq_nil_of_length_eq_zero h0
  have hrun := run_append_none (P := P) (w := w) (ty := o.type) (c := c) ht hi v _ _ hown
  unfold Oper.wp execOp
  simp only [ho, resolve, invoke, builtin, Sem.run_bind, Sem.run_pure, Result.andThen_ok, List.map_toArray, List.map_cons, List.map_nil, hs, hx, List.length_nil, hrun]
  exact h v w (by simpa using hown) (World.grownBy.refl _ _)
 | some ad =>
  refine wp_append_own w s x t ho base e i z size bytes ht hi hz hsize hby hzs hsz v _ _ hs hown ad l.length c (l.flatMap enc) hx (flat_length hlen l) (hr.flat hsz hlen) (flat_one hone l) h63 hbytes hbase (fun v' w' ho' hg _ => h v' w' ?_ hg)
  unfold Ow
  rw [List.length_append, List.flatMap_append]
  exact ho'
theorem wl_app {P : Program} {α : Type} {enc : α → List Value} {ops : Array Oper} {rest : List Oper} {o : Oper} {a : Act} {w : World} {Q : Exit → Act → World → Prop} (hgd : o.guard = none) (s x : Operand) (t : TypeId)
  (ho : o.op = .call { callee := .builtin .append, args := #[s, x], argTypes := #[t, t] })
  (base : Nat) (e : TypeId) (i : TypeInfo) (z : Value) (size bytes : Nat) (ht : P.underlying t = some (.slice e)) (hi : P.info? e = some i) (hz : i.zero = some z)
  (hsize : i.size = size) (hby : i.bytes = bytes) (hzs : z.cells.size = size) (hsz : 0 < size) (hlen : ∀ x, (enc x).length = size) (hone : ∀ x, ∀ u ∈ enc x, u.oneCell' = true)
  (v : Value) (l0 : List α) (hs : a.eval s = v) (hown : Ow enc e size w base v l0) (A : Option Addr) (c : Nat) (l : List α) (n : Nat) (hn : n = l.length) (hx : a.eval x = .slice A n c) (hr : Rd enc size w A c l)
  (h63 : l0.length + l.length ≤ maxLen) (hbytes : (l0.length + l.length) * bytes ≤ 140737488355328) (hbase : base ≤ w.heap.size)
  (h : ∀ v' w', Ow enc e size w' base v' (l0 ++ l) → w.grownBy w' v.ownBlock → wpList P ops Q rest (a.put o.dst v') w') : wpList P ops Q (o :: rest) a w :=
 wpList_plain hgd fun _ hK => wp_app s x t ho base e i z size bytes ht hi hz hsize hby hzs hsz hlen hone v l0 hs hown A c l n hn hx hr h63 hbytes hbase fun v' w' h2 h3 => hK _ _ (h v' w' h2 h3)
theorem own_empty {α : Type} {enc : α → List Value} {e : TypeId} {sz : Nat} {w : World} {p B : Nat} (h : w.heap[p]? = some (.cells #[] e (0, 0))) (hB : B ≤ p) : Ow enc e sz w B (.slice (some ⟨p, 0, none⟩) 0 0) ([] : List α) :=
 ⟨by simp, .inr ⟨p, 0, #[], rfl, hB, h, Nat.le_refl _, by unfold maxLen; omega, by simp, by simp⟩⟩
theorem Rd.take {α : Type} {enc : α → List Value} {sz : Nat} {w : World} {A : Option Addr} {c : Nat} {l : List α} (h : Rd enc sz w A c l) (n : Nat) : Rd enc sz w A c (l.take n) := by
 refine ⟨Nat.le_trans (by simp; omega) h.1, h.2.1, fun h0 => ?_⟩
 have hl : 0 < l.length := by
  rw [List.length_take] at h0; omega
 obtain ⟨b, o, e, hb, hc⟩ := h.2.2 hl
 refine ⟨b, o, e, hb, fun k hk j u hu => ?_⟩
 have hk2 : k < l.length := by rw [List.length_take] at hk; omega
 refine hc k hk2 j u ?_
 rw [List.getElem_take] at hu
 exact hu
abbrev Vt.obj (a : LAd) (v : Vt) : Obj := .cells #[.int .i64 v.kind, .int .i64 v.frm, .int .i64 v.view, .int .i64 v.normal, .int .i64 v.op, .int .i64 v.commit, .int .i64 v.log.base, .slice a.cA v.log.cells.length a.cc, .slice a.sA v.log.seats.length a.sc, .slice a.eA v.log.ents.length a.ec] 93
theorem logOk_b {l : Lg} (h : logOk l = true) : 0 ≤ l.base ∧ l.base ≤ 1000000000 ∧ l.ents.length ≤ 60 := by
 have h1 := of_decide_eq_true h
 have := (inB_yes _ _ _).1 h1.1
 exact ⟨this.1, this.2, h1.2.2.1⟩
structure VsQ (w : World) (B : Nat) (qs : List VtE) : Prop where
 l : ∀ p ∈ qs, LgO w B w.heap.size p.1 p.2.log
 nd : (qs.flatMap (fun p => p.1.fp)).Nodup
theorem VsQ.nil (w : World) (B : Nat) : VsQ w B [] := ⟨by simp, by simp⟩
theorem VsQ.step {w w' : World} {B : Nat} {qs : List VtE} {a : LAd} {v : Vt} (h : VsQ w B qs) (hB : B ≤ w.heap.size) (ho : LgO w' w.heap.size w'.heap.size a v.log) (hx : Ext w w') : VsQ w' B (qs ++ [(a, v)]) := by
 refine ⟨fun p hp => ?_, ?_⟩
 ·rcases List.mem_append.1 hp with hp | hp
  ·exact ((h.l p hp).kept hx).wide (Nat.le_refl _) hx.size
  ·rw [Mi] at hp
   subst hp
   exact ho.wide hB (Nat.le_refl _)
 ·simp only [List.flatMap_append, List.flatMap_cons, List.flatMap_nil, List.append_nil]
  rw [List.nodup_append]
  refine ⟨h.nd, ho.nd, fun x hx1 y hy he => ?_⟩
  subst he
  obtain ⟨p, hp, hxp⟩ := List.mem_flatMap.1 hx1
  have h1 := (h.l p hp).lt x hxp
  have h2 := ho.low x hy
  omega
theorem VsQ.chg {w w' : World} {B : Nat} {qs : List VtE} {S : List Nat} (h : VsQ w B qs) (hg : Chg w w' S) (hne : ∀ p ∈ qs, ∀ k ∈ p.1.fp, k ∉ S) : VsQ w' B qs :=
 ⟨fun p hp => ((h.l p hp).chg hg (hne p hp)).wide (Nat.le_refl _) hg.size, h.nd⟩
theorem VsQ.kept {w w' : World} {B : Nat} {qs : List VtE} (h : VsQ w B qs) (hx : Ext w w') : VsQ w' B qs := ⟨fun p hp => ((h.l p hp).kept hx).wide (Nat.le_refl _) hx.size, h.nd⟩
theorem lg_apart {w : World} {B B' T : Nat} {a : LAd} {l : Lg} {A : Option Addr} {n c : Nat} {qs : List VtE} (h : LgO w B T a l) (k : Ow VtE.enc 93 10 w B' (.slice A n c) qs) : ∀ x ∈ a.fp, x ∉ blk A := fun x hx => by
 unfold LAd.fp at hx
 rw [List.mem_append, List.mem_append] at hx
 rcases hx with (hx | hx) | hx
 ·exact h.c.apart k (by decide) x hx
 ·exact h.s.apart k (by decide) x hx
 ·exact h.e.apart k (by decide) x hx
theorem VsQ.own {w : World} {B : Nat} {A : Option Addr} {c : Nat} {qs : List VtE} (h : VsQ w B qs) (k : Ow VtE.enc 93 10 w B (.slice A qs.length c) qs) : VsO w B w.heap.size A c qs := by
 refine ⟨k, h.l, ?_, fun x hx => ?_⟩
 ·rw [List.nodup_append]
  refine ⟨k.nodup, h.nd, fun x hx y hy he => ?_⟩
  subst he
  obtain ⟨p, hp, hxp⟩ := List.mem_flatMap.1 hy
  exact lg_apart (h.l p hp) k x hxp hx
 ·rcases List.mem_append.1 hx with hx | hx
  ·exact (k.inB x hx).2
  ·obtain ⟨p, hp, hxp⟩ := List.mem_flatMap.1 hx
   exact (h.l p hp).lt x hxp
theorem chg_set {w w' : World} {S : List Nat} (h : Chg w w' S) {p : Addr} (hp : p.block ∈ S) (u : Value) : Chg w (w'.setCell p u) S :=
 ⟨h.os, h.tape, h.output, by simpa using h.size, fun k hk hn => (Below.heap_setCell _ _ _ _ (fun he => hn (by rw [he]; exact hp))).trans (h.block k hk hn)⟩
theorem VtE.one (p : VtE) : ∀ u ∈ p.enc, u.oneCell' = true := by
 intro u hu
 simp [VtE.enc] at hu
 rcases hu with rfl | rfl | rfl | rfl | rfl | rfl | rfl | rfl | rfl | rfl <;> rfl
theorem Rd.one {α : Type} {enc : α → List Value} {sz : Nat} {w : World} {p : Nat} {cs : Array Value} {T : TypeId} {x : α} (h : w.heap[p]? = some (.cells cs T (0, 0))) (hx : cs.toList = enc x) : Rd enc sz w (some ⟨p, 0, none⟩) 1 [x] := by
 refine ⟨Nat.le_refl _, by unfold maxLen; omega, fun _ => ⟨p, 0, rfl, bx_lt h, fun k hk j u hu => ?_⟩⟩
 simp only [List.length_singleton] at hk
 obtain rfl : k = 0 := by omega
 rw [bx_cell h]
 simp only [List.getElem_cons_zero] at hu
 rw [← hx] at hu
 simpa using hu
end Go.Proofs.YtmphedkbdlckhaaGreat
