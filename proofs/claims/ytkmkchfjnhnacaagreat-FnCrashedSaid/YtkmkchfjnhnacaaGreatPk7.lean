/- Copies of images and logs, of the program. -/
import Derived.Test.YtkmkchfjnhnacaaGreatPk6
namespace Go.Proofs.YtkmkchfjnhnacaaGreat
open Go.ChangeShapes Go.WideShapes Go.ChangeAt Go.RowKit Go.Sort
set_option linter.unusedVariables false
set_option linter.unusedSimpArgs false
theorem c_cloneCellS (A : Option Addr) (c : Nat) (l : List Cel) (w : World) (ha : Rd Cel.enc 2 w A c l) (hn : l.length ≤ 1048576) :
  Calls Tryz.prog 86 #[.slice A l.length c] w fun e w' => ∃ v, e = .returned v ∧ Ow Cel.enc 101 2 w' w.heap.size v l ∧ Ext w w' := by
 have q22 : ∀ (w : World) (a : Option Addr) (n c n' c' : Nat), (binOp .eql 24 (.slice a n c) (.slice none n' c')).run Tryz.prog w = .ok (.bool a.isNone) w := fun w a n c n' c' => Lib.run_eql_slice_nil w _ _ a n c n' c' Tryz.underlying24
 cases A with
 | none =>
  have h0 := ha.none_len
  go_enter Tryz.func86, Tryz.ntmps86
  go_wp2
  go_ret
  refine ⟨_, rfl, ?_, ext_refl _⟩
  obtain rfl : l = [] := List.eq_nil_of_length_eq_zero h0
  exact World.ownsRow_nil _ _ _ _
 | some a =>
  obtain ⟨i0, hi, hz0, hz1, hz2⟩ := info_parts Tryz.infoCel
  have HF := Hd (ha.flat (by decide) Cel.enc_len)
  have hl := flat_length Cel.enc_len l
  have HL := Hd hl
  clear hl
  go_enter Tryz.func86, Tryz.ntmps86
  go_wp2_with (at_builtin; refine wpList_append_own _ rfl _ _ 24 rfl w.heap.size 101 i0 (.agg #[.int .i64 0, .int .i64 0]) 2 16 Tryz.underlying24 hi hz0 hz1 hz2 rfl (by decide) _ _ _ rfl (World.ownsRow_made w #[] 0 (Nat.le_refl _) (Nat.zero_le _) (by simp)) a l.length c (l.flatMap Cel.enc) rfl ?c1 ?c2 ?c3 ?c4 ?c5 ?c6 ?_)
  case c1 => exact HL.out
  case c2 => intro j u hj; exact Lib.cell?_alloc_some _ (HF.out j u hj)
  case c3 => exact flat_one (fun x u hu => by simp [Cel.enc] at hu; rcases hu with rfl | rfl <;> rfl) l
  case c4 => unfold maxLen; omega
  case c5 => omega
  case c6 => simp
  intro v' w1 hown hgrow hnil
  have HN := Hd hnil
  clear hnil hz0 hz1 hz2 hi
  go_wp2
  go_ret
  refine ⟨v', rfl, ?_, ?_⟩
  ·unfold Ow; simpa using hown
  ·exact ((Below.refl _ w).alloc (Nat.le_refl _) _).grown hgrow (by simp) (by intro k hk; simp [Value.ownBlock] at hk; omega)
theorem c_cloneSeatS (A : Option Addr) (c : Nat) (l : List Sea) (w : World) (ha : Rd Sea.enc 3 w A c l) (hn : l.length ≤ 1048576) :
  Calls Tryz.prog 87 #[.slice A l.length c] w fun e w' => ∃ v, e = .returned v ∧ Ow Sea.enc 103 3 w' w.heap.size v l ∧ Ext w w' := by
 have q22 : ∀ (w : World) (a : Option Addr) (n c n' c' : Nat), (binOp .eql 25 (.slice a n c) (.slice none n' c')).run Tryz.prog w = .ok (.bool a.isNone) w := fun w a n c n' c' => Lib.run_eql_slice_nil w _ _ a n c n' c' Tryz.underlying25
 cases A with
 | none =>
  have h0 := ha.none_len
  go_enter Tryz.func87, Tryz.ntmps87
  go_wp2
  go_ret
  refine ⟨_, rfl, ?_, ext_refl _⟩
  obtain rfl : l = [] := List.eq_nil_of_length_eq_zero h0
  exact World.ownsRow_nil _ _ _ _
 | some a =>
  obtain ⟨i0, hi, hz0, hz1, hz2⟩ := info_parts Tryz.infoSea
  have HF := Hd (ha.flat (by decide) Sea.enc_len)
  have hl := flat_length Sea.enc_len l
  have HL := Hd hl
  clear hl
  go_enter Tryz.func87, Tryz.ntmps87
  go_wp2_with (at_builtin; refine wpList_append_own _ rfl _ _ 25 rfl w.heap.size 103 i0 (.agg #[.int .i64 0, .int .i64 0, .int .i64 0]) 3 24 Tryz.underlying25 hi hz0 hz1 hz2 rfl (by decide) _ _ _ rfl (World.ownsRow_made w #[] 0 (Nat.le_refl _) (Nat.zero_le _) (by simp)) a l.length c (l.flatMap Sea.enc) rfl ?c1 ?c2 ?c3 ?c4 ?c5 ?c6 ?_)
  case c1 => exact HL.out
  case c2 => intro j u hj; exact Lib.cell?_alloc_some _ (HF.out j u hj)
  case c3 => exact flat_one (fun x u hu => by simp [Sea.enc] at hu; rcases hu with rfl | rfl | rfl <;> rfl) l
  case c4 => unfold maxLen; omega
  case c5 => omega
  case c6 => simp
  intro v' w1 hown hgrow hnil
  have HN := Hd hnil
  clear hnil hz0 hz1 hz2 hi
  go_wp2
  go_ret
  refine ⟨v', rfl, ?_, ?_⟩
  ·unfold Ow; simpa using hown
  ·exact ((Below.refl _ w).alloc (Nat.le_refl _) _).grown hgrow (by simp) (by intro k hk; simp [Value.ownBlock] at hk; omega)
theorem c_cloneEntryS (A : Option Addr) (c : Nat) (l : List Ent) (w : World) (ha : Rd Ent.enc 5 w A c l) (hn : l.length ≤ 1048576) :
  Calls Tryz.prog 55 #[.slice A l.length c] w fun e w' => ∃ v, e = .returned v ∧ Ow Ent.enc 70 5 w' w.heap.size v l ∧ Ext w w' := by
 have q22 : ∀ (w : World) (a : Option Addr) (n c n' c' : Nat), (binOp .eql 28 (.slice a n c) (.slice none n' c')).run Tryz.prog w = .ok (.bool a.isNone) w := fun w a n c n' c' => Lib.run_eql_slice_nil w _ _ a n c n' c' Tryz.underlying28
 cases A with
 | none =>
  have h0 := ha.none_len
  go_enter Tryz.func55, Tryz.ntmps55
  go_wp2
  go_ret
  refine ⟨_, rfl, ?_, ext_refl _⟩
  obtain rfl : l = [] := List.eq_nil_of_length_eq_zero h0
  exact World.ownsRow_nil _ _ _ _
 | some a =>
  obtain ⟨i0, hi, hz0, hz1, hz2⟩ := info_parts Tryz.infoEnt
  have HF := Hd (ha.flat (by decide) Ent.enc_len)
  have hl := flat_length Ent.enc_len l
  have HL := Hd hl
  clear hl
  go_enter Tryz.func55, Tryz.ntmps55
  go_wp2_with (at_builtin; refine wpList_append_own _ rfl _ _ 28 rfl w.heap.size 70 i0 (.agg #[.int .i64 0, .int .i64 0, .int .i64 0, .int .i64 0, .int .i64 0]) 5 40 Tryz.underlying28 hi hz0 hz1 hz2 rfl (by decide) _ _ _ rfl (World.ownsRow_made w #[] 0 (Nat.le_refl _) (Nat.zero_le _) (by simp)) a l.length c (l.flatMap Ent.enc) rfl ?c1 ?c2 ?c3 ?c4 ?c5 ?c6 ?_)
  case c1 => exact HL.out
  case c2 => intro j u hj; exact Lib.cell?_alloc_some _ (HF.out j u hj)
  case c3 => exact flat_one (fun x u hu => by simp [Ent.enc] at hu; rcases hu with rfl | rfl | rfl | rfl | rfl <;> rfl) l
  case c4 => unfold maxLen; omega
  case c5 => omega
  case c6 => simp
  intro v' w1 hown hgrow hnil
  have HN := Hd hnil
  clear hnil hz0 hz1 hz2 hi
  go_wp2
  go_ret
  refine ⟨v', rfl, ?_, ?_⟩
  ·unfold Ow; simpa using hown
  ·exact ((Below.refl _ w).alloc (Nat.le_refl _) _).grown hgrow (by simp) (by intro k hk; simp [Value.ownBlock] at hk; omega)
theorem Ow.apart {α β : Type} {eα : α → List Value} {eβ : β → List Value} {t u : TypeId} {sα sβ : Nat} {w : World} {B B' : Nat} {A A' : Option Addr} {n n' c c' : Nat} {l : List α} {m : List β} (h : Ow eα t sα w B (.slice A n c) l) (k : Ow eβ u sβ w B' (.slice A' n' c') m) (hne : t ≠ u) : ∀ x ∈ blk A, x ∉ blk A' := fun x hx hy => by
 have e1 := (ownBlock_blk A n c x).2 hx
 have e2 := (ownBlock_blk A' n' c' x).2 hy
 rcases h.2 with ⟨h2, _⟩ | ⟨g, cap, cur, hv, hb, hh, r⟩
 ·rw [h2] at e1; cases e1
 ·rcases k.2 with ⟨k2, _⟩ | ⟨g', cap', cur', kv, kb, kh, r'⟩
  ·rw [k2] at e2; cases e2
  ·rw [hv] at e1
   rw [kv] at e2
   simp only [Value.ownBlock, Option.some.injEq] at e1 e2
   subst e1
   subst e2
   rw [hh] at kh
   simp at kh
   exact hne kh.2
theorem Ow.nodup {α : Type} {eα : α → List Value} {t : TypeId} {sα : Nat} {w : World} {B : Nat} {A : Option Addr} {n c : Nat} {l : List α} (h : Ow eα t sα w B (.slice A n c) l) : (blk A).Nodup := by cases A <;> simp [blk]
theorem Ow.chg1 {α : Type} {enc : α → List Value} {e : TypeId} {sz : Nat} {w w' : World} {B g : Nat} {A : Option Addr} {n c : Nat} {l : List α} (h : Ow enc e sz w B (.slice A n c) l) (hg : Chg w w' [g]) (hlt : g < B) : Ow enc e sz w' B (.slice A n c) l :=
 h.chg hg (fun k hk hm => by rw [Mi] at hm; have := (h.inB k hk).1; omega)
theorem own_mono {α : Type} (enc : α → List Value) (t : TypeId) (sz B : Nat) (l : List α) : Mono (fun v w => Ow enc t sz w B v l) := fun _ _ _ h hx => h.kept hx
set_option maxHeartbeats 2000000 in
theorem c_copyImage (cA : Option Addr) (cc : Nat) (cs : List Cel) (sA : Option Addr) (sc : Nat) (ss : List Sea) (w : World) (hc : Rd Cel.enc 2 w cA cc cs) (hs : Rd Sea.enc 3 w sA sc ss) (hn : cs.length ≤ 1048576) (hm : ss.length ≤ 1048576) :
  Calls Tryz.prog 54 #[.agg #[.slice cA cs.length cc, .slice sA ss.length sc]] w fun e w' => ∃ A c A' c', e = .returned (.agg #[.slice A cs.length c, .slice A' ss.length c']) ∧
   Ow Cel.enc 101 2 w' w.heap.size (.slice A cs.length c) cs ∧ Ow Sea.enc 103 3 w' w.heap.size (.slice A' ss.length c') ss ∧ Ext w w' := by
 have X0 : Ext w ((w.alloc (.cells #[.slice cA cs.length cc, .slice sA ss.length sc] 27)).alloc (.cells #[.slice none 0 0, .slice none 0 0] 27)) := ext_to (ext_alloc _ _) _
 have HC := Hd (fun W (h : Ext ((w.alloc (.cells #[.slice cA cs.length cc, .slice sA ss.length sc] 27)).alloc (.cells #[.slice none 0 0, .slice none 0 0] 27)) W) => c_cloneCellS cA cc cs W (hc.keep (Ext.trans X0 h)) hn)
 have HS := Hd (fun W (h : Ext ((w.alloc (.cells #[.slice cA cs.length cc, .slice sA ss.length sc] 27)).alloc (.cells #[.slice none 0 0, .slice none 0 0] 27)) W) => c_cloneSeatS sA sc ss W (hs.keep (Ext.trans X0 h)) hm)
 clear hc hs
 go_enter Tryz.func54, Tryz.ntmps54
 go_wp2
 (refine wp_region_mix' (fun _ _ _ _ _ hq => hq) 6 (by kernel_rfl) (by kernel_rfl) (fun hg => ?_); simp only [headOps, Tc, Tz, List.filter_cons, List.filter_nil, isAlloc, Bool.not_false, Bf, if_true, if_false, List.append_nil, Dc, Dz])
 (repeat (first | (refine wpMix_plain rfl rfl ?_; go_big_quiet_step (fail); refine wpQuiet_nil ?_) | (refine wpMix_skip rfl rfl ?_; simp only [Act.put, Sa, Sz, Ss])))
 refine wpMix_call (fun v W => Ow Cel.enc 101 2 W (w.heap.size + 1 + 1) v cs) rfl rfl rfl (enters Tryz.func86 (by kernel_rfl) rfl) (own_mono _ _ _ _ _) (fun W hW => (HC.out W hW).mono fun e w' ⟨v, he, ho, hx⟩ => ⟨v, he, ho.less (by have := hW.size; simp at this; omega), hx⟩) rfl (fun v1 hv1 => ?_)
 simp only [Act.put, Sa, Sz, Ss]
 (repeat (first | (refine wpMix_plain rfl rfl ?_; go_big_quiet_step (fail); refine wpQuiet_nil ?_) | (refine wpMix_skip rfl rfl ?_; simp only [Act.put, Sa, Sz, Ss])))
 refine wpMix_call (fun v W => Ow Sea.enc 103 3 W (w.heap.size + 1 + 1) v ss) rfl rfl rfl (enters Tryz.func87 (by kernel_rfl) rfl) (own_mono _ _ _ _ _) (fun W hW => (HS.out W hW.1).mono fun e w' ⟨v, he, ho, hx⟩ => ⟨v, he, ho.less (by have := hW.1.size; simp at this; omega), hx⟩) rfl (fun v2 hv2 => ?_)
 simp only [Act.put, Sa, Sz, Ss]
 (repeat (first | (refine wpMix_plain rfl rfl ?_; go_big_quiet_step (fail); refine wpQuiet_nil ?_) | (refine wpMix_skip rfl rfl ?_; simp only [Act.put, Sa, Sz, Ss])))
 refine wpMix_nil ?_
 rintro w2 ⟨⟨hw2, o1⟩, o2⟩
 obtain ⟨A, c, rfl⟩ := o1.form
 obtain ⟨A', c', rfl⟩ := o2.form
 have B2 := hw2.box (hNew (w := w.alloc (.cells #[.slice cA cs.length cc, .slice sA ss.length sc] 27)) (o := .cells #[.slice none 0 0, .slice none 0 0] 27) rfl)
 rw [sz_alloc] at B2
 have HB := Hd B2
 have O1 := Hd o1
 have O2 := Hd o2
 clear B2 o1 o2
 go_wp2_with (with_reducible refine wl_stopS 27 ?_)
 refine stop_store (w.heap.size + 1) #[.slice A cs.length c, .slice A' ss.length c'] rfl rfl HB.out (by kernel_rfl) rfl (by simp [Value.oneCell']) ?_
 intro W4 E4 C4
 have hX4 := Hd (chg_new (Ext.trans X0 hw2) C4 (by omega))
 go_wp2
 refine bodyPost_ret (results_box Tryz.results54 rfl Tryz.underlying27 (by kernel_rfl) E4) rfl ⟨A, c, A', c', rfl, ?_, ?_, hX4.out⟩
 ·exact (O1.out.chg1 C4 (by omega)).less (by omega)
 ·exact (O2.out.chg1 C4 (by omega)).less (by omega)
def LgV (w : World) (B : Nat) (cs : List Cel) (ss : List Sea) (v : Value) : Prop := ∃ A c A' c', v = .agg #[.slice A cs.length c, .slice A' ss.length c'] ∧ Ow Cel.enc 101 2 w B (.slice A cs.length c) cs ∧ Ow Sea.enc 103 3 w B (.slice A' ss.length c') ss
theorem LgV.mono (B : Nat) (cs : List Cel) (ss : List Sea) : Mono (fun v w => LgV w B cs ss v) := fun v w w' ⟨A, c, A', c', hv, h1, h2⟩ hx => ⟨A, c, A', c', hv, h1.kept hx, h2.kept hx⟩
theorem lgO_of {w : World} {B : Nat} {cA sA eA : Option Addr} {cc sc ec : Nat} {l : Lg} (h1 : Ow Cel.enc 101 2 w B (.slice cA l.cells.length cc) l.cells) (h2 : Ow Sea.enc 103 3 w B (.slice sA l.seats.length sc) l.seats) (h3 : Ow Ent.enc 70 5 w B (.slice eA l.ents.length ec) l.ents) :
  LgO w B w.heap.size ⟨cA, cc, sA, sc, eA, ec⟩ l := by
 refine ⟨h1, h2, h3, ?_, fun k hk => ?_⟩
 ·unfold LAd.fp
  rw [List.nodup_append, List.nodup_append]
  refine ⟨⟨h1.nodup, h2.nodup, fun x hx y hy e => ?_⟩, h3.nodup, fun x hx y hy e => ?_⟩
  ·subst e; exact h1.apart h2 (by decide) x hx hy
  ·subst e
   rcases List.mem_append.1 hx with hx | hx
   ·exact h1.apart h3 (by decide) x hx hy
   ·exact h2.apart h3 (by decide) x hx hy
 ·unfold LAd.fp at hk
  rw [List.mem_append, List.mem_append] at hk
  rcases hk with (hk | hk) | hk
  ·exact (h1.inB k hk).2
  ·exact (h2.inB k hk).2
  ·exact (h3.inB k hk).2
set_option maxHeartbeats 2000000 in
theorem c_copyLog (a : LAd) (l : Lg) (hs : l.small) (w : World) (hr : LgR w a l) :
  Calls Tryz.prog 33 #[Lg.val a l] w fun e w' => ∃ a', e = .returned (Lg.val a' l) ∧ LgO w' w.heap.size w'.heap.size a' l ∧ Ext w w' := by
 have X0 : Ext w ((w.alloc (Lg.obj a l)).alloc (.cells #[.int .i64 0, .slice none 0 0, .slice none 0 0, .slice none 0 0] 30)) := ext_to (ext_alloc _ _) _
 have HC := Hd (fun W (h : Ext ((w.alloc (Lg.obj a l)).alloc (.cells #[.int .i64 0, .slice none 0 0, .slice none 0 0, .slice none 0 0] 30)) W) => c_copyImage a.cA a.cc l.cells a.sA a.sc l.seats W (hr.1.keep (Ext.trans X0 h)) (hr.2.1.keep (Ext.trans X0 h)) hs.1 hs.2.1)
 have HE := Hd (fun W (h : Ext ((w.alloc (Lg.obj a l)).alloc (.cells #[.int .i64 0, .slice none 0 0, .slice none 0 0, .slice none 0 0] 30)) W) => c_cloneEntryS a.eA a.ec l.ents W (hr.2.2.keep (Ext.trans X0 h)) hs.2.2)
 clear hr hs
 go_enter Tryz.func33, Tryz.ntmps33
 go_wp2
 (refine wp_region_mix' (fun _ _ _ _ _ hq => hq) 8 (by kernel_rfl) (by kernel_rfl) (fun hg => ?_); simp only [headOps, Tc, Tz, List.filter_cons, List.filter_nil, isAlloc, Bool.not_false, Bf, if_true, if_false, List.append_nil, Dc, Dz])
 (repeat (first | (refine wpMix_plain rfl rfl ?_; go_big_quiet_step (fail); refine wpQuiet_nil ?_) | (refine wpMix_skip rfl rfl ?_; simp only [Act.put, Sa, Sz, Ss])))
 refine wpMix_call (fun v W => LgV W (w.heap.size + 1 + 1) l.cells l.seats v) rfl rfl rfl (enters Tryz.func54 (by kernel_rfl) rfl) (LgV.mono _ _ _) (fun W hW => (HC.out W hW).mono fun e w' ⟨A, c, A', c', he, h1, h2, hx⟩ => ⟨_, he, ⟨A, c, A', c', rfl, h1.less (by have := hW.size; simp at this; omega), h2.less (by have := hW.size; simp at this; omega)⟩, hx⟩) rfl (fun v1 hv1 => ?_)
 obtain ⟨W1, _, A1, c1, A2, c2, rfl, _⟩ := hv1
 simp only [Act.put, Sa, Sz, Ss]
 (repeat (first | (refine wpMix_plain rfl rfl ?_; go_big_quiet_step (fail); refine wpQuiet_nil ?_) | (refine wpMix_skip rfl rfl ?_; simp only [Act.put, Sa, Sz, Ss])))
 refine wpMix_call (fun v W => Ow Ent.enc 70 5 W (w.heap.size + 1 + 1) v l.ents) rfl rfl rfl (enters Tryz.func55 (by kernel_rfl) rfl) (own_mono _ _ _ _ _) (fun W hW => (HE.out W hW.1).mono fun e w' ⟨v, he, ho, hx⟩ => ⟨v, he, ho.less (by have := hW.1.size; simp at this; omega), hx⟩) rfl (fun v2 hv2 => ?_)
 simp only [Act.put, Sa, Sz, Ss]
 (repeat (first | (refine wpMix_plain rfl rfl ?_; go_big_quiet_step (fail); refine wpQuiet_nil ?_) | (refine wpMix_skip rfl rfl ?_; simp only [Act.put, Sa, Sz, Ss])))
 refine wpMix_nil ?_
 rintro w2 ⟨⟨hw2, A1', c1', A2', c2', heq, o1, o2⟩, o3⟩
 simp only [Value.agg.injEq] at heq
 simp at heq
 obtain ⟨⟨rfl, rfl⟩, rfl, rfl⟩ := heq
 obtain ⟨A3, c3, rfl⟩ := o3.form
 have B2 := hw2.box (hNew (w := w.alloc (Lg.obj a l)) (o := .cells #[.int .i64 0, .slice none 0 0, .slice none 0 0, .slice none 0 0] 30) rfl)
 rw [sz_alloc] at B2
 have HB := Hd B2
 have O1 := Hd o1
 have O2 := Hd o2
 have O3 := Hd o3
 clear B2 o1 o2 o3
 go_wp2_with (with_reducible refine wl_stopS 30 ?_)
 refine stop_store (w.heap.size + 1) #[.int .i64 l.base, .slice A1 l.cells.length c1, .slice A2 l.seats.length c2, .slice A3 l.ents.length c3] rfl rfl HB.out (by kernel_rfl) rfl (by simp [Value.oneCell']) ?_
 intro W4 E4 C4
 have hX4 := Hd (chg_new (Ext.trans X0 hw2) C4 (by omega))
 go_wp2
 exact bodyPost_ret (results_box Tryz.results33 rfl Tryz.underlying30 (by kernel_rfl) E4) rfl ⟨⟨A1, c1, A2, c2, A3, c3⟩, rfl, (lgO_of (O1.out.chg1 C4 (by omega)) (O2.out.chg1 C4 (by omega)) (O3.out.chg1 C4 (by omega))).wide (by omega) (Nat.le_refl _), hX4.out⟩
end Go.Proofs.YtkmkchfjnhnacaaGreat
