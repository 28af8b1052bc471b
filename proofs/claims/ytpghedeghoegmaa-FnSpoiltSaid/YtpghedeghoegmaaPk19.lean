/- Draws of logs. -/
import Derived.Test.YtpghedeghoegmaaPk18
namespace Go.Proofs.Ytpghedeghoegmaa
open Go.ChangeShapes Go.WideShapes Go.ChangeAt Go.RowKit Go.Sort
set_option linter.unusedVariables false
set_option linter.unusedSimpArgs false
theorem LgF.put {w w' : World} {B : Nat} {a : LAd} {l : Lg} {p : Nat} {cs : Array Value} {t : TypeId} (h : LgF w B a l) (hb : w.heap[p]? = some (.cells cs t (0, 0))) (h1 : t ≠ 101) (h2 : t ≠ 103) (h3 : t ≠ 105) (hg : Chg w w' [p]) : LgF w' B a l :=
 ⟨h.c.boxed Cel.len hb h1 hg, h.s.boxed Sea.len hb h2 hg, h.e.boxed Ent.len hb h3 hg⟩
theorem gr_chg {w0 w w' : World} {S : List Nat} {row : Option Nat} (hg : w0.grownBy w row) (hc : Chg w w' S) (hS : ∀ k ∈ S, w0.heap.size ≤ k) : w0.grownBy w' row :=
 ⟨hc.os.trans hg.os, hc.tape.trans hg.tape, hc.output.trans hg.output, Nat.le_trans hg.size hc.size, fun k hk hne => (hc.block k (Nat.lt_of_lt_of_le hk hg.size) (fun hm => by have := hS k hm; omega)).trans (hg.block k hk hne)⟩
theorem fold_b {l : List Ent} (h60 : l.length ≤ 60) (n : Int) : 0 ≤ (foldR ⟨0, [], [], l⟩ n).1.base ∧ (foldR ⟨0, [], [], l⟩ n).1.base ≤ 60 ∧ (foldR ⟨0, [], [], l⟩ n).1.cells.length ≤ 40 ∧ (foldR ⟨0, [], [], l⟩ n).1.seats.length ≤ 10 ∧ (foldR ⟨0, [], [], l⟩ n).1.ents.length ≤ 60 := by
 cases h : hasNum ⟨0, [], [], l⟩ n
 ·rw [foldR_no h]
  exact ⟨by decide, by decide, by decide, by decide, by decide⟩
 ·obtain ⟨j, _, hj, hok, e⟩ := foldR_yes h
  rw [e]
  obtain ⟨_, _, _, hI, hA⟩ := log_b hok
  have h5 := hI.all (l := l.take j) (fun e he => hA e (List.mem_of_mem_take he))
  have h6 := h5.c.len
  have h7 := h5.s.len
  have hj' : j ≤ l.length := hj
  exact ⟨by show (0 : Int) ≤ 0 + j; omega, by show (0 : Int) + j ≤ 60; omega, h6, h7, by show (l.drop j).length ≤ 60; rw [List.length_drop]; omega⟩
def FoldV (B : Nat) (L : Lg) (b : Bool) (v : Value) (W : World) : Prop := ∃ a, v = .tuple #[Lg.val a L, .bool b] ∧ LgF W B a L
theorem FoldV.mono (P : Nat) (A : Option Addr) (n c B : Nat) (hP : P < B) {B' : Nat} (hB : P < B') (L : Lg) (b : Bool) : Rm.Mono (relC P A n c B hP) (FoldV B' L b) := fun v w w' ⟨a, h, k⟩ hx => ⟨a, h, k.chg (chg_cur hx.1) (fun g hg => by rw [Mi] at hg; omega)⟩
theorem FoldV.lg {B : Nat} {L : Lg} {b b' : Bool} {a : LAd} {W : World} (h : FoldV B L b (.tuple #[Lg.val a L, .bool b']) W) : LgF W B a L := by
 obtain ⟨⟨cA, cc, sA, sc, eA, ec⟩, he, hf⟩ := h
 obtain ⟨cA', cc', sA', sc', eA', ec'⟩ := a
 simp only [Value.tuple.injEq, Array.mk.injEq, List.cons.injEq, Value.agg.injEq, Value.slice.injEq, true_and, and_true] at he
 obtain ⟨⟨⟨h1, h2⟩, ⟨h3, h4⟩, h5, h6⟩, _⟩ := he
 subst h1 h2 h3 h4 h5 h6
 exact hf
def DrawnL (w : World) (P : Nat) (A : Option Addr) (n c : Nat) (e : Ending) (w' : World) : Prop := ∃ (a : LAd) (l : Lg), e = .returned (Lg.val a l) ∧ LgF w' w.heap.size a l ∧ (-1 ≤ l.base ∧ l.base ≤ 1000000001) ∧ l.cells.length ≤ 41 ∧ l.seats.length ≤ 11 ∧ l.ents.length ≤ 61 ∧ Cur w' P A n c ∧ w.grownBy w' (some P)
set_option maxHeartbeats 8000000 in
set_option maxRecDepth 100000 in
theorem c_l3DrawRight (P : Nat) (A : Option Addr) (n c : Nat) (most : Int) (w : World) (hc : Cur w P A n c) (m0 : 0 ≤ most) (m1 : most ≤ 60) : Calls Try.prog 103 #[.pointer (some ⟨P, 0, none⟩), .int .i64 most] w fun e w' => ∃ (a : LAd) (l : Lg), e = .returned (Lg.val a l) ∧ LgF w' w.heap.size a l ∧ (0 ≤ l.base ∧ l.base ≤ 60) ∧ l.cells.length ≤ 40 ∧ l.seats.length ≤ 10 ∧ l.ents.length ≤ 60 ∧ Cur w' P A n c ∧ w.grownBy w' (some P) := by
 have hPl := hc.lt
 have hc0 := hc.ext (ext_alloc w Lg.zobj)
 have E0 := hNew (w := w) (o := Lg.zobj) rfl
 go_enter Try.func103, Try.ntmps103
 go_wp2_with fail
 refine (c_l2DrawEntries P A n c most _ hc0 m0 m1).mono ?_
 rintro e w1 ⟨v1, l, rfl, h60, hall, o1, hc1, hg1⟩
 have E1 := box_beside E0 hg1 (by simp only [ne_eq, Option.some.injEq]; omega)
 have G1 := grown_trans (gr_alloc (World.grownBy.refl w (some P)) _) hg1
 obtain ⟨Ae, ce, rfl⟩ := o1.form
 have s1 := bx_lt E1
 obtain ⟨CS, hCS⟩ : ∃ CS : Array Value, #[.int .i64 0, .slice none 0 0, .slice none 0 0, .slice Ae l.length ce] = CS := ⟨_, rfl⟩
 have x2 := ext_alloc w1 (.cells #[.int .i64 0, .slice none 0 0, .slice none 0 0, .slice Ae l.length ce] 44)
 have D2 := Hd (hNew (w := w1) (o := .cells #[.int .i64 0, .slice none 0 0, .slice none 0 0, .slice Ae l.length ce] 44) rfl)
 have E2 := Hd (x2.box E1)
 have hc2 := hc1.ext x2
 have G2 := gr_ext G1 x2
 have F2 : LgF _ (w.heap.size + 1) ⟨none, 0, none, 0, Ae, ce⟩ ⟨0, [], [], l⟩ := ⟨RdF.nil _ _ _ _ _, RdF.nil _ _ _ _ _, Ow.rdF Ent.len ((o1.kept x2).less (by simp))⟩
 have HAll := Hd hall
 clear x2 E0 E1 hc0 hc1 hg1 G1 o1 hall hCS
 obtain ⟨p, hp⟩ : ∃ p, w1.heap.size = p := ⟨_, rfl⟩
 have hpw : w.heap.size < p := by omega
 go_wp2_with fail
 refine (c_l1Once P A n c 2 _ hc2 (by omega)).mono ?_
 rintro e w3 ⟨b3, rfl, hc3, hg3⟩
 rw [hp] at D2
 have D3 := Hd (box_beside D2.out hg3 (by simp only [ne_eq, Option.some.injEq]; omega))
 have E3 := Hd (box_beside E2.out hg3 (by simp only [ne_eq, Option.some.injEq]; omega))
 have G3 := grown_trans G2 hg3
 have F3 := Hd (F2.chg (chg_cur hg3) (fun k hk => by rw [Mi] at hk; omega))
 have hP3 := hc3.lt
 have s3 := G3.size
 have z3 := bx_lt D3.out
 clear D2 E2 hc2 G2 F2 hg3
 cases b3
 ·skip
  (go_wp2_with (with_reducible refine wl_stop 23 ?_); refine stop_load (D3.out) rfl Try.underlying44 (by kernel_rfl) ?_; simp only [Act.put, Sa, Sz, Ss])
  (go_wp2_with (with_reducible refine wl_stopS 44 ?_); refine stop_store (w.heap.size) (#[.int .i64 0, .slice none 0 0, .slice none 0 0, .slice Ae l.length ce]) rfl rfl (E3.out) (by kernel_rfl) rfl (by simp [Value.oneCell']) ?_)
  intro w9 e9 k9
  have E9 := Hd e9
  have G9 := gr_chg G3 k9 (fun k hk => by rw [Mi] at hk; omega)
  have hc9 := cur_chg hc3 k9 (fun k hk => by rw [Mi] at hk; omega)
  have F9 := Hd (F3.out.chg k9 (fun k hk => by rw [Mi] at hk; omega))
  clear e9 k9
  go_wp2
  exact bodyPost_ret (results_box Try.results103 rfl Try.underlying44 (by kernel_rfl) E9.out) rfl ⟨⟨none, 0, none, 0, Ae, ce⟩, ⟨0, [], [], l⟩, rfl, F9.out.less (by omega), ⟨Int.le_refl 0, (by show (0 : Int) ≤ 60; omega)⟩, (by show 0 ≤ 40; omega), (by show 0 ≤ 10; omega), h60, hc9, G9⟩
 ·have hlw : IntKind.i64.wrap ((l.length : Int) + 1) = (l.length : Int) + 1 := by rw [IntKind.wrap_i64]; omega
  go_wp2
  (refine Rm.wp_region_mix' (R := relC P A n c w3.heap.size hP3) (fun _ _ _ => True) (fun _ _ _ _ _ hq => hq) 11 (by first | exact Nat.le_refl _ | omega | (simp; omega)) (by kernel_rfl) (by kernel_rfl) ?_; simp only [Tc, Tz, Dc, Dz])
  (refine Rm.wpMix_loadAgg (fun W h => cells_mid (cs := #[.int .i64 0, .slice none 0 0, .slice none 0 0, .slice Ae l.length ce]) (relC_box h D3.out (by omega)) [] [] rfl rfl) rfl rfl rfl Try.underlying44 (by kernel_rfl) ?_; simp only [Act.put, Sa, Sz, Ss])
  (iterate 2 (refine Rm.wpMix_plain rfl rfl ?_; go_big_quiet_step (fail); refine wpQuiet_nil ?_))
  (refine Rm.wpMix_load1 (fun W h => bx_cell (relC_box h D3.out (by omega)) 3) rfl rfl rfl Try.underlying42 rfl ?_; simp only [Act.put, Sa, Sz, Ss])
  (iterate 2 (refine Rm.wpMix_plain rfl rfl ?_; go_big_quiet_step (fail); refine wpQuiet_nil ?_))
  (try simp only [hlw])
  (refine Rm.wpMix_call (DrV (Less ((l.length : Int) + 1))) rfl rfl rfl (enters Try.func66 (by kernel_rfl) rfl) (DrV.mono _ _) (fun W9' h9 => (c_l1Below P A n c ((l.length : Int) + 1) W9' (h9.2 hc3) (by omega)).mono fun e w' ⟨x, hx, he, hc9, hg9⟩ => ⟨_, he, ⟨x, hx, rfl⟩, hg9, fun _ => hc9⟩) rfl (fun v9 hv9 => ?_); obtain ⟨_, _, y1, hy1, rfl⟩ := hv9; simp only [Act.put, Sa, Sz, Ss])
  have HB := Hd (fold_b h60 y1)
  obtain ⟨L5, hL5⟩ : ∃ L, (foldR ⟨0, [], [], l⟩ y1).1 = L := ⟨_, rfl⟩
  obtain ⟨b5, hb5⟩ : ∃ b, (foldR ⟨0, [], [], l⟩ y1).2 = b := ⟨_, rfl⟩
  have HCF := Hd (show ∀ W, LgF W (w.heap.size + 1) ⟨none, 0, none, 0, Ae, ce⟩ ⟨0, [], [], l⟩ → w.heap.size + 1 ≤ W.heap.size → Calls Try.prog 129 #[.agg #[.int .i64 0, .slice none 0 0, .slice none 0 0, .slice Ae l.length ce], .int .i64 y1] W fun e W' => ∃ v, e = .returned v ∧ FoldV (w.heap.size + 1) L5 b5 v W' ∧ Ext W W' from fun W hW hs => (c_sFold ⟨none, 0, none, 0, Ae, ce⟩ ⟨0, [], [], l⟩ y1 W hW.rd (by unfold Lg.small; simp; omega)).mono (by rintro e W' ⟨⟨a5, rfl, r5⟩, x5⟩; rw [hL5] at r5; rw [hL5, hb5]; exact ⟨_, rfl, ⟨a5, rfl, r5.less hs⟩, x5⟩))
  rw [hL5] at HB
  clear hL5 hb5
  refine Rm.wpMix_call (FoldV (w.heap.size + 1) L5 b5) rfl rfl rfl (enters Try.func129 (by kernel_rfl) rfl) (FoldV.mono P A n c _ _ (by omega) _ _) (fun W9' h9 => (HCF.out W9' (F3.out.chg (chg_cur h9.1.1) (fun k hk => by rw [Mi] at hk; omega)) (by have := h9.1.1.size; omega)).mono fun e w' ⟨v, he, hv, hx⟩ => ⟨v, he, hv, (relC P A n c _ hP3).ext _ _ hx⟩) rfl (fun v9 hv9 => ?_)
  obtain ⟨_, _, a5, rfl, _⟩ := hv9
  simp only [Act.put, Sa, Sz, Ss]
  (iterate 3 (refine Rm.wpMix_plain rfl rfl ?_; go_big_quiet_step (fail); refine wpQuiet_nil ?_))
  refine Rm.wpMix_nil ?_
  rintro w5 ⟨⟨⟨hg5, hk5⟩, _⟩, hv5⟩
  have hc5 := hk5 hc3
  have D5 := Hd (box_beside D3.out hg5 (by simp only [ne_eq, Option.some.injEq]; omega))
  have E5 := Hd (box_beside E3.out hg5 (by simp only [ne_eq, Option.some.injEq]; omega))
  have G5 := grown_trans G3 hg5
  have F5 := Hd hv5.lg
  clear hg5 hk5 D3 E3 G3 F3 hc3 hlw hv5 HCF hy1
  (go_wp2_with (with_reducible refine wl_stopS 44 ?_); refine stop_store (p) (#[.int .i64 L5.base, .slice a5.cA L5.cells.length a5.cc, .slice a5.sA L5.seats.length a5.sc, .slice a5.eA L5.ents.length a5.ec]) rfl rfl (D5.out) (by kernel_rfl) rfl (by simp [Value.oneCell']) ?_)
  intro w6 e6 k6
  have D6 := Hd e6
  have E6 := Hd (box_chg E5.out k6 (by omega))
  have G6 := gr_chg G5 k6 (fun k hk => by rw [Mi] at hk; omega)
  have hc6 := cur_chg hc5 k6 (fun k hk => by rw [Mi] at hk; omega)
  have F6 := Hd (F5.out.put D5.out (by decide) (by decide) (by decide) k6)
  clear e6 k6 D5 E5 G5 hc5 F5
  obtain ⟨hb0, hb1, hb2, hb3, hb4⟩ := HB.out
  (go_wp2_with (with_reducible refine wl_stop 23 ?_); refine stop_load (D6.out) rfl Try.underlying44 (by kernel_rfl) ?_; simp only [Act.put, Sa, Sz, Ss])
  (go_wp2_with (with_reducible refine wl_stopS 44 ?_); refine stop_store (w.heap.size) (#[.int .i64 L5.base, .slice a5.cA L5.cells.length a5.cc, .slice a5.sA L5.seats.length a5.sc, .slice a5.eA L5.ents.length a5.ec]) rfl rfl (E6.out) (by kernel_rfl) rfl (by simp [Value.oneCell']) ?_)
  intro w9 e9 k9
  have E9 := Hd e9
  have G9 := gr_chg G6 k9 (fun k hk => by rw [Mi] at hk; omega)
  have hc9 := cur_chg hc6 k9 (fun k hk => by rw [Mi] at hk; omega)
  have F9 := Hd (F6.out.chg k9 (fun k hk => by rw [Mi] at hk; omega))
  clear e9 k9
  go_wp2
  exact bodyPost_ret (results_box Try.results103 rfl Try.underlying44 (by kernel_rfl) E9.out) rfl ⟨a5, L5, rfl, F9.out.less (by omega), ⟨hb0, hb1⟩, hb2, hb3, hb4, hc9, G9⟩
set_option maxHeartbeats 8000000 in
set_option maxRecDepth 100000 in
theorem c_l3DrawLog (P : Nat) (A : Option Addr) (n c : Nat) (most : Int) (w : World) (hc : Cur w P A n c) (m0 : 0 ≤ most) (m1 : most ≤ 60) : Calls Try.prog 94 #[.pointer (some ⟨P, 0, none⟩), .int .i64 most] w (DrawnL w P A n c) := by
 obtain ⟨i0, hi, hz0, hz1, hz2⟩ := info_parts Try.infoEnt
 have hPl := hc.lt
 have hc0 := hc.ext (ext_alloc w Lg.zobj)
 have E0 := hNew (w := w) (o := Lg.zobj) rfl
 go_enter Try.func94, Try.ntmps94
 go_wp2_with fail
 refine (c_l3DrawRight P A n c most _ hc0 m0 m1).mono ?_
 rintro e w2 ⟨a, l, rfl, f2, ⟨hb0, hb1⟩, hcl, hsl, h60, hc2, hg2⟩
 have E2 := box_beside E0 hg2 (by simp only [ne_eq, Option.some.injEq]; omega)
 have G2 := grown_trans (gr_alloc (World.grownBy.refl w (some P)) _) hg2
 have s2 := bx_lt E2
 have x3 := ext_alloc w2 (Lg.obj a l)
 have D3 := Hd (hNew (w := w2) (o := Lg.obj a l) rfl)
 have E3 := Hd (x3.box E2)
 have hc3 := hc2.ext x3
 have G3 := gr_ext G2 x3
 have F3 := (f2.keep x3).less (B' := w.heap.size + 1) (by simp)
 clear x3 E0 E2 hc0 hc2 hg2 G2 f2
 obtain ⟨p, hp⟩ : ∃ p, w2.heap.size = p := ⟨_, rfl⟩
 have hpw : w.heap.size < p := by omega
 go_wp2_with fail
 refine (c_l1Below P A n c 25 _ hc3 (by omega)).mono ?_
 rintro e w4 ⟨x4, ⟨p4, q4⟩, rfl, hc4, hg4⟩
 rw [hp] at D3
 have D4 := Hd (box_beside D3.out hg4 (by simp only [ne_eq, Option.some.injEq]; omega))
 have E4 := Hd (box_beside E3.out hg4 (by simp only [ne_eq, Option.some.injEq]; omega))
 have G4 := grown_trans G3 hg4
 have F4 := Hd (F3.chg (chg_cur hg4) (fun k hk => by rw [Mi] at hk; omega))
 have hP4 := hc4.lt
 have s4 := G4.size
 have z4 := bx_lt D4.out
 clear D3 E3 hc3 G3 F3 hg4
 by_cases h0 : x4 = 0
 ·subst h0
  have d4 := bx_cell D4.out
  have f4 := bx_frozen D4.out
  have hws : IntKind.i64.wrap (1000000000 - (l.ents.length : Int)) = 1000000000 - (l.ents.length : Int) := by rw [IntKind.wrap_i64]; omega
  go_wp2_with fail
  refine (c_l1PickInt P A n c w4.heap.size [-1, 1000000000, 1000000001, 1000000000 - l.ents.length] _ (hc4.ext (ext_alloc _ _)) (by simp) (by simp) (hNew rfl) (by omega)).mono ?_
  rintro e w5 ⟨x5, hx5, rfl, hc5, hg5⟩
  have x45 := ext_alloc w4 (.cells #[.int .i64 (-1), .int .i64 1000000000, .int .i64 1000000001, .int .i64 (1000000000 - l.ents.length)] 3)
  have D5 := box_beside (hOld D4.out) hg5 (by simp only [ne_eq, Option.some.injEq]; omega)
  have E5 := box_beside (hOld E4.out) hg5 (by simp only [ne_eq, Option.some.injEq]; omega)
  have G5 := grown_trans (gr_alloc G4 _) hg5
  have F5 := (F4.out.keep (ext_alloc w4 (.cells #[.int .i64 (-1), .int .i64 1000000000, .int .i64 1000000001, .int .i64 (1000000000 - l.ents.length)] 3))).chg (chg_cur hg5) (fun k hk => by rw [Mi] at hk; omega)
  have hx6 : -1 ≤ x5 ∧ x5 ≤ 1000000001 := by
   simp only [OneOf, List.mem_cons, List.not_mem_nil, or_false] at hx5
   omega
  have d5 := bx_cell D5
  have f5 := bx_frozen D5
  have z5 := bx_lt D5
  have hP5 := hc5.lt
  have s5 := G5.size
  have D6 := Hd (box_put D5 0 (.int .i64 x5))
  have E6 := Hd (box_set_other E5 (p := ⟨p, 0, none⟩) (by dsimp only; omega) (.int .i64 x5))
  have hc6 := cur_set hc5 (p := ⟨p, 0, none⟩) (by dsimp only; omega) (.int .i64 x5)
  have G6 := gr_set G5 (p := ⟨p, 0, none⟩) (by dsimp only; omega) (.int .i64 x5)
  have F6' := F5.put D5 (by decide) (by decide) (by decide) (chg_set (Chg.refl w5 [p]) (p := ⟨p, 0, none⟩) (by simp) (.int .i64 x5))
  have F6 := Hd (show LgF (w5.setCell ⟨p, 0, none⟩ (.int .i64 x5)) (w.heap.size + 1) a ⟨x5, l.cells, l.seats, l.ents⟩ from ⟨F6'.c, F6'.s, F6'.e⟩)
  clear D4 E4 G4 F4 hc4 d4 f4 D5 E5 G5 F5 hc5 hg5 hx5 F6' x45 hws
  go_wp2_with (with_reducible refine wl_stop 36 ?_)
  refine stop_go (F := fun W => W = w5.setCell ⟨p, 0, none⟩ (.int .i64 x5)) rfl ?_
  rintro W7 rfl
  clear d5 f5 z5
  (refine stop_load (D6.out) rfl Try.underlying44 (by kernel_rfl) ?_; simp only [Act.put, Sa, Sz, Ss])
  (go_wp2_with (with_reducible refine wl_stopS 44 ?_); refine stop_store (w.heap.size) (#[.int .i64 x5, .slice a.cA l.cells.length a.cc, .slice a.sA l.seats.length a.sc, .slice a.eA l.ents.length a.ec]) rfl rfl (E6.out) (by kernel_rfl) rfl (by simp [Value.oneCell']) ?_)
  intro w9 e9 k9
  have E9 := Hd e9
  have G9 := gr_chg G6 k9 (fun k hk => by rw [Mi] at hk; omega)
  have hc9 := cur_chg hc6 k9 (fun k hk => by rw [Mi] at hk; omega)
  have F9 := Hd (F6.out.chg k9 (fun k hk => by rw [Mi] at hk; omega))
  clear e9 k9
  go_wp2
  exact bodyPost_ret (results_box Try.results94 rfl Try.underlying44 (by kernel_rfl) E9.out) rfl ⟨a, ⟨x5, l.cells, l.seats, l.ents⟩, rfl, F9.out.less (by omega), hx6, (show l.cells.length ≤ 41 by omega), (show l.seats.length ≤ 11 by omega), (show l.ents.length ≤ 61 by omega), hc9, G9⟩
 ·have h0' : (x4 == 0) = false := by simpa using h0
  by_cases h1 : x4 = 1
  ·subst h1
   go_wp2_with fail
   refine (c_l2DrawImage P A n c 5 _ hc4 (by decide) (by decide)).mono ?_
   rintro e w5 ⟨A5, c5, A6, c6, cs, ss, rfl, r5, r6, hcl5, hsl5, hc5, hg5⟩
   have D5 := box_beside D4.out hg5 (by simp only [ne_eq, Option.some.injEq]; omega)
   have E5 := box_beside E4.out hg5 (by simp only [ne_eq, Option.some.injEq]; omega)
   have G5 := grown_trans G4 hg5
   have F5 := F4.out.chg (chg_cur hg5) (fun k hk => by rw [Mi] at hk; omega)
   have d5 := bx_cell D5
   have f5 := bx_frozen D5
   have z5 := bx_lt D5
   have hP5 := hc5.lt
   have s5 := G5.size
   have F5' : LgF w5 (w.heap.size + 1) ⟨A5, c5, A6, c6, a.eA, a.ec⟩ ⟨l.base, cs, ss, l.ents⟩ := ⟨r5.less (by omega), r6.less (by omega), F5.e⟩
   have D6 := box_put D5 1 (.slice A5 cs.length c5)
   have E6 := box_set_other E5 (p := ⟨p, 1, none⟩) (by dsimp only; omega) (.slice A5 cs.length c5)
   have hc6 := cur_set hc5 (p := ⟨p, 1, none⟩) (by dsimp only; omega) (.slice A5 cs.length c5)
   have G6 := gr_set G5 (p := ⟨p, 1, none⟩) (by dsimp only; omega) (.slice A5 cs.length c5)
   have F6 := F5'.put D5 (by decide) (by decide) (by decide) (chg_set (Chg.refl w5 [p]) (p := ⟨p, 1, none⟩) (by simp) (.slice A5 cs.length c5))
   have D7 := Hd (box_put D6 2 (.slice A6 ss.length c6))
   have E7 := Hd (box_set_other E6 (p := ⟨p, 2, none⟩) (by dsimp only; omega) (.slice A6 ss.length c6))
   have hc7 := cur_set hc6 (p := ⟨p, 2, none⟩) (by dsimp only; omega) (.slice A6 ss.length c6)
   have G7 := gr_set G6 (p := ⟨p, 2, none⟩) (by dsimp only; omega) (.slice A6 ss.length c6)
   have F7 := Hd (F6.put D6 (by decide) (by decide) (by decide) (chg_set (Chg.refl _ [p]) (p := ⟨p, 2, none⟩) (by simp) (.slice A6 ss.length c6)))
   clear D4 E4 G4 F4 hc4 D5 E5 G5 F5 hc5 hg5 F5' D6 E6 hc6 G6 F6 r5 r6
   go_wp2_with (with_reducible refine wl_stop 36 ?_)
   refine stop_go (F := fun W => W = (w5.setCell ⟨p, 1, none⟩ (.slice A5 cs.length c5)).setCell ⟨p, 2, none⟩ (.slice A6 ss.length c6)) rfl ?_
   rintro W7 rfl
   clear d5 f5 z5
   (refine stop_load (D7.out) rfl Try.underlying44 (by kernel_rfl) ?_; simp only [Act.put, Sa, Sz, Ss])
   (go_wp2_with (with_reducible refine wl_stopS 44 ?_); refine stop_store (w.heap.size) (#[.int .i64 l.base, .slice A5 cs.length c5, .slice A6 ss.length c6, .slice a.eA l.ents.length a.ec]) rfl rfl (E7.out) (by kernel_rfl) rfl (by simp [Value.oneCell']) ?_)
   intro w9 e9 k9
   have E9 := Hd e9
   have G9 := gr_chg G7 k9 (fun k hk => by rw [Mi] at hk; omega)
   have hc9 := cur_chg hc7 k9 (fun k hk => by rw [Mi] at hk; omega)
   have F9 := Hd (F7.out.chg k9 (fun k hk => by rw [Mi] at hk; omega))
   clear e9 k9
   go_wp2
   exact bodyPost_ret (results_box Try.results94 rfl Try.underlying44 (by kernel_rfl) E9.out) rfl ⟨⟨A5, c5, A6, c6, a.eA, a.ec⟩, ⟨l.base, cs, ss, l.ents⟩, rfl, F9.out.less (by omega), (show -1 ≤ l.base ∧ l.base ≤ 1000000001 by omega), (show cs.length ≤ 41 by omega), (show ss.length ≤ 11 by omega), (show l.ents.length ≤ 61 by omega), hc9, G9⟩
  ·have h1' : (x4 == 1) = false := by simpa using h1
   by_cases h2 : x4 = 2
   ·subst h2
    have d4 := bx_cell D4.out
    have f4 := bx_frozen D4.out
    go_wp2
    (refine Rm.wp_region_mix' (R := relC P A n c w4.heap.size hP4) (fun _ _ _ => True) (fun _ _ _ _ _ hq => hq) 6 (by first | exact Nat.le_refl _ | omega | (simp; omega)) (by kernel_rfl) (by kernel_rfl) ?_; simp only [Tc, Tz, Dc, Dz])
    (iterate 1 (refine Rm.wpMix_plain rfl rfl ?_; go_big_quiet_step (fail); refine wpQuiet_nil ?_))
    (refine Rm.wpMix_load1 (fun W h => bx_cell (relC_box h D4.out (by omega)) 3) rfl rfl rfl Try.underlying42 rfl ?_; simp only [Act.put, Sa, Sz, Ss])
    (iterate 1 (refine Rm.wpMix_plain rfl rfl ?_; go_big_quiet_step (fail); refine wpQuiet_nil ?_))
    (refine Rm.wpMix_call (DrV (Less 2)) rfl rfl rfl (enters Try.func66 (by kernel_rfl) rfl) (DrV.mono _ _) (fun W9' h9 => (c_l1Below P A n c 2 W9' (h9.2 hc4) (by omega)).mono fun e w' ⟨x, hx, he, hc9, hg9⟩ => ⟨_, he, ⟨x, hx, rfl⟩, hg9, fun _ => hc9⟩) rfl (fun v9 hv9 => ?_); obtain ⟨_, _, y1, hy1, rfl⟩ := hv9; simp only [Act.put, Sa, Sz, Ss])
    (iterate 1 (refine Rm.wpMix_plain rfl rfl ?_; go_big_quiet_step (fail); refine wpQuiet_nil ?_))
    (refine Rm.wpMix_alloc (.cells #[.int .i64 0, .int .i64 y1, .int .i64 0, .int .i64 0, .int .i64 0] 105) rfl (fun W => by kernel_rfl) ?_; intro p2 hp2 hps2 hpi2; simp only [layVal, Act.put, Sa, Sz, Ss])
    refine Rm.wpMix_nil ?_
    rintro w5 ⟨⟨⟨hg5, hk5⟩, _⟩, e2⟩
    have hc5 := hk5 hc4
    have D5 := Hd (box_beside D4.out hg5 (by simp only [ne_eq, Option.some.injEq]; omega))
    have E5 := Hd (box_beside E4.out hg5 (by simp only [ne_eq, Option.some.injEq]; omega))
    have G5 := grown_trans G4 hg5
    have F5 := Hd (F4.out.chg (chg_cur hg5) (fun k hk => by rw [Mi] at hk; omega))
    have HE2 := Hd e2
    have y5 := bx_lt E5.out
    have hP5 := hc5.lt
    have s5 := G5.size
    clear d4 f4 hg5 hk5 e2 D4 E4 G4 F4 hc4 hp2 hps2 hpi2 hy1
    go_wp2_with (at_builtin; refine wl_appF (enc := Ent.enc) rfl _ _ 42 rfl (w.heap.size + 1) 105 i0 _ 5 40 Try.underlying42 hi hz0 hz1 hz2 rfl (by decide) Ent.len ent_one a.eA a.ec l.ents _ rfl rfl F5.out.e _ 1 [⟨0, y1, 0, 0, 0⟩] 1 rfl Nat.zero_lt_one rfl (Rd.one HE2.out rfl) (by unfold maxLen; (try simp) <;> omega) (by (try simp) <;> omega) (by omega) ?_)
    intro v6 w6 S6 o6 k6 t6
    obtain ⟨l6, hl6⟩ : ∃ q, l.ents ++ [⟨0, y1, 0, 0, 0⟩] = q := ⟨_, rfl⟩
    have hl7 : l6.length ≤ l.ents.length + 1 := by rw [← hl6]; simp
    rw [hl6] at o6
    obtain ⟨A6, c6, rfl⟩ := o6.form
    have D6 := box_out D5.out k6 (t6.box D5.out (by decide))
    have E6 := box_out E5.out k6 (t6.box E5.out (by decide))
    have hc6 := cur_chg hc5 k6 (fun k hk => by have := (t6 k hk).1; omega)
    have G6 := t6.gr G5 k6 (by omega)
    have F6 : LgF w6 (w.heap.size + 1) ⟨a.cA, a.cc, a.sA, a.sc, A6, c6⟩ ⟨l.base, l.cells, l.seats, l6⟩ := ⟨F5.out.c.chg Cel.len k6 (t6.row F5.out.c (by decide)), F5.out.s.chg Sea.len k6 (t6.row F5.out.s (by decide)), Ow.rdF Ent.len o6⟩
    have s6 := G6.size
    have d6 := bx_cell D6
    have f6 := bx_frozen D6
    have z6 := bx_lt D6
    have hP6 := hc6.lt
    have D7 := Hd (box_put D6 3 (.slice A6 l6.length c6))
    have E7 := Hd (box_set_other E6 (p := ⟨p, 3, none⟩) (by dsimp only; omega) (.slice A6 l6.length c6))
    have hc7 := cur_set hc6 (p := ⟨p, 3, none⟩) (by dsimp only; omega) (.slice A6 l6.length c6)
    have G7 := gr_set G6 (p := ⟨p, 3, none⟩) (by dsimp only; omega) (.slice A6 l6.length c6)
    have F7 := Hd (F6.put D6 (by decide) (by decide) (by decide) (chg_set (Chg.refl w6 [p]) (p := ⟨p, 3, none⟩) (by simp) (.slice A6 l6.length c6)))
    clear D5 E5 G5 F5 HE2 D6 E6 o6 k6 t6 hc5 hc6 G6 F6 hl6
    go_wp2_with (with_reducible refine wl_stop 36 ?_)
    refine stop_go (F := fun W => W = w6.setCell ⟨p, 3, none⟩ (.slice A6 l6.length c6)) rfl ?_
    rintro W7 rfl
    clear d6 f6 z6
    (refine stop_load (D7.out) rfl Try.underlying44 (by kernel_rfl) ?_; simp only [Act.put, Sa, Sz, Ss])
    (go_wp2_with (with_reducible refine wl_stopS 44 ?_); refine stop_store (w.heap.size) (#[.int .i64 l.base, .slice a.cA l.cells.length a.cc, .slice a.sA l.seats.length a.sc, .slice A6 l6.length c6]) rfl rfl (E7.out) (by kernel_rfl) rfl (by simp [Value.oneCell']) ?_)
    intro w9 e9 k9
    have E9 := Hd e9
    have G9 := gr_chg G7 k9 (fun k hk => by rw [Mi] at hk; omega)
    have hc9 := cur_chg hc7 k9 (fun k hk => by rw [Mi] at hk; omega)
    have F9 := Hd (F7.out.chg k9 (fun k hk => by rw [Mi] at hk; omega))
    clear e9 k9
    go_wp2
    exact bodyPost_ret (results_box Try.results94 rfl Try.underlying44 (by kernel_rfl) E9.out) rfl ⟨⟨a.cA, a.cc, a.sA, a.sc, A6, c6⟩, ⟨l.base, l.cells, l.seats, l6⟩, rfl, F9.out.less (by omega), (show -1 ≤ l.base ∧ l.base ≤ 1000000001 by omega), (show l.cells.length ≤ 41 by omega), (show l.seats.length ≤ 11 by omega), (show l6.length ≤ 61 by omega), hc9, G9⟩
   ·have h2' : (x4 == 2) = false := by simpa using h2
    (go_wp2_with (with_reducible refine wl_stop 36 ?_); refine stop_load (D4.out) rfl Try.underlying44 (by kernel_rfl) ?_; simp only [Act.put, Sa, Sz, Ss])
    (go_wp2_with (with_reducible refine wl_stopS 44 ?_); refine stop_store (w.heap.size) (#[.int .i64 l.base, .slice a.cA l.cells.length a.cc, .slice a.sA l.seats.length a.sc, .slice a.eA l.ents.length a.ec]) rfl rfl (E4.out) (by kernel_rfl) rfl (by simp [Value.oneCell']) ?_)
    intro w9 e9 k9
    have E9 := Hd e9
    have G9 := gr_chg G4 k9 (fun k hk => by rw [Mi] at hk; omega)
    have hc9 := cur_chg hc4 k9 (fun k hk => by rw [Mi] at hk; omega)
    have F9 := Hd (F4.out.chg k9 (fun k hk => by rw [Mi] at hk; omega))
    clear e9 k9
    go_wp2
    exact bodyPost_ret (results_box Try.results94 rfl Try.underlying44 (by kernel_rfl) E9.out) rfl ⟨a, l, rfl, F9.out.less (by omega), (show -1 ≤ l.base ∧ l.base ≤ 1000000001 by omega), (show l.cells.length ≤ 41 by omega), (show l.seats.length ≤ 11 by omega), (show l.ents.length ≤ 61 by omega), hc9, G9⟩
end Go.Proofs.Ytpghedeghoegmaa
