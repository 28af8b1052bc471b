/- Draws of messages. -/
import Derived.Test.YtpghedeghoegmaaPk19
import Derived.Test.YtpghedeghoegmaaPk33
namespace Go.Proofs.Ytpghedeghoegmaa
open Go.ChangeShapes Go.WideShapes Go.ChangeAt Go.RowKit Go.Sort
set_option linter.unusedVariables false
set_option linter.unusedSimpArgs false
theorem ext_cur9 {w w1 w2 : World} {P : Nat} (x : Ext w w1) (g : w1.grownBy w2 (some P)) (hP : w.heap.size ≤ P) : Ext w w2 := ext_grown x g (fun k hk => by simp only [Option.some.injEq] at hk; omega)
def DrawnK (w : World) (P : Nat) (A : Option Addr) (n c : Nat) (e : Ending) (w' : World) : Prop := ∃ k x v : Int, e = .returned (.agg #[.int .i64 k, .int .i64 x, .int .i64 v]) ∧ Cur w' P A n c ∧ w.grownBy w' (some P)
def DrawnM (w : World) (P : Nat) (A : Option Addr) (n c : Nat) (e : Ending) (w' : World) : Prop := ∃ (a : LAd) (m : Mg), e = .returned (Mg.val a m) ∧ LgF w' w.heap.size a m.log ∧ (-1 ≤ m.log.base ∧ m.log.base ≤ 1000000001) ∧ (m.log.cells.length ≤ 41 ∧ m.log.seats.length ≤ 11 ∧ m.log.ents.length ≤ 61) ∧ Cur w' P A n c ∧ w.grownBy w' (some P)
set_option maxHeartbeats 8000000 in
set_option maxRecDepth 100000 in
theorem c_l2DrawAny (P : Nat) (A : Option Addr) (n c : Nat) (w : World) (hc : Cur w P A n c) : Calls Try.prog 95 #[.pointer (some ⟨P, 0, none⟩)] w (DrawnK w P A n c) := by
 have hPl := hc.lt
 have hc0 := hc.ext (ext_alloc w (.cells #[.int .i64 0, .int .i64 0, .int .i64 0] 37))
 have E0 := hNew (w := w) (o := .cells #[.int .i64 0, .int .i64 0, .int .i64 0] 37) rfl
 go_enter Try.func95, Try.ntmps95
 go_wp2_with fail
 refine (c_l2DrawCmd P A n c _ hc0).mono ?_
 rintro e w1 ⟨k, x, v, _, rfl, hc1, hg1⟩
 have E1 := box_beside E0 hg1 (by simp only [ne_eq, Option.some.injEq]; omega)
 have G1 := grown_trans (gr_alloc (World.grownBy.refl w (some P)) _) hg1
 have s1 := bx_lt E1
 have x2 := ext_alloc w1 (.cells #[.int .i64 k, .int .i64 x, .int .i64 v] 37)
 have D2 := Hd (hNew (w := w1) (o := .cells #[.int .i64 k, .int .i64 x, .int .i64 v] 37) rfl)
 have E2 := Hd (x2.box E1)
 have hc2 := hc1.ext x2
 have G2 := gr_ext G1 x2
 clear x2 E0 E1 hc0 hc1 hg1 G1
 obtain ⟨p, hp⟩ : ∃ p, w1.heap.size = p := ⟨_, rfl⟩
 have hpw : w.heap.size < p := by omega
 go_wp2_with fail
 refine (c_l1Below P A n c 20 _ hc2 (by omega)).mono ?_
 rintro e w4 ⟨x4, ⟨p4, q4⟩, rfl, hc4, hg4⟩
 rw [hp] at D2
 have D4 := Hd (box_beside D2.out hg4 (by simp only [ne_eq, Option.some.injEq]; omega))
 have E4 := Hd (box_beside E2.out hg4 (by simp only [ne_eq, Option.some.injEq]; omega))
 have G4 := grown_trans G2 hg4
 have hP4 := hc4.lt
 have s4 := G4.size
 have z4 := bx_lt D4.out
 clear D2 E2 hc2 G2 hg4
 by_cases h0 : x4 = 0
 ·subst h0
  have d4 := bx_cell D4.out
  have f4 := bx_frozen D4.out
  go_wp2_with fail
  refine (c_l1PickInt P A n c w4.heap.size [0, 5, -1] _ (hc4.ext (ext_alloc _ _)) (by simp) (by simp) (hNew rfl) (by omega)).mono ?_
  rintro e w5 ⟨x5, hx5, rfl, hc5, hg5⟩
  have D5 := box_beside (hOld D4.out) hg5 (by simp only [ne_eq, Option.some.injEq]; omega)
  have E5 := box_beside (hOld E4.out) hg5 (by simp only [ne_eq, Option.some.injEq]; omega)
  have G5 := grown_trans (gr_alloc G4 _) hg5
  have d5 := bx_cell D5
  have f5 := bx_frozen D5
  have z5 := bx_lt D5
  have hP5 := hc5.lt
  have s5 := G5.size
  have D6 := Hd (box_put D5 0 (.int .i64 x5))
  have E6 := Hd (box_set_other E5 (p := ⟨p, 0, none⟩) (by dsimp only; omega) (.int .i64 x5))
  have hc6 := cur_set hc5 (p := ⟨p, 0, none⟩) (by dsimp only; omega) (.int .i64 x5)
  have G6 := gr_set G5 (p := ⟨p, 0, none⟩) (by dsimp only; omega) (.int .i64 x5)
  clear D4 E4 G4 hc4 d4 f4 D5 E5 G5 hc5 hg5 hx5
  go_wp2_with (with_reducible refine wl_stop 26 ?_)
  refine stop_go (F := fun W => W = w5.setCell ⟨p, 0, none⟩ (.int .i64 x5)) rfl ?_
  rintro W7 rfl
  clear d5 f5 z5
  (refine stop_load (D6.out) rfl Try.underlying37 (by kernel_rfl) ?_; simp only [Act.put, Sa, Sz, Ss])
  (go_wp2_with (with_reducible refine wl_stopS 37 ?_); refine stop_store (w.heap.size) (#[.int .i64 x5, .int .i64 x, .int .i64 v]) rfl rfl (E6.out) (by kernel_rfl) rfl (by simp [Value.oneCell']) ?_)
  intro w9 e9 k9
  have E9 := Hd e9
  have G9 := gr_chg G6 k9 (fun k hk => by rw [Mi] at hk; omega)
  have hc9 := cur_chg hc6 k9 (fun k hk => by rw [Mi] at hk; omega)
  clear e9 k9
  go_wp2
  exact bodyPost_ret (results_box Try.results95 rfl Try.underlying37 (by kernel_rfl) E9.out) rfl ⟨x5, x, v, rfl, hc9, G9⟩
 ·have h0' : (x4 == 0) = false := by simpa using h0
  by_cases h1 : x4 = 1
  ·subst h1
   have d4 := bx_cell D4.out
   have f4 := bx_frozen D4.out
   go_wp2_with fail
   refine (c_l1PickInt P A n c w4.heap.size [-1, 1000000000, 1000000001] _ (hc4.ext (ext_alloc _ _)) (by simp) (by simp) (hNew rfl) (by omega)).mono ?_
   rintro e w5 ⟨x5, hx5, rfl, hc5, hg5⟩
   have D5 := box_beside (hOld D4.out) hg5 (by simp only [ne_eq, Option.some.injEq]; omega)
   have E5 := box_beside (hOld E4.out) hg5 (by simp only [ne_eq, Option.some.injEq]; omega)
   have G5 := grown_trans (gr_alloc G4 _) hg5
   have d5 := bx_cell D5
   have f5 := bx_frozen D5
   have z5 := bx_lt D5
   have hP5 := hc5.lt
   have s5 := G5.size
   have D6 := Hd (box_put D5 1 (.int .i64 x5))
   have E6 := Hd (box_set_other E5 (p := ⟨p, 1, none⟩) (by dsimp only; omega) (.int .i64 x5))
   have hc6 := cur_set hc5 (p := ⟨p, 1, none⟩) (by dsimp only; omega) (.int .i64 x5)
   have G6 := gr_set G5 (p := ⟨p, 1, none⟩) (by dsimp only; omega) (.int .i64 x5)
   clear D4 E4 G4 hc4 d4 f4 D5 E5 G5 hc5 hg5 hx5
   go_wp2_with (with_reducible refine wl_stop 26 ?_)
   refine stop_go (F := fun W => W = w5.setCell ⟨p, 1, none⟩ (.int .i64 x5)) rfl ?_
   rintro W7 rfl
   clear d5 f5 z5
   (refine stop_load (D6.out) rfl Try.underlying37 (by kernel_rfl) ?_; simp only [Act.put, Sa, Sz, Ss])
   (go_wp2_with (with_reducible refine wl_stopS 37 ?_); refine stop_store (w.heap.size) (#[.int .i64 k, .int .i64 x5, .int .i64 v]) rfl rfl (E6.out) (by kernel_rfl) rfl (by simp [Value.oneCell']) ?_)
   intro w9 e9 k9
   have E9 := Hd e9
   have G9 := gr_chg G6 k9 (fun k hk => by rw [Mi] at hk; omega)
   have hc9 := cur_chg hc6 k9 (fun k hk => by rw [Mi] at hk; omega)
   clear e9 k9
   go_wp2
   exact bodyPost_ret (results_box Try.results95 rfl Try.underlying37 (by kernel_rfl) E9.out) rfl ⟨k, x5, v, rfl, hc9, G9⟩
  ·have h1' : (x4 == 1) = false := by simpa using h1
   by_cases h2 : x4 = 2
   ·subst h2
    have d4 := bx_cell D4.out
    have f4 := bx_frozen D4.out
    go_wp2_with fail
    refine (c_l1PickInt P A n c w4.heap.size [-1, 1000000000, 1000000001, 1] _ (hc4.ext (ext_alloc _ _)) (by simp) (by simp) (hNew rfl) (by omega)).mono ?_
    rintro e w5 ⟨x5, hx5, rfl, hc5, hg5⟩
    have D5 := box_beside (hOld D4.out) hg5 (by simp only [ne_eq, Option.some.injEq]; omega)
    have E5 := box_beside (hOld E4.out) hg5 (by simp only [ne_eq, Option.some.injEq]; omega)
    have G5 := grown_trans (gr_alloc G4 _) hg5
    have d5 := bx_cell D5
    have f5 := bx_frozen D5
    have z5 := bx_lt D5
    have hP5 := hc5.lt
    have s5 := G5.size
    have D6 := Hd (box_put D5 2 (.int .i64 x5))
    have E6 := Hd (box_set_other E5 (p := ⟨p, 2, none⟩) (by dsimp only; omega) (.int .i64 x5))
    have hc6 := cur_set hc5 (p := ⟨p, 2, none⟩) (by dsimp only; omega) (.int .i64 x5)
    have G6 := gr_set G5 (p := ⟨p, 2, none⟩) (by dsimp only; omega) (.int .i64 x5)
    clear D4 E4 G4 hc4 d4 f4 D5 E5 G5 hc5 hg5 hx5
    go_wp2_with (with_reducible refine wl_stop 26 ?_)
    refine stop_go (F := fun W => W = w5.setCell ⟨p, 2, none⟩ (.int .i64 x5)) rfl ?_
    rintro W7 rfl
    clear d5 f5 z5
    (refine stop_load (D6.out) rfl Try.underlying37 (by kernel_rfl) ?_; simp only [Act.put, Sa, Sz, Ss])
    (go_wp2_with (with_reducible refine wl_stopS 37 ?_); refine stop_store (w.heap.size) (#[.int .i64 k, .int .i64 x, .int .i64 x5]) rfl rfl (E6.out) (by kernel_rfl) rfl (by simp [Value.oneCell']) ?_)
    intro w9 e9 k9
    have E9 := Hd e9
    have G9 := gr_chg G6 k9 (fun k hk => by rw [Mi] at hk; omega)
    have hc9 := cur_chg hc6 k9 (fun k hk => by rw [Mi] at hk; omega)
    clear e9 k9
    go_wp2
    exact bodyPost_ret (results_box Try.results95 rfl Try.underlying37 (by kernel_rfl) E9.out) rfl ⟨k, x, x5, rfl, hc9, G9⟩
   ·have h2' : (x4 == 2) = false := by simpa using h2
    (go_wp2_with (with_reducible refine wl_stop 26 ?_); refine stop_load (D4.out) rfl Try.underlying37 (by kernel_rfl) ?_; simp only [Act.put, Sa, Sz, Ss])
    (go_wp2_with (with_reducible refine wl_stopS 37 ?_); refine stop_store (w.heap.size) (#[.int .i64 k, .int .i64 x, .int .i64 v]) rfl rfl (E4.out) (by kernel_rfl) rfl (by simp [Value.oneCell']) ?_)
    intro w9 e9 k9
    have E9 := Hd e9
    have G9 := gr_chg G4 k9 (fun k hk => by rw [Mi] at hk; omega)
    have hc9 := cur_chg hc4 k9 (fun k hk => by rw [Mi] at hk; omega)
    clear e9 k9
    go_wp2
    exact bodyPost_ret (results_box Try.results95 rfl Try.underlying37 (by kernel_rfl) E9.out) rfl ⟨k, x, v, rfl, hc9, G9⟩
set_option maxHeartbeats 16000000 in
set_option maxRecDepth 100000 in
theorem c_l4DrawRight (P : Nat) (A : Option Addr) (n c : Nat) (most : Int) (w : World) (hc : Cur w P A n c) (m0 : 0 ≤ most) (m1 : most ≤ 60) : Calls Try.prog 65 #[.pointer (some ⟨P, 0, none⟩), .int .i64 most] w fun e w' => ∃ (a : LAd) (m : Mg), e = .returned (Mg.val a m) ∧ LgF w' w.heap.size a m.log ∧ (0 ≤ m.log.base ∧ m.log.base ≤ 60) ∧ (m.log.cells.length ≤ 40 ∧ m.log.seats.length ≤ 10 ∧ m.log.ents.length ≤ 60) ∧ Cur w' P A n c ∧ w.grownBy w' (some P) := by
 have hPl := hc.lt
 have hc0 := hc.ext (ext_alloc w mz9)
 have E0 := hNew (w := w) (o := mz9) rfl
 go_enter Try.func65, Try.ntmps65
 go_wp2_with fail
 refine (c_l1Below P A n c 12 _ hc0 (by omega)).mono ?_
 rintro e w1 ⟨x1, ⟨p1, q1⟩, rfl, hc1, hg1⟩
 obtain ⟨kind, hkd⟩ : ∃ q, 1 + x1 = q := ⟨_, rfl⟩
 have E1 := box_beside E0 hg1 (by simp only [ne_eq, Option.some.injEq]; omega)
 have G1 := grown_trans (gr_alloc (World.grownBy.refl w (some P)) _) hg1
 have s1 := bx_lt E1
 have hw1 : IntKind.i64.wrap (1 + x1) = kind := by rw [IntKind.wrap_i64]; omega
 have x2 := ext_alloc w1 (Mg.obj LAd.none (Mg.ofKind kind))
 have D2 := hNew (w := w1) (o := Mg.obj LAd.none (Mg.ofKind kind)) rfl
 have E2 := Hd (x2.box E1)
 have hc2 := hc1.ext x2
 have G2 := gr_ext G1 x2
 obtain ⟨⟨hfl, hf100, hfa⟩, hemp⟩ := sForm_any kind
 obtain ⟨f, hf⟩ : ∃ f, sForm kind = f := ⟨_, rfl⟩
 have HFk := Hd (fun W => c_l4Has kind W)
 simp only [hf] at HFk
 rw [hf] at hfl hf100 hemp
 have HFa := Hd (show ∀ (i : Nat) (h : i < f.size), f[i].toNat ∈ SL by subst hf; exact fun i h => (hfa i h).1)
 clear hfa hf hfl hemp E0 E1 hc0 hc1 hg1 G1
 obtain ⟨p, hp⟩ : ∃ p, w1.heap.size = p := ⟨_, rfl⟩
 have hpw : w.heap.size < p := by omega
 have HD2 := Hd (show (w1.alloc (Mg.obj LAd.none (Mg.ofKind kind))).heap[p]? = some (Mg.obj LAd.none (Mg.ofKind kind)) by rw [← hp]; exact D2)
 clear x2 D2
 go_wp2_with (with_reducible refine wl_stop 13 ?_)
 (try simp only [hw1])
 (try simp only [hkd])
 refine stop_go (F := fun W => W = w1.alloc (Mg.obj LAd.none (Mg.ofKind kind))) rfl ?_
 rintro w3 hw3
 rw [← hw3] at hc2 G2 HD2 E2
 (try simp only [hp])
 have hd3 := bx_cell HD2.out
 have hz3 := bx_lt HD2.out
 have hf3 := bx_frozen HD2.out
 clear hw3 hw1
 go_wp2_with fail
 refine (HFk.out _).mono ?_
 rintro e w4 ⟨rfl, x4⟩
 have D4 := Hd (x4.box HD2.out)
 have E4 := Hd (x4.box E2.out)
 have hc4 := hc2.ext x4
 have G4 := gr_ext G2 x4
 clear x4 HD2 E2 hc2 G2 HFk hd3 hz3 hf3
 go_wp2
 go_loopw [7] (fun i wr => ∃ (k : Nat) (a : LAd) (m : Mg), k ≤ f.size ∧ i = .int .i64 k ∧ Hid (wr.heap[p]? = some (Mg.obj a m)) ∧ Hid (wr.heap[w.heap.size]? = some mz9) ∧ Hid (LgF wr (w.heap.size + 1) a m.log) ∧ (0 ≤ m.view ∧ m.view ≤ 5) ∧ Hid (0 ≤ m.log.base ∧ m.log.base ≤ 60) ∧ Hid (m.log.cells.length ≤ 40 ∧ m.log.seats.length ≤ 10 ∧ m.log.ents.length ≤ 60) ∧ Cur wr P A n c ∧ w.grownBy wr (some P)) (fun i _ => f.size - (intOf i).toNat)
 case atStart => exact ⟨0, LAd.none, Mg.ofKind kind, Nat.zero_le _, rfl, D4, E4, Hd ⟨RdF.nil _ _ _ _ _, RdF.nil _ _ _ _ _, RdF.nil _ _ _ _ _⟩, ⟨by show (0 : Int) ≤ 0; omega, by show (0 : Int) ≤ 5; omega⟩, Hd ⟨by show (0 : Int) ≤ 0; omega, by show (0 : Int) ≤ 60; omega⟩, Hd ⟨by show 0 ≤ 40; omega, by show 0 ≤ 10; omega, by show 0 ≤ 60; omega⟩, hc4, G4⟩
 case round =>
  clear D4 E4 hc4 G4
  obtain ⟨k, a, m, hk, rfl, D, E, L, ⟨hv0, hv1⟩, HB, HL, hcr, hgr⟩ := hrel
  have hs := hgr.size
  have hPr := hcr.lt
  have zr := bx_lt D.out
  by_cases hlt : k < f.size
  ·have hmem := HFa.out k hlt
   obtain ⟨cN, hcN⟩ : ∃ n, f[k].toNat = n := ⟨_, rfl⟩
   rw [hcN] at hmem
   have hqi : ((f[k].toNat : Nat) : Int) = (cN : Int) := by rw [hcN]
   clear hcN
   by_cases h0 : cN = 102
   ·subst h0
    have hqi : ((f[k].toNat : Nat) : Int) = 102 := hqi
    go_wp2_with fail
    refine (c_l1Below P A n c 3 _ hcr (by omega)).mono ?_
    rintro e w5 ⟨y, ⟨py, qy⟩, rfl, hc5, hg5⟩
    have D5 := box_beside D.out hg5 (by simp only [ne_eq, Option.some.injEq]; omega)
    have E5 := box_beside E.out hg5 (by simp only [ne_eq, Option.some.injEq]; omega)
    have G5 := grown_trans hgr hg5
    have F5 := L.out.chg (chg_cur hg5) (fun k hk => by rw [Mi] at hk; omega)
    have d5 := bx_cell D5
    have f5 := bx_frozen D5
    have z5 := bx_lt D5
    have hP5 := hc5.lt
    have s5 := G5.size
    have D6 := Hd (box_put D5 1 (.int .i64 y))
    have E6 := Hd (box_set_other E5 (p := ⟨p, 1, none⟩) (by dsimp only; omega) (.int .i64 y))
    have hc6 := cur_set hc5 (p := ⟨p, 1, none⟩) (by dsimp only; omega) (.int .i64 y)
    have G6 := gr_set G5 (p := ⟨p, 1, none⟩) (by dsimp only; omega) (.int .i64 y)
    have F6 := Hd (F5.put D5 (by decide) (by decide) (by decide) (chg_set (Chg.refl _ [p]) (p := ⟨p, 1, none⟩) (by simp) (.int .i64 y)))
    clear D E L hgr hcr D5 E5 F5 G5 hc5 hg5 hs hPr zr
    go_wp2
    go_roundw
    case rel => exact ⟨k + 1, a, ⟨m.kind, y, m.view, m.op, m.commit, m.normal, m.nonce, m.client, m.req, m.answer, m.ck, m.cx, m.cv, m.log⟩, by omega, by go_num, D6, E6, F6, ⟨hv0, hv1⟩, HB, HL, hc6, G6⟩
    case measure => simp [intOf] <;> omega
   ·skip
    by_cases h1 : cN = 82
    ·subst h1
     have hqi : ((f[k].toNat : Nat) : Int) = 82 := hqi
     go_wp2_with fail
     refine (c_l1Below P A n c 6 _ hcr (by omega)).mono ?_
     rintro e w5 ⟨y, ⟨py, qy⟩, rfl, hc5, hg5⟩
     have D5 := box_beside D.out hg5 (by simp only [ne_eq, Option.some.injEq]; omega)
     have E5 := box_beside E.out hg5 (by simp only [ne_eq, Option.some.injEq]; omega)
     have G5 := grown_trans hgr hg5
     have F5 := L.out.chg (chg_cur hg5) (fun k hk => by rw [Mi] at hk; omega)
     have d5 := bx_cell D5
     have f5 := bx_frozen D5
     have z5 := bx_lt D5
     have hP5 := hc5.lt
     have s5 := G5.size
     have D6 := Hd (box_put D5 8 (.int .i64 (1 + y)))
     have E6 := Hd (box_set_other E5 (p := ⟨p, 8, none⟩) (by dsimp only; omega) (.int .i64 (1 + y)))
     have hc6 := cur_set hc5 (p := ⟨p, 8, none⟩) (by dsimp only; omega) (.int .i64 (1 + y))
     have G6 := gr_set G5 (p := ⟨p, 8, none⟩) (by dsimp only; omega) (.int .i64 (1 + y))
     have F6 := Hd (F5.put D5 (by decide) (by decide) (by decide) (chg_set (Chg.refl _ [p]) (p := ⟨p, 8, none⟩) (by simp) (.int .i64 (1 + y))))
     clear D E L hgr hcr D5 E5 F5 G5 hc5 hg5 hs hPr zr
     go_wp2
     go_roundw
     case rel => exact ⟨k + 1, a, ⟨m.kind, m.frm, m.view, m.op, m.commit, m.normal, m.nonce, m.client, (1 + y), m.answer, m.ck, m.cx, m.cv, m.log⟩, by omega, by go_num, D6, E6, F6, ⟨hv0, hv1⟩, HB, HL, hc6, G6⟩
     case measure => simp [intOf] <;> omega
    ·skip
     by_cases h2 : cN = 65
     ·subst h2
      have hqi : ((f[k].toNat : Nat) : Int) = 65 := hqi
      go_wp2_with fail
      refine (c_l1Below P A n c 40 _ hcr (by omega)).mono ?_
      rintro e w5 ⟨y, ⟨py, qy⟩, rfl, hc5, hg5⟩
      have D5 := box_beside D.out hg5 (by simp only [ne_eq, Option.some.injEq]; omega)
      have E5 := box_beside E.out hg5 (by simp only [ne_eq, Option.some.injEq]; omega)
      have G5 := grown_trans hgr hg5
      have F5 := L.out.chg (chg_cur hg5) (fun k hk => by rw [Mi] at hk; omega)
      have d5 := bx_cell D5
      have f5 := bx_frozen D5
      have z5 := bx_lt D5
      have hP5 := hc5.lt
      have s5 := G5.size
      have D6 := Hd (box_put D5 9 (.int .i64 (y - 1)))
      have E6 := Hd (box_set_other E5 (p := ⟨p, 9, none⟩) (by dsimp only; omega) (.int .i64 (y - 1)))
      have hc6 := cur_set hc5 (p := ⟨p, 9, none⟩) (by dsimp only; omega) (.int .i64 (y - 1))
      have G6 := gr_set G5 (p := ⟨p, 9, none⟩) (by dsimp only; omega) (.int .i64 (y - 1))
      have F6 := Hd (F5.put D5 (by decide) (by decide) (by decide) (chg_set (Chg.refl _ [p]) (p := ⟨p, 9, none⟩) (by simp) (.int .i64 (y - 1))))
      clear D E L hgr hcr D5 E5 F5 G5 hc5 hg5 hs hPr zr
      go_wp2
      go_roundw
      case rel => exact ⟨k + 1, a, ⟨m.kind, m.frm, m.view, m.op, m.commit, m.normal, m.nonce, m.client, m.req, (y - 1), m.ck, m.cx, m.cv, m.log⟩, by omega, by go_num, D6, E6, F6, ⟨hv0, hv1⟩, HB, HL, hc6, G6⟩
      case measure => simp [intOf] <;> omega
     ·skip
      by_cases h3 : cN = 110
      ·subst h3
       have hqi : ((f[k].toNat : Nat) : Int) = 110 := hqi
       have dp := bx_cell D.out
       have hvc := dp 2
       have hvw : IntKind.i64.wrap (m.view + 1) = m.view + 1 := by rw [IntKind.wrap_i64]; omega
       go_wp2_with fail
       (try simp only [hvw])
       refine (c_l1Below P A n c (m.view + 1) _ hcr (by omega)).mono ?_
       rintro e w5 ⟨y, ⟨py, qy⟩, rfl, hc5, hg5⟩
       have D5 := box_beside D.out hg5 (by simp only [ne_eq, Option.some.injEq]; omega)
       have E5 := box_beside E.out hg5 (by simp only [ne_eq, Option.some.injEq]; omega)
       have G5 := grown_trans hgr hg5
       have F5 := L.out.chg (chg_cur hg5) (fun k hk => by rw [Mi] at hk; omega)
       have d5 := bx_cell D5
       have f5 := bx_frozen D5
       have z5 := bx_lt D5
       have hP5 := hc5.lt
       have s5 := G5.size
       have D6 := Hd (box_put D5 5 (.int .i64 y))
       have E6 := Hd (box_set_other E5 (p := ⟨p, 5, none⟩) (by dsimp only; omega) (.int .i64 y))
       have hc6 := cur_set hc5 (p := ⟨p, 5, none⟩) (by dsimp only; omega) (.int .i64 y)
       have G6 := gr_set G5 (p := ⟨p, 5, none⟩) (by dsimp only; omega) (.int .i64 y)
       have F6 := Hd (F5.put D5 (by decide) (by decide) (by decide) (chg_set (Chg.refl _ [p]) (p := ⟨p, 5, none⟩) (by simp) (.int .i64 y)))
       clear D E L hgr hcr D5 E5 F5 G5 hc5 hg5 hs hPr zr dp hvc hvw
       go_wp2
       go_roundw
       case rel => exact ⟨k + 1, a, ⟨m.kind, m.frm, m.view, m.op, m.commit, y, m.nonce, m.client, m.req, m.answer, m.ck, m.cx, m.cv, m.log⟩, by omega, by go_num, D6, E6, F6, ⟨hv0, hv1⟩, HB, HL, hc6, G6⟩
       case measure => simp [intOf] <;> omega
      ·skip
       by_cases h4 : cN = 100
       ·subst h4
        have hqi : ((f[k].toNat : Nat) : Int) = 100 := hqi
        go_wp2_with fail
        refine (c_l2DrawCmd P A n c _ hcr).mono ?_
        rintro e w5 ⟨y1, y2, y3, _, rfl, hc5, hg5⟩
        have D5 := box_beside D.out hg5 (by simp only [ne_eq, Option.some.injEq]; omega)
        have E5 := box_beside E.out hg5 (by simp only [ne_eq, Option.some.injEq]; omega)
        have G5 := grown_trans hgr hg5
        have F5 := L.out.chg (chg_cur hg5) (fun k hk => by rw [Mi] at hk; omega)
        have d5 := bx_cell D5
        have f5 := bx_frozen D5
        have z5 := bx_lt D5
        have hP5 := hc5.lt
        have s5 := G5.size
        have D6 := (box_put D5 10 (.int .i64 y1))
        have E6 := (box_set_other E5 (p := ⟨p, 10, none⟩) (by dsimp only; omega) (.int .i64 y1))
        have hc6 := cur_set hc5 (p := ⟨p, 10, none⟩) (by dsimp only; omega) (.int .i64 y1)
        have G6 := gr_set G5 (p := ⟨p, 10, none⟩) (by dsimp only; omega) (.int .i64 y1)
        have F6 := (F5.put D5 (by decide) (by decide) (by decide) (chg_set (Chg.refl _ [p]) (p := ⟨p, 10, none⟩) (by simp) (.int .i64 y1)))
        have D7 := (box_put D6 11 (.int .i64 y2))
        have E7 := (box_set_other E6 (p := ⟨p, 11, none⟩) (by dsimp only; omega) (.int .i64 y2))
        have hc7 := cur_set hc6 (p := ⟨p, 11, none⟩) (by dsimp only; omega) (.int .i64 y2)
        have G7 := gr_set G6 (p := ⟨p, 11, none⟩) (by dsimp only; omega) (.int .i64 y2)
        have F7 := (F6.put D6 (by decide) (by decide) (by decide) (chg_set (Chg.refl _ [p]) (p := ⟨p, 11, none⟩) (by simp) (.int .i64 y2)))
        have D8 := Hd (box_put D7 12 (.int .i64 y3))
        have E8 := Hd (box_set_other E7 (p := ⟨p, 12, none⟩) (by dsimp only; omega) (.int .i64 y3))
        have hc8 := cur_set hc7 (p := ⟨p, 12, none⟩) (by dsimp only; omega) (.int .i64 y3)
        have G8 := gr_set G7 (p := ⟨p, 12, none⟩) (by dsimp only; omega) (.int .i64 y3)
        have F8 := Hd (F7.put D7 (by decide) (by decide) (by decide) (chg_set (Chg.refl _ [p]) (p := ⟨p, 12, none⟩) (by simp) (.int .i64 y3)))
        clear D E L hgr hcr D5 E5 F5 G5 hc5 hg5 hs hPr zr D6 E6 F6 G6 hc6 D7 E7 F7 G7 hc7
        go_wp2
        go_roundw
        case rel => exact ⟨k + 1, a, ⟨m.kind, m.frm, m.view, m.op, m.commit, m.normal, m.nonce, m.client, m.req, m.answer, y1, y2, y3, m.log⟩, by omega, by go_num, D8, E8, F8, ⟨hv0, hv1⟩, HB, HL, hc8, G8⟩
        case measure => simp [intOf] <;> omega
       ·skip
        by_cases h5 : cN = 108
        ·subst h5
         have hqi : ((f[k].toNat : Nat) : Int) = 108 := hqi
         go_wp2_with fail
         refine (c_l3DrawRight P A n c most _ hcr m0 m1).mono ?_
         rintro e w5 ⟨b, l, rfl, fq, hb5, hl1, hl2, hl3, hc5, hg5⟩
         have D5 := box_beside D.out hg5 (by simp only [ne_eq, Option.some.injEq]; omega)
         have E5 := box_beside E.out hg5 (by simp only [ne_eq, Option.some.injEq]; omega)
         have G5 := grown_trans hgr hg5
         have F5 := fq.less (B' := w.heap.size + 1) (by omega)
         have d5 := bx_cell D5
         have f5 := bx_frozen D5
         have z5 := bx_lt D5
         have hP5 := hc5.lt
         have s5 := G5.size
         have D6 := (box_put D5 13 (.int .i64 l.base))
         have E6 := (box_set_other E5 (p := ⟨p, 13, none⟩) (by dsimp only; omega) (.int .i64 l.base))
         have hc6 := cur_set hc5 (p := ⟨p, 13, none⟩) (by dsimp only; omega) (.int .i64 l.base)
         have G6 := gr_set G5 (p := ⟨p, 13, none⟩) (by dsimp only; omega) (.int .i64 l.base)
         have F6 := (F5.put D5 (by decide) (by decide) (by decide) (chg_set (Chg.refl _ [p]) (p := ⟨p, 13, none⟩) (by simp) (.int .i64 l.base)))
         have D7 := (box_put D6 14 (.slice b.cA l.cells.length b.cc))
         have E7 := (box_set_other E6 (p := ⟨p, 14, none⟩) (by dsimp only; omega) (.slice b.cA l.cells.length b.cc))
         have hc7 := cur_set hc6 (p := ⟨p, 14, none⟩) (by dsimp only; omega) (.slice b.cA l.cells.length b.cc)
         have G7 := gr_set G6 (p := ⟨p, 14, none⟩) (by dsimp only; omega) (.slice b.cA l.cells.length b.cc)
         have F7 := (F6.put D6 (by decide) (by decide) (by decide) (chg_set (Chg.refl _ [p]) (p := ⟨p, 14, none⟩) (by simp) (.slice b.cA l.cells.length b.cc)))
         have D8 := (box_put D7 15 (.slice b.sA l.seats.length b.sc))
         have E8 := (box_set_other E7 (p := ⟨p, 15, none⟩) (by dsimp only; omega) (.slice b.sA l.seats.length b.sc))
         have hc8 := cur_set hc7 (p := ⟨p, 15, none⟩) (by dsimp only; omega) (.slice b.sA l.seats.length b.sc)
         have G8 := gr_set G7 (p := ⟨p, 15, none⟩) (by dsimp only; omega) (.slice b.sA l.seats.length b.sc)
         have F8 := (F7.put D7 (by decide) (by decide) (by decide) (chg_set (Chg.refl _ [p]) (p := ⟨p, 15, none⟩) (by simp) (.slice b.sA l.seats.length b.sc)))
         have D9 := (box_put D8 16 (.slice b.eA l.ents.length b.ec))
         have E9 := (box_set_other E8 (p := ⟨p, 16, none⟩) (by dsimp only; omega) (.slice b.eA l.ents.length b.ec))
         have hc9 := cur_set hc8 (p := ⟨p, 16, none⟩) (by dsimp only; omega) (.slice b.eA l.ents.length b.ec)
         have G9 := gr_set G8 (p := ⟨p, 16, none⟩) (by dsimp only; omega) (.slice b.eA l.ents.length b.ec)
         have F9 := (F8.put D8 (by decide) (by decide) (by decide) (chg_set (Chg.refl _ [p]) (p := ⟨p, 16, none⟩) (by simp) (.slice b.eA l.ents.length b.ec)))
         have HD9 := Hd (show ((((w5.setCell ⟨p, 13, none⟩ (.int .i64 l.base)).setCell ⟨p, 14, none⟩ (.slice b.cA l.cells.length b.cc)).setCell ⟨p, 15, none⟩ (.slice b.sA l.seats.length b.sc)).setCell ⟨p, 16, none⟩ (.slice b.eA l.ents.length b.ec)).heap[p]? = some (Mg.obj b ⟨m.kind, m.frm, m.view, m.op, m.commit, m.normal, m.nonce, m.client, m.req, m.answer, m.ck, m.cx, m.cv, l⟩) from D9)
         have HE9 := Hd E9
         have HF9 := Hd F9
         have Hc9 := Hd hc9
         have HG9 := Hd G9
         clear hc9 G9
         clear D E L hgr hcr D5 E5 F5 G5 hc5 hg5 hs hPr zr D6 E6 F6 G6 hc6 D7 E7 F7 G7 hc7 D8 E8 F8 G8 hc8 D9 E9 F9 fq
         go_wp2
         refine code_go (F := fun W => W = (((w5.setCell ⟨p, 13, none⟩ (.int .i64 l.base)).setCell ⟨p, 14, none⟩ (.slice b.cA l.cells.length b.cc)).setCell ⟨p, 15, none⟩ (.slice b.sA l.seats.length b.sc)).setCell ⟨p, 16, none⟩ (.slice b.eA l.ents.length b.ec)) rfl ?_
         rintro w9 hw9
         rw [← hw9] at Hc9 HG9 HD9 HE9 HF9
         have hc9 := Hc9.out
         have G9 := HG9.out
         clear Hc9 HG9
         clear hw9 d5 f5 z5 hP5 s5 HB HL
         obtain ⟨mq, hmq⟩ : ∃ q : Mg, q = ⟨m.kind, m.frm, m.view, m.op, m.commit, m.normal, m.nonce, m.client, m.req, m.answer, m.ck, m.cx, m.cv, l⟩ := ⟨_, rfl⟩
         have hlq : mq.log = l := by rw [hmq]
         have hvq : mq.view = m.view := by rw [hmq]
         rw [← hmq] at HD9
         rw [← hlq] at HF9 hb5 hl1 hl2 hl3
         clear hmq hlq
         have hP9 := hc9.lt
         have hs9 := G9.size
         have hz9 := bx_lt HD9.out
         have hlw : IntKind.i64.wrap ((mq.log.ents.length : Int) + 1) = (mq.log.ents.length : Int) + 1 := by rw [IntKind.wrap_i64]; omega
         (refine Rm.wp_region_mix' (R := relC P A n c w9.heap.size hP9) (fun _ _ _ => True) (fun _ _ _ _ _ hq => hq) 12 (by first | exact Nat.le_refl _ | omega | (simp; omega)) (by kernel_rfl) (by kernel_rfl) ?_; simp only [Tc, Tz, Dc, Dz])
         (iterate 2 (refine Rm.wpMix_plain rfl rfl ?_; go_big_quiet_step (fail); refine wpQuiet_nil ?_))
         (refine Rm.wpMix_load1 (fun W h => show W.cell? _ = some (.int .i64 mq.log.base) from bx_cell (relC_box h HD9.out (by omega)) 13) rfl rfl rfl Try.underlying3 rfl ?_; simp only [Act.put, Sa, Sz, Ss])
         (iterate 3 (refine Rm.wpMix_plain rfl rfl ?_; go_big_quiet_step (fail); refine wpQuiet_nil ?_))
         (refine Rm.wpMix_load1 (fun W h => show W.cell? _ = some (.slice b.eA mq.log.ents.length b.ec) from bx_cell (relC_box h HD9.out (by omega)) 16) rfl rfl rfl Try.underlying42 rfl ?_; simp only [Act.put, Sa, Sz, Ss])
         (iterate 2 (refine Rm.wpMix_plain rfl rfl ?_; go_big_quiet_step (fail); refine wpQuiet_nil ?_))
         (try simp only [hlw])
         (refine Rm.wpMix_call (DrV (Less ((mq.log.ents.length : Int) + 1))) rfl rfl rfl (enters Try.func66 (by kernel_rfl) rfl) (DrV.mono _ _) (fun W9' h9 => (c_l1Below P A n c ((mq.log.ents.length : Int) + 1) W9' (h9.2 hc9) (by omega)).mono fun e w' ⟨x, hx, he, hc9, hg9⟩ => ⟨_, he, ⟨x, hx, rfl⟩, hg9, fun _ => hc9⟩) rfl (fun v9 hv9 => ?_); obtain ⟨_, _, y1, hy1, rfl⟩ := hv9; simp only [Act.put, Sa, Sz, Ss])
         obtain ⟨py, qy⟩ := hy1
         (iterate 2 (refine Rm.wpMix_plain rfl rfl ?_; go_big_quiet_step (fail); refine wpQuiet_nil ?_))
         refine Rm.wpMix_nil ?_
         rintro w10 ⟨⟨hg10, hk10⟩, hj10⟩
         clear hj10
         have hc5 := hk10 hc9
         have D5 := box_beside HD9.out hg10 (by simp only [ne_eq, Option.some.injEq]; omega)
         have E5 := box_beside HE9.out hg10 (by simp only [ne_eq, Option.some.injEq]; omega)
         have G5 := grown_trans G9 hg10
         have F5 := HF9.out.chg (chg_cur hg10) (fun k hk => by rw [Mi] at hk; omega)
         have hbw : IntKind.i64.wrap (mq.log.base + y1) = mq.log.base + y1 := by rw [IntKind.wrap_i64]; omega
         have d5 := bx_cell D5
         have f5 := bx_frozen D5
         have z5 := bx_lt D5
         have hP5 := hc5.lt
         have s5 := G5.size
         have D6 := Hd (box_put D5 4 (.int .i64 (mq.log.base + y1)))
         have E6 := Hd (box_set_other E5 (p := ⟨p, 4, none⟩) (by dsimp only; omega) (.int .i64 (mq.log.base + y1)))
         have hc6 := cur_set hc5 (p := ⟨p, 4, none⟩) (by dsimp only; omega) (.int .i64 (mq.log.base + y1))
         have G6 := gr_set G5 (p := ⟨p, 4, none⟩) (by dsimp only; omega) (.int .i64 (mq.log.base + y1))
         have F6 := Hd (F5.put D5 (by decide) (by decide) (by decide) (chg_set (Chg.refl _ [p]) (p := ⟨p, 4, none⟩) (by simp) (.int .i64 (mq.log.base + y1))))
         have HB6 := Hd hb5
         have HL6 := Hd (show mq.log.cells.length ≤ 40 ∧ mq.log.seats.length ≤ 10 ∧ mq.log.ents.length ≤ 60 from ⟨hl1, hl2, hl3⟩)
         have hv6 : 0 ≤ mq.view ∧ mq.view ≤ 5 := by rw [hvq]; exact ⟨hv0, hv1⟩
         clear HD9 HE9 HF9 G9 hc9 hg10 hk10 hs9 hz9 hlw D5 E5 F5 G5 hc5
         go_wp2
         go_roundw
         case rel => exact ⟨k + 1, b, ⟨mq.kind, mq.frm, mq.view, mq.op, mq.log.base + y1, mq.normal, mq.nonce, mq.client, mq.req, mq.answer, mq.ck, mq.cx, mq.cv, mq.log⟩, by omega, by go_num, D6, E6, F6, hv6, HB6, HL6, hc6, G6⟩
         case measure => simp [intOf] <;> omega
        ·skip
         have hn102 : ((cN : Int) == 102) = false := by simp; omega
         have hn82 : ((cN : Int) == 82) = false := by simp; omega
         have hn65 : ((cN : Int) == 65) = false := by simp; omega
         have hn110 : ((cN : Int) == 110) = false := by simp; omega
         have hn100 : ((cN : Int) == 100) = false := by simp; omega
         have hn108 : ((cN : Int) == 108) = false := by simp; omega
         have HSet := Hd (fun (y : Int) (hy : 0 ≤ y ∧ y < 5) (W : World) => c_set_any a m y hy.1 (by omega) cN hmem h4 h5 W)
         go_wp2
         (refine Rm.wp_region_mix' (R := relC P A n c wr.heap.size hPr) (fun _ _ _ => True) (fun _ _ _ _ _ hq => hq) 7 (by first | exact Nat.le_refl _ | omega | (simp; omega)) (by kernel_rfl) (by kernel_rfl) ?_; simp only [Tc, Tz, Dc, Dz])
         (refine Rm.wpMix_loadAgg (fun W9' h9 => cells_mid (cs := #[.int .i64 m.kind, .int .i64 m.frm, .int .i64 m.view, .int .i64 m.op, .int .i64 m.commit, .int .i64 m.normal, .int .i64 m.nonce, .int .i64 m.client, .int .i64 m.req, .int .i64 m.answer, .int .i64 m.ck, .int .i64 m.cx, .int .i64 m.cv, .int .i64 m.log.base, .slice a.cA m.log.cells.length a.cc, .slice a.sA m.log.seats.length a.sc, .slice a.eA m.log.ents.length a.ec]) (relC_box h9 D.out (by omega)) [] [] rfl rfl) rfl rfl rfl Try.underlying46 (by kernel_rfl) ?_; simp only [Act.put, Sa, Sz, Ss])
         (iterate 4 (refine Rm.wpMix_plain rfl rfl ?_; go_big_quiet_step (fail); refine wpQuiet_nil ?_))
         (try simp only [hqi])
         (refine Rm.wpMix_call (DrV (Less 5)) rfl rfl rfl (enters Try.func66 (by kernel_rfl) rfl) (DrV.mono _ _) (fun W9' h9 => (c_l1Below P A n c 5 W9' (h9.2 hcr) (by omega)).mono fun e w' ⟨x, hx, he, hc9, hg9⟩ => ⟨_, he, ⟨x, hx, rfl⟩, hg9, fun _ => hc9⟩) rfl (fun v9 hv9 => ?_); obtain ⟨_, _, y1, hy1, rfl⟩ := hv9; simp only [Act.put, Sa, Sz, Ss])
         (refine Rm.wpMix_det rfl rfl rfl (enters Try.func48 (by kernel_rfl) rfl) (fun W9' h9 => (HSet.out y1 (by have h9 : 0 ≤ y1 ∧ _ := hy1; omega) W9').mono fun e w' ⟨he, hx⟩ => ⟨he, (relC P A n c _ hPr).ext _ _ hx⟩) rfl ?_; simp only [Act.put, Sa, Sz, Ss])
         refine Rm.wpMix_nil ?_
         rintro w5 ⟨⟨hg5, hk5⟩, hj5⟩
         clear hj5
         obtain ⟨py, qy⟩ := hy1
         obtain ⟨M5, hM5⟩ : ∃ M, setF m (sMap cN) y1 = M := ⟨_, rfl⟩
         have hlq : M5.log = m.log := by rw [← hM5]; exact setF_log ..
         have hv5 : 0 ≤ M5.view ∧ M5.view ≤ 5 := by
          rw [← hM5]
          unfold setF
          (repeat' split) <;> first | exact ⟨hv0, hv1⟩ | exact ⟨py, by show y1 ≤ 5; omega⟩
         rw [hM5]
         clear hM5 HSet
         have hc5 := hk5 hcr
         have D5 := Hd (box_beside D.out hg5 (by simp only [ne_eq, Option.some.injEq]; omega))
         have E5 := Hd (box_beside E.out hg5 (by simp only [ne_eq, Option.some.injEq]; omega))
         have G5 := grown_trans hgr hg5
         have F5 := Hd (L.out.chg (chg_cur hg5) (fun k hk => by rw [Mi] at hk; omega))
         clear D E L hgr hcr hg5 hk5
         (go_wp2_with (with_reducible refine wl_stopS 46 ?_); refine stop_store (p) (#[.int .i64 M5.kind, .int .i64 M5.frm, .int .i64 M5.view, .int .i64 M5.op, .int .i64 M5.commit, .int .i64 M5.normal, .int .i64 M5.nonce, .int .i64 M5.client, .int .i64 M5.req, .int .i64 M5.answer, .int .i64 M5.ck, .int .i64 M5.cx, .int .i64 M5.cv, .int .i64 M5.log.base, .slice a.cA M5.log.cells.length a.cc, .slice a.sA M5.log.seats.length a.sc, .slice a.eA M5.log.ents.length a.ec]) rfl rfl (D5.out) (by kernel_rfl) rfl (by simp [Value.oneCell']) ?_)
         intro w6 e6 k6
         have D6 := Hd e6
         have E6 := Hd (box_chg E5.out k6 (by omega))
         have G6 := gr_chg G5 k6 (fun k hk => by rw [Mi] at hk; omega)
         have hc6 := cur_chg hc5 k6 (fun k hk => by rw [Mi] at hk; omega)
         have F6 := Hd (show LgF w6 (w.heap.size + 1) a M5.log by rw [hlq]; exact F5.out.put D5.out (by decide) (by decide) (by decide) k6)
         have HB6 := Hd (show 0 ≤ M5.log.base ∧ M5.log.base ≤ 60 by rw [hlq]; exact HB.out)
         have HL6 := Hd (show M5.log.cells.length ≤ 40 ∧ M5.log.seats.length ≤ 10 ∧ M5.log.ents.length ≤ 60 by rw [hlq]; exact HL.out)
         clear e6 k6 D5 E5 G5 hc5 F5 hlq
         go_wp2
         go_roundw
         case rel => exact ⟨k + 1, a, M5, by omega, by go_num, D6, E6, F6, hv5, HB6, HL6, hc6, G6⟩
         case measure => simp [intOf] <;> omega
  ·obtain rfl : k = f.size := by omega
   (go_wp2_with (with_reducible refine wl_stop 79 ?_); refine stop_load (D.out) rfl Try.underlying46 (by kernel_rfl) ?_; simp only [Act.put, Sa, Sz, Ss])
   (go_wp2_with (with_reducible refine wl_stopS 46 ?_); refine stop_store (w.heap.size) (#[.int .i64 m.kind, .int .i64 m.frm, .int .i64 m.view, .int .i64 m.op, .int .i64 m.commit, .int .i64 m.normal, .int .i64 m.nonce, .int .i64 m.client, .int .i64 m.req, .int .i64 m.answer, .int .i64 m.ck, .int .i64 m.cx, .int .i64 m.cv, .int .i64 m.log.base, .slice a.cA m.log.cells.length a.cc, .slice a.sA m.log.seats.length a.sc, .slice a.eA m.log.ents.length a.ec]) rfl rfl (E.out) (by kernel_rfl) rfl (by simp [Value.oneCell']) ?_)
   intro w9 e9 k9
   have E9 := Hd e9
   have G9 := gr_chg hgr k9 (fun k hk => by rw [Mi] at hk; omega)
   have hc9 := cur_chg hcr k9 (fun k hk => by rw [Mi] at hk; omega)
   have F9 := Hd (L.out.chg k9 (fun k hk => by rw [Mi] at hk; omega))
   clear e9 k9 D E L hgr hcr
   go_wp2
   exact bodyPost_ret (results_box Try.results65 rfl Try.underlying46 (by kernel_rfl) E9.out) rfl ⟨a, m, rfl, F9.out.less (by omega), HB.out, HL.out, hc9, G9⟩
set_option maxHeartbeats 16000000 in
set_option maxRecDepth 100000 in
theorem c_l4DrawMsg (P : Nat) (A : Option Addr) (n c : Nat) (most : Int) (w : World) (hc : Cur w P A n c) (m0 : 0 ≤ most) (m1 : most ≤ 60) : Calls Try.prog 54 #[.pointer (some ⟨P, 0, none⟩), .int .i64 most] w (DrawnM w P A n c) := by
 have hPl := hc.lt
 have hc0 := hc.ext (ext_alloc w mz9)
 have E0 := hNew (w := w) (o := mz9) rfl
 go_enter Try.func54, Try.ntmps54
 go_wp2_with fail
 refine (c_l4DrawRight P A n c most _ hc0 m0 m1).mono ?_
 rintro e w1 ⟨a, m, rfl, f1, hb1, hl1, hc1, hg1⟩
 have HB := Hd hb1
 have HL := Hd hl1
 have E1 := box_beside E0 hg1 (by simp only [ne_eq, Option.some.injEq]; omega)
 have G1 := grown_trans (gr_alloc (World.grownBy.refl w (some P)) _) hg1
 have s1 := bx_lt E1
 have x2 := ext_alloc w1 (Mg.obj a m)
 have D2 := Hd (hNew (w := w1) (o := Mg.obj a m) rfl)
 have E2 := Hd (x2.box E1)
 have hc2 := hc1.ext x2
 have G2 := gr_ext G1 x2
 have F2 := Hd ((f1.keep x2).less (B' := w.heap.size + 1) (by simp))
 clear x2 E0 E1 hc0 hc1 hg1 G1 f1 hb1 hl1
 obtain ⟨p, hp⟩ : ∃ p, w1.heap.size = p := ⟨_, rfl⟩
 have hpw : w.heap.size < p := by omega
 go_wp2_with fail
 refine (c_l1Below P A n c 25 _ hc2 (by omega)).mono ?_
 rintro e w4 ⟨x4, ⟨p4, q4⟩, rfl, hc4, hg4⟩
 rw [hp] at D2
 have D4 := Hd (box_beside D2.out hg4 (by simp only [ne_eq, Option.some.injEq]; omega))
 have E4 := Hd (box_beside E2.out hg4 (by simp only [ne_eq, Option.some.injEq]; omega))
 have G4 := grown_trans G2 hg4
 have F4 := Hd (F2.out.chg (chg_cur hg4) (fun k hk => by rw [Mi] at hk; omega))
 have hP4 := hc4.lt
 have s4 := G4.size
 have z4 := bx_lt D4.out
 clear D2 E2 hc2 G2 hg4 F2
 by_cases h0 : x4 = 0
 ·subst h0
  have d4 := bx_cell D4.out
  have f4 := bx_frozen D4.out
  go_wp2_with fail
  refine (c_l1PickInt P A n c w4.heap.size [0, 13, 3, 5] _ (hc4.ext (ext_alloc _ _)) (by simp) (by simp) (hNew rfl) (by omega)).mono ?_
  rintro e w5 ⟨x5, hx5, rfl, hc5, hg5⟩
  have D5 := box_beside (hOld D4.out) hg5 (by simp only [ne_eq, Option.some.injEq]; omega)
  have E5 := box_beside (hOld E4.out) hg5 (by simp only [ne_eq, Option.some.injEq]; omega)
  have G5 := grown_trans (gr_alloc G4 _) hg5
  have F5 := (F4.out.keep (ext_alloc w4 (.cells #[.int .i64 0, .int .i64 13, .int .i64 3, .int .i64 5] 3))).chg (chg_cur hg5) (fun k hk => by rw [Mi] at hk; omega)
  have d5 := bx_cell D5
  have f5 := bx_frozen D5
  have z5 := bx_lt D5
  have hP5 := hc5.lt
  have s5 := G5.size
  have D6 := Hd (box_put D5 0 (.int .i64 x5))
  have E6 := Hd (box_set_other E5 (p := ⟨p, 0, none⟩) (by dsimp only; omega) (.int .i64 x5))
  have hc6 := cur_set hc5 (p := ⟨p, 0, none⟩) (by dsimp only; omega) (.int .i64 x5)
  have G6 := gr_set G5 (p := ⟨p, 0, none⟩) (by dsimp only; omega) (.int .i64 x5)
  have F6 := Hd (F5.put D5 (by decide) (by decide) (by decide) (chg_set (Chg.refl _ [p]) (p := ⟨p, 0, none⟩) (by simp) (.int .i64 x5)))
  clear D4 E4 G4 hc4 d4 f4 D5 E5 G5 hc5 hg5 hx5 F5 F4
  go_wp2_with (with_reducible refine wl_stop 57 ?_)
  refine stop_go (F := fun W => W = w5.setCell ⟨p, 0, none⟩ (.int .i64 x5)) rfl ?_
  rintro W7 rfl
  clear d5 f5 z5
  (refine stop_load (D6.out) rfl Try.underlying46 (by kernel_rfl) ?_; simp only [Act.put, Sa, Sz, Ss])
  (go_wp2_with (with_reducible refine wl_stopS 46 ?_); refine stop_store (w.heap.size) (#[.int .i64 x5, .int .i64 m.frm, .int .i64 m.view, .int .i64 m.op, .int .i64 m.commit, .int .i64 m.normal, .int .i64 m.nonce, .int .i64 m.client, .int .i64 m.req, .int .i64 m.answer, .int .i64 m.ck, .int .i64 m.cx, .int .i64 m.cv, .int .i64 m.log.base, .slice a.cA m.log.cells.length a.cc, .slice a.sA m.log.seats.length a.sc, .slice a.eA m.log.ents.length a.ec]) rfl rfl (E6.out) (by kernel_rfl) rfl (by simp [Value.oneCell']) ?_)
  intro w9 e9 k9
  have E9 := Hd e9
  have G9 := gr_chg G6 k9 (fun k hk => by rw [Mi] at hk; omega)
  have hc9 := cur_chg hc6 k9 (fun k hk => by rw [Mi] at hk; omega)
  have F9 := Hd (F6.out.chg k9 (fun k hk => by rw [Mi] at hk; omega))
  clear e9 k9
  go_wp2
  exact bodyPost_ret (results_box Try.results54 rfl Try.underlying46 (by kernel_rfl) E9.out) rfl ⟨a, ⟨x5, m.frm, m.view, m.op, m.commit, m.normal, m.nonce, m.client, m.req, m.answer, m.ck, m.cx, m.cv, m.log⟩, rfl, F9.out.less (by omega), (show -1 ≤ (m.log).base ∧ (m.log).base ≤ 1000000001 by have := HB.out; omega), (show (m.log).cells.length ≤ 41 ∧ (m.log).seats.length ≤ 11 ∧ (m.log).ents.length ≤ 61 by have := HL.out; omega), hc9, G9⟩
 ·have h0' : (x4 == 0) = false := by simpa using h0
  by_cases h1 : x4 = 1
  ·subst h1
   have d4 := bx_cell D4.out
   have f4 := bx_frozen D4.out
   go_wp2_with fail
   refine (c_l1PickInt P A n c w4.heap.size [-1, 5, 4] _ (hc4.ext (ext_alloc _ _)) (by simp) (by simp) (hNew rfl) (by omega)).mono ?_
   rintro e w5 ⟨x5, hx5, rfl, hc5, hg5⟩
   have D5 := box_beside (hOld D4.out) hg5 (by simp only [ne_eq, Option.some.injEq]; omega)
   have E5 := box_beside (hOld E4.out) hg5 (by simp only [ne_eq, Option.some.injEq]; omega)
   have G5 := grown_trans (gr_alloc G4 _) hg5
   have F5 := (F4.out.keep (ext_alloc w4 (.cells #[.int .i64 (-1), .int .i64 5, .int .i64 4] 3))).chg (chg_cur hg5) (fun k hk => by rw [Mi] at hk; omega)
   have d5 := bx_cell D5
   have f5 := bx_frozen D5
   have z5 := bx_lt D5
   have hP5 := hc5.lt
   have s5 := G5.size
   have D6 := Hd (box_put D5 1 (.int .i64 x5))
   have E6 := Hd (box_set_other E5 (p := ⟨p, 1, none⟩) (by dsimp only; omega) (.int .i64 x5))
   have hc6 := cur_set hc5 (p := ⟨p, 1, none⟩) (by dsimp only; omega) (.int .i64 x5)
   have G6 := gr_set G5 (p := ⟨p, 1, none⟩) (by dsimp only; omega) (.int .i64 x5)
   have F6 := Hd (F5.put D5 (by decide) (by decide) (by decide) (chg_set (Chg.refl _ [p]) (p := ⟨p, 1, none⟩) (by simp) (.int .i64 x5)))
   clear D4 E4 G4 hc4 d4 f4 D5 E5 G5 hc5 hg5 hx5 F5 F4
   go_wp2_with (with_reducible refine wl_stop 57 ?_)
   refine stop_go (F := fun W => W = w5.setCell ⟨p, 1, none⟩ (.int .i64 x5)) rfl ?_
   rintro W7 rfl
   clear d5 f5 z5
   (refine stop_load (D6.out) rfl Try.underlying46 (by kernel_rfl) ?_; simp only [Act.put, Sa, Sz, Ss])
   (go_wp2_with (with_reducible refine wl_stopS 46 ?_); refine stop_store (w.heap.size) (#[.int .i64 m.kind, .int .i64 x5, .int .i64 m.view, .int .i64 m.op, .int .i64 m.commit, .int .i64 m.normal, .int .i64 m.nonce, .int .i64 m.client, .int .i64 m.req, .int .i64 m.answer, .int .i64 m.ck, .int .i64 m.cx, .int .i64 m.cv, .int .i64 m.log.base, .slice a.cA m.log.cells.length a.cc, .slice a.sA m.log.seats.length a.sc, .slice a.eA m.log.ents.length a.ec]) rfl rfl (E6.out) (by kernel_rfl) rfl (by simp [Value.oneCell']) ?_)
   intro w9 e9 k9
   have E9 := Hd e9
   have G9 := gr_chg G6 k9 (fun k hk => by rw [Mi] at hk; omega)
   have hc9 := cur_chg hc6 k9 (fun k hk => by rw [Mi] at hk; omega)
   have F9 := Hd (F6.out.chg k9 (fun k hk => by rw [Mi] at hk; omega))
   clear e9 k9
   go_wp2
   exact bodyPost_ret (results_box Try.results54 rfl Try.underlying46 (by kernel_rfl) E9.out) rfl ⟨a, ⟨m.kind, x5, m.view, m.op, m.commit, m.normal, m.nonce, m.client, m.req, m.answer, m.ck, m.cx, m.cv, m.log⟩, rfl, F9.out.less (by omega), (show -1 ≤ (m.log).base ∧ (m.log).base ≤ 1000000001 by have := HB.out; omega), (show (m.log).cells.length ≤ 41 ∧ (m.log).seats.length ≤ 11 ∧ (m.log).ents.length ≤ 61 by have := HL.out; omega), hc9, G9⟩
  ·have h1' : (x4 == 1) = false := by simpa using h1
   by_cases h2 : x4 = 2
   ·subst h2
    have d4 := bx_cell D4.out
    have f4 := bx_frozen D4.out
    go_wp2_with fail
    refine (c_l1PickInt P A n c w4.heap.size [-1, 1000000000, 1000000001] _ (hc4.ext (ext_alloc _ _)) (by simp) (by simp) (hNew rfl) (by omega)).mono ?_
    rintro e w5 ⟨x5, hx5, rfl, hc5, hg5⟩
    have D5 := box_beside (hOld D4.out) hg5 (by simp only [ne_eq, Option.some.injEq]; omega)
    have E5 := box_beside (hOld E4.out) hg5 (by simp only [ne_eq, Option.some.injEq]; omega)
    have G5 := grown_trans (gr_alloc G4 _) hg5
    have F5 := (F4.out.keep (ext_alloc w4 (.cells #[.int .i64 (-1), .int .i64 1000000000, .int .i64 1000000001] 3))).chg (chg_cur hg5) (fun k hk => by rw [Mi] at hk; omega)
    have d5 := bx_cell D5
    have f5 := bx_frozen D5
    have z5 := bx_lt D5
    have hP5 := hc5.lt
    have s5 := G5.size
    have D6 := Hd (box_put D5 2 (.int .i64 x5))
    have E6 := Hd (box_set_other E5 (p := ⟨p, 2, none⟩) (by dsimp only; omega) (.int .i64 x5))
    have hc6 := cur_set hc5 (p := ⟨p, 2, none⟩) (by dsimp only; omega) (.int .i64 x5)
    have G6 := gr_set G5 (p := ⟨p, 2, none⟩) (by dsimp only; omega) (.int .i64 x5)
    have F6 := Hd (F5.put D5 (by decide) (by decide) (by decide) (chg_set (Chg.refl _ [p]) (p := ⟨p, 2, none⟩) (by simp) (.int .i64 x5)))
    clear D4 E4 G4 hc4 d4 f4 D5 E5 G5 hc5 hg5 hx5 F5 F4
    go_wp2_with (with_reducible refine wl_stop 57 ?_)
    refine stop_go (F := fun W => W = w5.setCell ⟨p, 2, none⟩ (.int .i64 x5)) rfl ?_
    rintro W7 rfl
    clear d5 f5 z5
    (refine stop_load (D6.out) rfl Try.underlying46 (by kernel_rfl) ?_; simp only [Act.put, Sa, Sz, Ss])
    (go_wp2_with (with_reducible refine wl_stopS 46 ?_); refine stop_store (w.heap.size) (#[.int .i64 m.kind, .int .i64 m.frm, .int .i64 x5, .int .i64 m.op, .int .i64 m.commit, .int .i64 m.normal, .int .i64 m.nonce, .int .i64 m.client, .int .i64 m.req, .int .i64 m.answer, .int .i64 m.ck, .int .i64 m.cx, .int .i64 m.cv, .int .i64 m.log.base, .slice a.cA m.log.cells.length a.cc, .slice a.sA m.log.seats.length a.sc, .slice a.eA m.log.ents.length a.ec]) rfl rfl (E6.out) (by kernel_rfl) rfl (by simp [Value.oneCell']) ?_)
    intro w9 e9 k9
    have E9 := Hd e9
    have G9 := gr_chg G6 k9 (fun k hk => by rw [Mi] at hk; omega)
    have hc9 := cur_chg hc6 k9 (fun k hk => by rw [Mi] at hk; omega)
    have F9 := Hd (F6.out.chg k9 (fun k hk => by rw [Mi] at hk; omega))
    clear e9 k9
    go_wp2
    exact bodyPost_ret (results_box Try.results54 rfl Try.underlying46 (by kernel_rfl) E9.out) rfl ⟨a, ⟨m.kind, m.frm, x5, m.op, m.commit, m.normal, m.nonce, m.client, m.req, m.answer, m.ck, m.cx, m.cv, m.log⟩, rfl, F9.out.less (by omega), (show -1 ≤ (m.log).base ∧ (m.log).base ≤ 1000000001 by have := HB.out; omega), (show (m.log).cells.length ≤ 41 ∧ (m.log).seats.length ≤ 11 ∧ (m.log).ents.length ≤ 61 by have := HL.out; omega), hc9, G9⟩
   ·have h2' : (x4 == 2) = false := by simpa using h2
    by_cases h3 : x4 = 3
    ·subst h3
     have d4 := bx_cell D4.out
     have f4 := bx_frozen D4.out
     go_wp2_with fail
     refine (c_l1PickInt P A n c w4.heap.size [-1, 0, 7, 1000000000] _ (hc4.ext (ext_alloc _ _)) (by simp) (by simp) (hNew rfl) (by omega)).mono ?_
     rintro e w5 ⟨x5, hx5, rfl, hc5, hg5⟩
     have D5 := box_beside (hOld D4.out) hg5 (by simp only [ne_eq, Option.some.injEq]; omega)
     have E5 := box_beside (hOld E4.out) hg5 (by simp only [ne_eq, Option.some.injEq]; omega)
     have G5 := grown_trans (gr_alloc G4 _) hg5
     have F5 := (F4.out.keep (ext_alloc w4 (.cells #[.int .i64 (-1), .int .i64 0, .int .i64 7, .int .i64 1000000000] 3))).chg (chg_cur hg5) (fun k hk => by rw [Mi] at hk; omega)
     have d5 := bx_cell D5
     have f5 := bx_frozen D5
     have z5 := bx_lt D5
     have hP5 := hc5.lt
     have s5 := G5.size
     have D6 := Hd (box_put D5 4 (.int .i64 x5))
     have E6 := Hd (box_set_other E5 (p := ⟨p, 4, none⟩) (by dsimp only; omega) (.int .i64 x5))
     have hc6 := cur_set hc5 (p := ⟨p, 4, none⟩) (by dsimp only; omega) (.int .i64 x5)
     have G6 := gr_set G5 (p := ⟨p, 4, none⟩) (by dsimp only; omega) (.int .i64 x5)
     have F6 := Hd (F5.put D5 (by decide) (by decide) (by decide) (chg_set (Chg.refl _ [p]) (p := ⟨p, 4, none⟩) (by simp) (.int .i64 x5)))
     clear D4 E4 G4 hc4 d4 f4 D5 E5 G5 hc5 hg5 hx5 F5 F4
     go_wp2_with (with_reducible refine wl_stop 57 ?_)
     refine stop_go (F := fun W => W = w5.setCell ⟨p, 4, none⟩ (.int .i64 x5)) rfl ?_
     rintro W7 rfl
     clear d5 f5 z5
     (refine stop_load (D6.out) rfl Try.underlying46 (by kernel_rfl) ?_; simp only [Act.put, Sa, Sz, Ss])
     (go_wp2_with (with_reducible refine wl_stopS 46 ?_); refine stop_store (w.heap.size) (#[.int .i64 m.kind, .int .i64 m.frm, .int .i64 m.view, .int .i64 m.op, .int .i64 x5, .int .i64 m.normal, .int .i64 m.nonce, .int .i64 m.client, .int .i64 m.req, .int .i64 m.answer, .int .i64 m.ck, .int .i64 m.cx, .int .i64 m.cv, .int .i64 m.log.base, .slice a.cA m.log.cells.length a.cc, .slice a.sA m.log.seats.length a.sc, .slice a.eA m.log.ents.length a.ec]) rfl rfl (E6.out) (by kernel_rfl) rfl (by simp [Value.oneCell']) ?_)
     intro w9 e9 k9
     have E9 := Hd e9
     have G9 := gr_chg G6 k9 (fun k hk => by rw [Mi] at hk; omega)
     have hc9 := cur_chg hc6 k9 (fun k hk => by rw [Mi] at hk; omega)
     have F9 := Hd (F6.out.chg k9 (fun k hk => by rw [Mi] at hk; omega))
     clear e9 k9
     go_wp2
     exact bodyPost_ret (results_box Try.results54 rfl Try.underlying46 (by kernel_rfl) E9.out) rfl ⟨a, ⟨m.kind, m.frm, m.view, m.op, x5, m.normal, m.nonce, m.client, m.req, m.answer, m.ck, m.cx, m.cv, m.log⟩, rfl, F9.out.less (by omega), (show -1 ≤ (m.log).base ∧ (m.log).base ≤ 1000000001 by have := HB.out; omega), (show (m.log).cells.length ≤ 41 ∧ (m.log).seats.length ≤ 11 ∧ (m.log).ents.length ≤ 61 by have := HL.out; omega), hc9, G9⟩
    ·have h3' : (x4 == 3) = false := by simpa using h3
     by_cases h4 : x4 = 4
     ·subst h4
      go_wp2_with fail
      refine (c_l3DrawLog P A n c 5 _ hc4 (by decide) (by decide)).mono ?_
      rintro e w5 ⟨b, l, rfl, fq, hb5, hl1, hl2, hl3, hc5, hg5⟩
      have D5 := box_beside D4.out hg5 (by simp only [ne_eq, Option.some.injEq]; omega)
      have E5 := box_beside E4.out hg5 (by simp only [ne_eq, Option.some.injEq]; omega)
      have G5 := grown_trans G4 hg5
      have F5 := fq.less (B' := w.heap.size + 1) (by omega)
      have HB5 := Hd hb5
      have HL5 := Hd (show l.cells.length ≤ 41 ∧ l.seats.length ≤ 11 ∧ l.ents.length ≤ 61 from ⟨hl1, hl2, hl3⟩)
      clear hb5 hl1 hl2 hl3 fq
      have d5 := bx_cell D5
      have f5 := bx_frozen D5
      have z5 := bx_lt D5
      have hP5 := hc5.lt
      have s5 := G5.size
      have D6 := (box_put D5 13 (.int .i64 l.base))
      have E6 := (box_set_other E5 (p := ⟨p, 13, none⟩) (by dsimp only; omega) (.int .i64 l.base))
      have hc6 := cur_set hc5 (p := ⟨p, 13, none⟩) (by dsimp only; omega) (.int .i64 l.base)
      have G6 := gr_set G5 (p := ⟨p, 13, none⟩) (by dsimp only; omega) (.int .i64 l.base)
      have F6 := (F5.put D5 (by decide) (by decide) (by decide) (chg_set (Chg.refl _ [p]) (p := ⟨p, 13, none⟩) (by simp) (.int .i64 l.base)))
      have D7 := (box_put D6 14 (.slice b.cA l.cells.length b.cc))
      have E7 := (box_set_other E6 (p := ⟨p, 14, none⟩) (by dsimp only; omega) (.slice b.cA l.cells.length b.cc))
      have hc7 := cur_set hc6 (p := ⟨p, 14, none⟩) (by dsimp only; omega) (.slice b.cA l.cells.length b.cc)
      have G7 := gr_set G6 (p := ⟨p, 14, none⟩) (by dsimp only; omega) (.slice b.cA l.cells.length b.cc)
      have F7 := (F6.put D6 (by decide) (by decide) (by decide) (chg_set (Chg.refl _ [p]) (p := ⟨p, 14, none⟩) (by simp) (.slice b.cA l.cells.length b.cc)))
      have D8 := (box_put D7 15 (.slice b.sA l.seats.length b.sc))
      have E8 := (box_set_other E7 (p := ⟨p, 15, none⟩) (by dsimp only; omega) (.slice b.sA l.seats.length b.sc))
      have hc8 := cur_set hc7 (p := ⟨p, 15, none⟩) (by dsimp only; omega) (.slice b.sA l.seats.length b.sc)
      have G8 := gr_set G7 (p := ⟨p, 15, none⟩) (by dsimp only; omega) (.slice b.sA l.seats.length b.sc)
      have F8 := (F7.put D7 (by decide) (by decide) (by decide) (chg_set (Chg.refl _ [p]) (p := ⟨p, 15, none⟩) (by simp) (.slice b.sA l.seats.length b.sc)))
      have D9 := Hd (box_put D8 16 (.slice b.eA l.ents.length b.ec))
      have E9 := Hd (box_set_other E8 (p := ⟨p, 16, none⟩) (by dsimp only; omega) (.slice b.eA l.ents.length b.ec))
      have hc9 := cur_set hc8 (p := ⟨p, 16, none⟩) (by dsimp only; omega) (.slice b.eA l.ents.length b.ec)
      have G9 := gr_set G8 (p := ⟨p, 16, none⟩) (by dsimp only; omega) (.slice b.eA l.ents.length b.ec)
      have F9 := Hd (F8.put D8 (by decide) (by decide) (by decide) (chg_set (Chg.refl _ [p]) (p := ⟨p, 16, none⟩) (by simp) (.slice b.eA l.ents.length b.ec)))
      clear D4 E4 G4 F4 hc4 D5 E5 F5 G5 hc5 hg5 D6 E6 F6 G6 hc6 D7 E7 F7 G7 hc7 D8 E8 F8 G8 hc8
      go_wp2_with (with_reducible refine wl_stop 57 ?_)
      refine stop_go (F := fun W => W = ((((w5).setCell ⟨p, 13, none⟩ (.int .i64 l.base)).setCell ⟨p, 14, none⟩ (.slice b.cA l.cells.length b.cc)).setCell ⟨p, 15, none⟩ (.slice b.sA l.seats.length b.sc)).setCell ⟨p, 16, none⟩ (.slice b.eA l.ents.length b.ec)) rfl ?_
      rintro W7 rfl
      clear d5 f5 z5
      (refine stop_load (D9.out) rfl Try.underlying46 (by kernel_rfl) ?_; simp only [Act.put, Sa, Sz, Ss])
      (go_wp2_with (with_reducible refine wl_stopS 46 ?_); refine stop_store (w.heap.size) (#[.int .i64 m.kind, .int .i64 m.frm, .int .i64 m.view, .int .i64 m.op, .int .i64 m.commit, .int .i64 m.normal, .int .i64 m.nonce, .int .i64 m.client, .int .i64 m.req, .int .i64 m.answer, .int .i64 m.ck, .int .i64 m.cx, .int .i64 m.cv, .int .i64 l.base, .slice b.cA l.cells.length b.cc, .slice b.sA l.seats.length b.sc, .slice b.eA l.ents.length b.ec]) rfl rfl (E9.out) (by kernel_rfl) rfl (by simp [Value.oneCell']) ?_)
      intro w9 e9 k9
      have E9 := Hd e9
      have G9 := gr_chg G9 k9 (fun k hk => by rw [Mi] at hk; omega)
      have hc9 := cur_chg hc9 k9 (fun k hk => by rw [Mi] at hk; omega)
      have F9 := Hd (F9.out.chg k9 (fun k hk => by rw [Mi] at hk; omega))
      clear e9 k9
      go_wp2
      exact bodyPost_ret (results_box Try.results54 rfl Try.underlying46 (by kernel_rfl) E9.out) rfl ⟨b, ⟨m.kind, m.frm, m.view, m.op, m.commit, m.normal, m.nonce, m.client, m.req, m.answer, m.ck, m.cx, m.cv, l⟩, rfl, F9.out.less (by omega), (show -1 ≤ (l).base ∧ (l).base ≤ 1000000001 by have := HB5.out; omega), (show (l).cells.length ≤ 41 ∧ (l).seats.length ≤ 11 ∧ (l).ents.length ≤ 61 by have := HL5.out; omega), hc9, G9⟩
     ·have h4' : (x4 == 4) = false := by simpa using h4
      by_cases h5 : x4 = 5
      ·subst h5
       have d4 := bx_cell D4.out
       have f4 := bx_frozen D4.out
       go_wp2_with fail
       refine (c_l1PickInt P A n c w4.heap.size [0, 1000000000, 1000000001] _ (hc4.ext (ext_alloc _ _)) (by simp) (by simp) (hNew rfl) (by omega)).mono ?_
       rintro e w5 ⟨x5, hx5, rfl, hc5, hg5⟩
       have D5 := box_beside (hOld D4.out) hg5 (by simp only [ne_eq, Option.some.injEq]; omega)
       have E5 := box_beside (hOld E4.out) hg5 (by simp only [ne_eq, Option.some.injEq]; omega)
       have G5 := grown_trans (gr_alloc G4 _) hg5
       have F5 := (F4.out.keep (ext_alloc w4 (.cells #[.int .i64 0, .int .i64 1000000000, .int .i64 1000000001] 3))).chg (chg_cur hg5) (fun k hk => by rw [Mi] at hk; omega)
       have d5 := bx_cell D5
       have f5 := bx_frozen D5
       have z5 := bx_lt D5
       have hP5 := hc5.lt
       have s5 := G5.size
       have D6 := Hd (box_put D5 8 (.int .i64 x5))
       have E6 := Hd (box_set_other E5 (p := ⟨p, 8, none⟩) (by dsimp only; omega) (.int .i64 x5))
       have hc6 := cur_set hc5 (p := ⟨p, 8, none⟩) (by dsimp only; omega) (.int .i64 x5)
       have G6 := gr_set G5 (p := ⟨p, 8, none⟩) (by dsimp only; omega) (.int .i64 x5)
       have F6 := Hd (F5.put D5 (by decide) (by decide) (by decide) (chg_set (Chg.refl _ [p]) (p := ⟨p, 8, none⟩) (by simp) (.int .i64 x5)))
       clear D4 E4 G4 hc4 d4 f4 D5 E5 G5 hc5 hg5 hx5 F5 F4
       go_wp2_with (with_reducible refine wl_stop 57 ?_)
       refine stop_go (F := fun W => W = w5.setCell ⟨p, 8, none⟩ (.int .i64 x5)) rfl ?_
       rintro W7 rfl
       clear d5 f5 z5
       (refine stop_load (D6.out) rfl Try.underlying46 (by kernel_rfl) ?_; simp only [Act.put, Sa, Sz, Ss])
       (go_wp2_with (with_reducible refine wl_stopS 46 ?_); refine stop_store (w.heap.size) (#[.int .i64 m.kind, .int .i64 m.frm, .int .i64 m.view, .int .i64 m.op, .int .i64 m.commit, .int .i64 m.normal, .int .i64 m.nonce, .int .i64 m.client, .int .i64 x5, .int .i64 m.answer, .int .i64 m.ck, .int .i64 m.cx, .int .i64 m.cv, .int .i64 m.log.base, .slice a.cA m.log.cells.length a.cc, .slice a.sA m.log.seats.length a.sc, .slice a.eA m.log.ents.length a.ec]) rfl rfl (E6.out) (by kernel_rfl) rfl (by simp [Value.oneCell']) ?_)
       intro w9 e9 k9
       have E9 := Hd e9
       have G9 := gr_chg G6 k9 (fun k hk => by rw [Mi] at hk; omega)
       have hc9 := cur_chg hc6 k9 (fun k hk => by rw [Mi] at hk; omega)
       have F9 := Hd (F6.out.chg k9 (fun k hk => by rw [Mi] at hk; omega))
       clear e9 k9
       go_wp2
       exact bodyPost_ret (results_box Try.results54 rfl Try.underlying46 (by kernel_rfl) E9.out) rfl ⟨a, ⟨m.kind, m.frm, m.view, m.op, m.commit, m.normal, m.nonce, m.client, x5, m.answer, m.ck, m.cx, m.cv, m.log⟩, rfl, F9.out.less (by omega), (show -1 ≤ (m.log).base ∧ (m.log).base ≤ 1000000001 by have := HB.out; omega), (show (m.log).cells.length ≤ 41 ∧ (m.log).seats.length ≤ 11 ∧ (m.log).ents.length ≤ 61 by have := HL.out; omega), hc9, G9⟩
      ·have h5' : (x4 == 5) = false := by simpa using h5
       by_cases h6 : x4 = 6
       ·subst h6
        go_wp2_with fail
        refine (c_l2DrawAny P A n c _ hc4).mono ?_
        rintro e w5 ⟨y1, y2, y3, rfl, hc5, hg5⟩
        have D5 := box_beside D4.out hg5 (by simp only [ne_eq, Option.some.injEq]; omega)
        have E5 := box_beside E4.out hg5 (by simp only [ne_eq, Option.some.injEq]; omega)
        have G5 := grown_trans G4 hg5
        have F5 := F4.out.chg (chg_cur hg5) (fun k hk => by rw [Mi] at hk; omega)
        have d5 := bx_cell D5
        have f5 := bx_frozen D5
        have z5 := bx_lt D5
        have hP5 := hc5.lt
        have s5 := G5.size
        have D6 := (box_put D5 10 (.int .i64 y1))
        have E6 := (box_set_other E5 (p := ⟨p, 10, none⟩) (by dsimp only; omega) (.int .i64 y1))
        have hc6 := cur_set hc5 (p := ⟨p, 10, none⟩) (by dsimp only; omega) (.int .i64 y1)
        have G6 := gr_set G5 (p := ⟨p, 10, none⟩) (by dsimp only; omega) (.int .i64 y1)
        have F6 := (F5.put D5 (by decide) (by decide) (by decide) (chg_set (Chg.refl _ [p]) (p := ⟨p, 10, none⟩) (by simp) (.int .i64 y1)))
        have D7 := (box_put D6 11 (.int .i64 y2))
        have E7 := (box_set_other E6 (p := ⟨p, 11, none⟩) (by dsimp only; omega) (.int .i64 y2))
        have hc7 := cur_set hc6 (p := ⟨p, 11, none⟩) (by dsimp only; omega) (.int .i64 y2)
        have G7 := gr_set G6 (p := ⟨p, 11, none⟩) (by dsimp only; omega) (.int .i64 y2)
        have F7 := (F6.put D6 (by decide) (by decide) (by decide) (chg_set (Chg.refl _ [p]) (p := ⟨p, 11, none⟩) (by simp) (.int .i64 y2)))
        have D8 := Hd (box_put D7 12 (.int .i64 y3))
        have E8 := Hd (box_set_other E7 (p := ⟨p, 12, none⟩) (by dsimp only; omega) (.int .i64 y3))
        have hc8 := cur_set hc7 (p := ⟨p, 12, none⟩) (by dsimp only; omega) (.int .i64 y3)
        have G8 := gr_set G7 (p := ⟨p, 12, none⟩) (by dsimp only; omega) (.int .i64 y3)
        have F8 := Hd (F7.put D7 (by decide) (by decide) (by decide) (chg_set (Chg.refl _ [p]) (p := ⟨p, 12, none⟩) (by simp) (.int .i64 y3)))
        clear D4 E4 G4 F4 hc4 D5 E5 F5 G5 hc5 hg5 D6 E6 F6 G6 hc6 D7 E7 F7 G7 hc7
        go_wp2_with (with_reducible refine wl_stop 57 ?_)
        refine stop_go (F := fun W => W = ((w5.setCell ⟨p, 10, none⟩ (.int .i64 y1)).setCell ⟨p, 11, none⟩ (.int .i64 y2)).setCell ⟨p, 12, none⟩ (.int .i64 y3)) rfl ?_
        rintro W7 rfl
        clear d5 f5 z5
        (refine stop_load (D8.out) rfl Try.underlying46 (by kernel_rfl) ?_; simp only [Act.put, Sa, Sz, Ss])
        (go_wp2_with (with_reducible refine wl_stopS 46 ?_); refine stop_store (w.heap.size) (#[.int .i64 m.kind, .int .i64 m.frm, .int .i64 m.view, .int .i64 m.op, .int .i64 m.commit, .int .i64 m.normal, .int .i64 m.nonce, .int .i64 m.client, .int .i64 m.req, .int .i64 m.answer, .int .i64 y1, .int .i64 y2, .int .i64 y3, .int .i64 m.log.base, .slice a.cA m.log.cells.length a.cc, .slice a.sA m.log.seats.length a.sc, .slice a.eA m.log.ents.length a.ec]) rfl rfl (E8.out) (by kernel_rfl) rfl (by simp [Value.oneCell']) ?_)
        intro w9 e9 k9
        have E9 := Hd e9
        have G9 := gr_chg G8 k9 (fun k hk => by rw [Mi] at hk; omega)
        have hc9 := cur_chg hc8 k9 (fun k hk => by rw [Mi] at hk; omega)
        have F9 := Hd (F8.out.chg k9 (fun k hk => by rw [Mi] at hk; omega))
        clear e9 k9
        go_wp2
        exact bodyPost_ret (results_box Try.results54 rfl Try.underlying46 (by kernel_rfl) E9.out) rfl ⟨a, ⟨m.kind, m.frm, m.view, m.op, m.commit, m.normal, m.nonce, m.client, m.req, m.answer, y1, y2, y3, m.log⟩, rfl, F9.out.less (by omega), (show -1 ≤ (m.log).base ∧ (m.log).base ≤ 1000000001 by have := HB.out; omega), (show (m.log).cells.length ≤ 41 ∧ (m.log).seats.length ≤ 11 ∧ (m.log).ents.length ≤ 61 by have := HL.out; omega), hc9, G9⟩
       ·have h6' : (x4 == 6) = false := by simpa using h6
        by_cases h7 : x4 = 7
        ·subst h7
         have d4 := bx_cell D4.out
         have f4 := bx_frozen D4.out
         go_wp2_with fail
         refine (c_l1PickInt P A n c w4.heap.size [-2, -1, 1000000000] _ (hc4.ext (ext_alloc _ _)) (by simp) (by simp) (hNew rfl) (by omega)).mono ?_
         rintro e w5 ⟨x5, hx5, rfl, hc5, hg5⟩
         have D5 := box_beside (hOld D4.out) hg5 (by simp only [ne_eq, Option.some.injEq]; omega)
         have E5 := box_beside (hOld E4.out) hg5 (by simp only [ne_eq, Option.some.injEq]; omega)
         have G5 := grown_trans (gr_alloc G4 _) hg5
         have F5 := (F4.out.keep (ext_alloc w4 (.cells #[.int .i64 (-2), .int .i64 (-1), .int .i64 1000000000] 3))).chg (chg_cur hg5) (fun k hk => by rw [Mi] at hk; omega)
         have d5 := bx_cell D5
         have f5 := bx_frozen D5
         have z5 := bx_lt D5
         have hP5 := hc5.lt
         have s5 := G5.size
         have D6 := Hd (box_put D5 9 (.int .i64 x5))
         have E6 := Hd (box_set_other E5 (p := ⟨p, 9, none⟩) (by dsimp only; omega) (.int .i64 x5))
         have hc6 := cur_set hc5 (p := ⟨p, 9, none⟩) (by dsimp only; omega) (.int .i64 x5)
         have G6 := gr_set G5 (p := ⟨p, 9, none⟩) (by dsimp only; omega) (.int .i64 x5)
         have F6 := Hd (F5.put D5 (by decide) (by decide) (by decide) (chg_set (Chg.refl _ [p]) (p := ⟨p, 9, none⟩) (by simp) (.int .i64 x5)))
         clear D4 E4 G4 hc4 d4 f4 D5 E5 G5 hc5 hg5 hx5 F5 F4
         go_wp2_with (with_reducible refine wl_stop 57 ?_)
         refine stop_go (F := fun W => W = w5.setCell ⟨p, 9, none⟩ (.int .i64 x5)) rfl ?_
         rintro W7 rfl
         clear d5 f5 z5
         (refine stop_load (D6.out) rfl Try.underlying46 (by kernel_rfl) ?_; simp only [Act.put, Sa, Sz, Ss])
         (go_wp2_with (with_reducible refine wl_stopS 46 ?_); refine stop_store (w.heap.size) (#[.int .i64 m.kind, .int .i64 m.frm, .int .i64 m.view, .int .i64 m.op, .int .i64 m.commit, .int .i64 m.normal, .int .i64 m.nonce, .int .i64 m.client, .int .i64 m.req, .int .i64 x5, .int .i64 m.ck, .int .i64 m.cx, .int .i64 m.cv, .int .i64 m.log.base, .slice a.cA m.log.cells.length a.cc, .slice a.sA m.log.seats.length a.sc, .slice a.eA m.log.ents.length a.ec]) rfl rfl (E6.out) (by kernel_rfl) rfl (by simp [Value.oneCell']) ?_)
         intro w9 e9 k9
         have E9 := Hd e9
         have G9 := gr_chg G6 k9 (fun k hk => by rw [Mi] at hk; omega)
         have hc9 := cur_chg hc6 k9 (fun k hk => by rw [Mi] at hk; omega)
         have F9 := Hd (F6.out.chg k9 (fun k hk => by rw [Mi] at hk; omega))
         clear e9 k9
         go_wp2
         exact bodyPost_ret (results_box Try.results54 rfl Try.underlying46 (by kernel_rfl) E9.out) rfl ⟨a, ⟨m.kind, m.frm, m.view, m.op, m.commit, m.normal, m.nonce, m.client, m.req, x5, m.ck, m.cx, m.cv, m.log⟩, rfl, F9.out.less (by omega), (show -1 ≤ (m.log).base ∧ (m.log).base ≤ 1000000001 by have := HB.out; omega), (show (m.log).cells.length ≤ 41 ∧ (m.log).seats.length ≤ 11 ∧ (m.log).ents.length ≤ 61 by have := HL.out; omega), hc9, G9⟩
        ·have h7' : (x4 == 7) = false := by simpa using h7
         (go_wp2_with (with_reducible refine wl_stop 57 ?_); refine stop_load (D4.out) rfl Try.underlying46 (by kernel_rfl) ?_; simp only [Act.put, Sa, Sz, Ss])
         (go_wp2_with (with_reducible refine wl_stopS 46 ?_); refine stop_store (w.heap.size) (#[.int .i64 m.kind, .int .i64 m.frm, .int .i64 m.view, .int .i64 m.op, .int .i64 m.commit, .int .i64 m.normal, .int .i64 m.nonce, .int .i64 m.client, .int .i64 m.req, .int .i64 m.answer, .int .i64 m.ck, .int .i64 m.cx, .int .i64 m.cv, .int .i64 m.log.base, .slice a.cA m.log.cells.length a.cc, .slice a.sA m.log.seats.length a.sc, .slice a.eA m.log.ents.length a.ec]) rfl rfl (E4.out) (by kernel_rfl) rfl (by simp [Value.oneCell']) ?_)
         intro w9 e9 k9
         have E9 := Hd e9
         have G9 := gr_chg G4 k9 (fun k hk => by rw [Mi] at hk; omega)
         have hc9 := cur_chg hc4 k9 (fun k hk => by rw [Mi] at hk; omega)
         have F9 := Hd (F4.out.chg k9 (fun k hk => by rw [Mi] at hk; omega))
         clear e9 k9
         go_wp2
         exact bodyPost_ret (results_box Try.results54 rfl Try.underlying46 (by kernel_rfl) E9.out) rfl ⟨a, m, rfl, F9.out.less (by omega), (show -1 ≤ (m.log).base ∧ (m.log).base ≤ 1000000001 by have := HB.out; omega), (show (m.log).cells.length ≤ 41 ∧ (m.log).seats.length ≤ 11 ∧ (m.log).ents.length ≤ 61 by have := HL.out; omega), hc9, G9⟩
set_option maxHeartbeats 4000000 in
set_option maxRecDepth 100000 in
theorem c_DrawPackMsg (A : Option Addr) (n c : Nat) (w : World) (hc : CodeOk w A n w.heap.size) (hnc : n ≤ c) (hcm : c ≤ 9223372036854775807) : Calls Try.prog 21 #[.slice A n c] w fun e w' => (∃ (a : LAd) (m : Mg), e = .returned (Mg.val a m) ∧ LgR w' a m.log ∧ m.log.cells.length ≤ 41 ∧ m.log.seats.length ≤ 11 ∧ m.log.ents.length ≤ 61) ∧ Ext w w' := by
 have hn := hc.1
 have x0 := ext_alloc w mz9
 have E0 := hNew (w := w) (o := mz9) rfl
 have hcc : CodeOk (w.alloc mz9) A n (w.alloc mz9).heap.size := (hc.grown (Nat.le_refl _) (grown_of_ext (row := none) x0) (fun g he => by cases he)).up (by simp)
 have HC := Hd (c_l1New A n c _ hcc hnc hcm)
 clear hcc hc
 go_enter Try.func21, Try.ntmps21
 go_wp2_with fail
 refine HC.out.mono ?_
 rintro e w1 ⟨⟨P, rfl, hPw, hc1⟩, X1⟩
 have hP0 : w.heap.size < P := by have : (w.alloc mz9).heap.size = w.heap.size + 1 := by simp
                                  omega
 have E1 := Hd (X1.box E0)
 have X2 := Hd (Ext.trans x0 X1)
 clear x0 X1 E0 HC
 go_wp2_with fail
 refine (c_l1Size A n c 12 w1 hn (by omega) (by omega)).mono ?_
 rintro e w2 ⟨⟨q, ⟨hq0, hq1⟩, rfl⟩, rfl⟩
 go_wp2_with fail
 refine (c_l4DrawMsg P A n c q _ hc1 hq0 (by omega)).mono ?_
 rintro e w3 ⟨a, m, rfl, f3, _, ⟨hl1, hl2, hl3⟩, hc3, hg3⟩
 have hP1 := hc1.lt
 have E3 := Hd (box_beside E1.out hg3 (by simp only [ne_eq, Option.some.injEq]; omega))
 have X3 := Hd (ext_cur9 X2.out hg3 (by omega))
 have F3 := Hd f3
 have s2 := X2.out.size
 clear hc1 hc3 hg3 f3 X2 E1
 (go_wp2_with (with_reducible refine wl_stopS 46 ?_); refine stop_store (w.heap.size) (#[.int .i64 m.kind, .int .i64 m.frm, .int .i64 m.view, .int .i64 m.op, .int .i64 m.commit, .int .i64 m.normal, .int .i64 m.nonce, .int .i64 m.client, .int .i64 m.req, .int .i64 m.answer, .int .i64 m.ck, .int .i64 m.cx, .int .i64 m.cv, .int .i64 m.log.base, .slice a.cA m.log.cells.length a.cc, .slice a.sA m.log.seats.length a.sc, .slice a.eA m.log.ents.length a.ec]) rfl rfl (E3.out) (by kernel_rfl) rfl (by simp [Value.oneCell']) ?_)
 intro w9 e9 k9
 have E9 := Hd e9
 have X9 := Hd (chg_new X3.out k9 (Nat.le_refl _))
 have F9 := Hd (F3.out.chg k9 (fun k hk => by rw [Mi] at hk; omega))
 clear e9 k9
 go_wp2
 exact bodyPost_ret (results_box Try.results21 rfl Try.underlying46 (by kernel_rfl) E9.out) rfl ⟨⟨a, m, rfl, F9.out.rd, hl1, hl2, hl3⟩, X9.out⟩
end Go.Proofs.Ytpghedeghoegmaa
