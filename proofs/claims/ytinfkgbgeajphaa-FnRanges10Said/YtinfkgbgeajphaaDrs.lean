/- Drawn rows of ranges, and what the draws hand over. -/
import Derived.Test.YtinfkgbgeajphaaDr
namespace Go.Proofs.Ytinfkgbgeajphaa
open Go.ChangeShapes Go.WideShapes Go.ChangeAt Go.RowKit Go.Sort
set_option linter.unusedVariables false
set_option linter.unusedSimpArgs false

def DrawnRs (w : World) (P : Nat) (A : Option Addr) (n c : Nat) (e : Ending) (w' : World) : Prop := ∃ (v : Value) (l : List Rng), e = .returned v ∧ l.length ≤ 2000 ∧ Ow Rng.enc 25 2 w' w.heap.size v l ∧ Cur w' P A n c ∧ w.grownBy w' (some P)
theorem grown_own {w w' w'' : World} {row : Option Nat} {v : Value} {B : Nat} {e : TypeId} {sz n : Nat} {xs : List Value} (h : w.grownBy w' row) (k : w'.grownBy w'' v.ownBlock) (ho : w'.ownsRow B e sz v n xs) (hB : w.heap.size ≤ B) : w.grownBy w'' row :=
  ⟨k.os.trans h.os, k.tape.trans h.tape, k.output.trans h.output, Nat.le_trans h.size k.size, fun i hi hne => (k.block i (Nat.lt_of_lt_of_le hi h.size) (fun he => by have := World.ownsRow.lt ho i he.symm; omega)).trans (h.block i hi hne)⟩

set_option maxHeartbeats 2000000 in
set_option maxRecDepth 100000 in
theorem c_l10DrawRanges (P : Nat) (A : Option Addr) (n c : Nat) (most : Int) (w : World) (hc : Cur w P A n c) (m0 : 0 ≤ most) (m1 : most ≤ 1000) : Calls Try.prog 104 #[.pointer (some ⟨P, 0, none⟩), .int .i64 most] w (DrawnRs w P A n c) := by
  obtain ⟨i0, hi, hz0, hz1, hz2⟩ := info_parts Try.infoRng
  have hPl := hc.lt
  go_enter Try.func104, Try.ntmps104
  go_wp2_with fail
  refine (c_l1Below P A n c (most + 1) _ hc (by omega)).mono ?_
  rintro e w1 ⟨x1, ⟨p1, q1⟩, rfl, hc1, hg1⟩
  go_wp2_with fail
  refine (c_l1Once P A n c 20 _ hc1 (by omega)).mono ?_
  rintro e w2 ⟨b2, rfl, hc2, hg2⟩
  have G2 := grown_trans hg1 hg2
  clear hc1 hg1 hg2
  cases b2
  ·
    have s2 := G2.size
    go_wp2_with fail
    refine (c_l1Below P A n c 5 _ (hc2.ext (ext_alloc _ _)) (by omega)).mono ?_
    rintro e w3 ⟨x3, ⟨p3, q3⟩, rfl, hc3, hg3⟩
    have o3 := (show Ow Rng.enc 25 2 (w2.alloc (.cells #[] 25)) w.heap.size (.slice (some ⟨w2.heap.size, 0, none⟩) 0 0) [] from World.ownsRow_made _ #[] 0 s2 (Nat.zero_le _) (by simp)).beside hg3 (fun k hk => by (have h : w2.heap.size = k := (by simpa [Value.ownBlock] using hk)); simp only [ne_eq, Option.some.injEq]; omega)
    have G3 := grown_trans (grown_alloc G2 _) hg3
    clear hc2 hg3
    go_wp2
    go_loopw [6, 7, 8] (fun o t i wr => ∃ (k : Nat) (l : List Rng) (a : Int), (k : Int) ≤ x1 ∧ i = .int .i64 k ∧ t = .int .i64 a ∧ (0 ≤ a ∧ a ≤ 5 + 10 * k) ∧ l.length = k ∧ Ow Rng.enc 25 2 wr w.heap.size o l ∧ Cur wr P A n c ∧ w.grownBy wr (some P)) (fun _ _ i _ => (x1 - intOf i).toNat)
    case atStart => exact ⟨0, [], x3, by omega, rfl, rfl, ⟨by omega, by omega⟩, rfl, o3, hc3, G3⟩
    case round =>
      clear o3 hc3 G3
      obtain ⟨k, l, a, hk, rfl, rfl, ⟨a0, a1⟩, hlk, ho, hcr, hgr⟩ := hrel
      obtain ⟨Ao, co, rfl⟩ := ho.form
      have HLK := Lib.hid hlk
      have hll : l.length ≤ 1001 := by omega
      clear hlk
      by_cases hlt : (k : Int) < x1
      · go_wp2_with fail
        refine (c_l1Below P A n c 5 _ hcr (by omega)).mono ?_
        rintro e w4 ⟨x4, ⟨p4, q4⟩, rfl, hc4, hg4⟩
        have o4 := ho.beside hg4 (fun k hk => by have := ho.lt k hk; simp only [ne_eq, Option.some.injEq]; omega)
        have G4 := grown_trans hgr hg4
        have s4 := G4.size
        clear ho hcr hgr hg4
        go_wp2_with (at_builtin; refine wpList_append_own _ rfl _ _ 35 rfl (w.heap.size) 25 i0 (.agg #[.int .i64 0, .int .i64 0]) 2 16 Try.underlying35 hi hz0 hz1 hz2 rfl (by decide) _ _ _ rfl (ownsRow_ext o4 (ext_alloc _ _)) _ 1 1 [.int .i64 a, .int .i64 (a + 1 + x4)] rfl rfl (alloc_cellB _ _ _ _ (by first | rfl | (simp; done) | (simp; omega))) (by intro u hu; simp at hu; rcases hu with rfl | rfl <;> rfl) (by unfold maxLen; (try simp) <;> omega) (by (try simp) <;> omega) (by (try simp) <;> omega) ?_)
        intro v w5 h5 g5 _
        have G5 := grown_own (grown_alloc G4 _) g5 (ownsRow_ext o4 (ext_alloc _ _)) (Nat.le_refl _)
        have hc5 := (hc4.ext (ext_alloc _ _)).grown g5 (fun g hg => by have := o4.lt g hg; omega)
        have o5 := own_snoc (enc := Rng.enc) (x := ⟨a, a + 1 + x4⟩) h5 rfl rfl
        clear h5 g5 o4
        go_wp2_with fail
        refine (c_l1Below P A n c 4 _ hc5 (by omega)).mono ?_
        rintro e w6 ⟨x6, ⟨p6, q6⟩, rfl, hc6, hg6⟩
        have o6 := o5.beside hg6 (fun k hk => by have := o5.lt k hk; simp only [ne_eq, Option.some.injEq]; omega)
        have G6 := grown_trans G5 hg6
        clear o5 hg6
        go_wp2
        go_roundw
        case rel => exact ⟨k + 1, l ++ [⟨a, a + 1 + x4⟩], a + 1 + x4 + x6, by omega, by go_num, by go_num, ⟨by omega, by omega⟩, by rw [List.length_append, HLK.out]; rfl, o6, hc6, G6⟩
        case measure => simp [intOf] <;> omega
      · go_wp2_with fail
        refine (c_l1Once P A n c 20 _ hcr (by omega)).mono ?_
        rintro e w4 ⟨b4, rfl, hc4, hg4⟩
        have o4 := ho.beside hg4 (fun k hk => by have := ho.lt k hk; simp only [ne_eq, Option.some.injEq]; omega)
        have G4 := grown_trans hgr hg4
        have s4 := G4.size
        clear ho hcr hgr hg4
        cases b4
        · go_wp2
          go_ret
          exact ⟨_, l, rfl, by omega, o4, hc4, G4⟩
        · go_wp2_with fail
          refine (c_l10DrawRange P A n c _ hc4).mono ?_
          rintro e w5 ⟨lo, hiv, hsm, rfl, hc5, hg5⟩
          have o5 := o4.beside hg5 (fun k hk => by have := o4.lt k hk; simp only [ne_eq, Option.some.injEq]; omega)
          have G5 := grown_trans G4 hg5
          have s5 := G5.size
          clear o4 hg5
          go_wp2_with (at_builtin; refine wpList_append_own _ rfl _ _ 35 rfl (w.heap.size) 25 i0 (.agg #[.int .i64 0, .int .i64 0]) 2 16 Try.underlying35 hi hz0 hz1 hz2 rfl (by decide) _ _ _ rfl (ownsRow_ext o5 (ext_alloc _ _)) _ 1 1 [.int .i64 lo, .int .i64 hiv] rfl rfl (alloc_cellB _ _ _ _ (by first | rfl | (simp; done) | (simp; omega))) (by intro u hu; simp at hu; rcases hu with rfl | rfl <;> rfl) (by unfold maxLen; (try simp) <;> omega) (by (try simp) <;> omega) (by (try simp) <;> omega) ?_)
          intro v w6 h6 g6 _
          have G6 := grown_own (grown_alloc G5 _) g6 (ownsRow_ext o5 (ext_alloc _ _)) (Nat.le_refl _)
          have hc6 := (hc5.ext (ext_alloc _ _)).grown g6 (fun g hg => by have := o5.lt g hg; omega)
          have o6 := own_snoc (enc := Rng.enc) (x := ⟨lo, hiv⟩) h6 rfl rfl
          clear h6 g6 o5
          go_wp2
          go_ret
          exact ⟨v, l ++ [⟨lo, hiv⟩], rfl, by simp; omega, o6, hc6, G6⟩
  ·
    have s2 := G2.size
    go_wp2_with fail
    refine (c_l1Below P A n c 5 _ (hc2.ext (ext_alloc _ _)) (by omega)).mono ?_
    rintro e w3 ⟨x3, ⟨p3, q3⟩, rfl, hc3, hg3⟩
    have o3 := (show Ow Rng.enc 25 2 (w2.alloc (.cells #[] 25)) w.heap.size (.slice (some ⟨w2.heap.size, 0, none⟩) 0 0) [] from World.ownsRow_made _ #[] 0 s2 (Nat.zero_le _) (by simp)).beside hg3 (fun k hk => by (have h : w2.heap.size = k := (by simpa [Value.ownBlock] using hk)); simp only [ne_eq, Option.some.injEq]; omega)
    have G3 := grown_trans (grown_alloc G2 _) hg3
    clear hc2 hg3
    go_wp2
    go_loopw [6, 7, 8] (fun o t i wr => ∃ (k : Nat) (l : List Rng) (a : Int), (k : Int) ≤ 16 ∧ i = .int .i64 k ∧ t = .int .i64 a ∧ (0 ≤ a ∧ a ≤ 5 + 10 * k) ∧ l.length = k ∧ Ow Rng.enc 25 2 wr w.heap.size o l ∧ Cur wr P A n c ∧ w.grownBy wr (some P)) (fun _ _ i _ => (16 - intOf i).toNat)
    case atStart => exact ⟨0, [], x3, by omega, rfl, rfl, ⟨by omega, by omega⟩, rfl, o3, hc3, G3⟩
    case round =>
      clear o3 hc3 G3
      obtain ⟨k, l, a, hk, rfl, rfl, ⟨a0, a1⟩, hlk, ho, hcr, hgr⟩ := hrel
      obtain ⟨Ao, co, rfl⟩ := ho.form
      have HLK := Lib.hid hlk
      have hll : l.length ≤ 1001 := by omega
      clear hlk
      by_cases hlt : (k : Int) < 16
      · go_wp2_with fail
        refine (c_l1Below P A n c 5 _ hcr (by omega)).mono ?_
        rintro e w4 ⟨x4, ⟨p4, q4⟩, rfl, hc4, hg4⟩
        have o4 := ho.beside hg4 (fun k hk => by have := ho.lt k hk; simp only [ne_eq, Option.some.injEq]; omega)
        have G4 := grown_trans hgr hg4
        have s4 := G4.size
        clear ho hcr hgr hg4
        go_wp2_with (at_builtin; refine wpList_append_own _ rfl _ _ 35 rfl (w.heap.size) 25 i0 (.agg #[.int .i64 0, .int .i64 0]) 2 16 Try.underlying35 hi hz0 hz1 hz2 rfl (by decide) _ _ _ rfl (ownsRow_ext o4 (ext_alloc _ _)) _ 1 1 [.int .i64 a, .int .i64 (a + 1 + x4)] rfl rfl (alloc_cellB _ _ _ _ (by first | rfl | (simp; done) | (simp; omega))) (by intro u hu; simp at hu; rcases hu with rfl | rfl <;> rfl) (by unfold maxLen; (try simp) <;> omega) (by (try simp) <;> omega) (by (try simp) <;> omega) ?_)
        intro v w5 h5 g5 _
        have G5 := grown_own (grown_alloc G4 _) g5 (ownsRow_ext o4 (ext_alloc _ _)) (Nat.le_refl _)
        have hc5 := (hc4.ext (ext_alloc _ _)).grown g5 (fun g hg => by have := o4.lt g hg; omega)
        have o5 := own_snoc (enc := Rng.enc) (x := ⟨a, a + 1 + x4⟩) h5 rfl rfl
        clear h5 g5 o4
        go_wp2_with fail
        refine (c_l1Below P A n c 4 _ hc5 (by omega)).mono ?_
        rintro e w6 ⟨x6, ⟨p6, q6⟩, rfl, hc6, hg6⟩
        have o6 := o5.beside hg6 (fun k hk => by have := o5.lt k hk; simp only [ne_eq, Option.some.injEq]; omega)
        have G6 := grown_trans G5 hg6
        clear o5 hg6
        go_wp2
        go_roundw
        case rel => exact ⟨k + 1, l ++ [⟨a, a + 1 + x4⟩], a + 1 + x4 + x6, by omega, by go_num, by go_num, ⟨by omega, by omega⟩, by rw [List.length_append, HLK.out]; rfl, o6, hc6, G6⟩
        case measure => simp [intOf] <;> omega
      · go_wp2_with fail
        refine (c_l1Once P A n c 20 _ hcr (by omega)).mono ?_
        rintro e w4 ⟨b4, rfl, hc4, hg4⟩
        have o4 := ho.beside hg4 (fun k hk => by have := ho.lt k hk; simp only [ne_eq, Option.some.injEq]; omega)
        have G4 := grown_trans hgr hg4
        have s4 := G4.size
        clear ho hcr hgr hg4
        cases b4
        · go_wp2
          go_ret
          exact ⟨_, l, rfl, by omega, o4, hc4, G4⟩
        · go_wp2_with fail
          refine (c_l10DrawRange P A n c _ hc4).mono ?_
          rintro e w5 ⟨lo, hiv, hsm, rfl, hc5, hg5⟩
          have o5 := o4.beside hg5 (fun k hk => by have := o4.lt k hk; simp only [ne_eq, Option.some.injEq]; omega)
          have G5 := grown_trans G4 hg5
          have s5 := G5.size
          clear o4 hg5
          go_wp2_with (at_builtin; refine wpList_append_own _ rfl _ _ 35 rfl (w.heap.size) 25 i0 (.agg #[.int .i64 0, .int .i64 0]) 2 16 Try.underlying35 hi hz0 hz1 hz2 rfl (by decide) _ _ _ rfl (ownsRow_ext o5 (ext_alloc _ _)) _ 1 1 [.int .i64 lo, .int .i64 hiv] rfl rfl (alloc_cellB _ _ _ _ (by first | rfl | (simp; done) | (simp; omega))) (by intro u hu; simp at hu; rcases hu with rfl | rfl <;> rfl) (by unfold maxLen; (try simp) <;> omega) (by (try simp) <;> omega) (by (try simp) <;> omega) ?_)
          intro v w6 h6 g6 _
          have G6 := grown_own (grown_alloc G5 _) g6 (ownsRow_ext o5 (ext_alloc _ _)) (Nat.le_refl _)
          have hc6 := (hc5.ext (ext_alloc _ _)).grown g6 (fun g hg => by have := o5.lt g hg; omega)
          have o6 := own_snoc (enc := Rng.enc) (x := ⟨lo, hiv⟩) h6 rfl rfl
          clear h6 g6 o5
          go_wp2
          go_ret
          exact ⟨v, l ++ [⟨lo, hiv⟩], rfl, by simp; omega, o6, hc6, G6⟩

/-- what the draws of a row and a range hand over -/
def DrawnPair (w : World) (e : Ending) (w' : World) : Prop := ∃ (v : Value) (l : List Rng) (lo hi : Int), e = .returned (.tuple #[v, .agg #[.int .i64 lo, .int .i64 hi]]) ∧ l.length ≤ 2000 ∧ Ow Rng.enc 25 2 w' w.heap.size v l ∧ Ext w w'

set_option maxHeartbeats 2000000 in
set_option maxRecDepth 100000 in
theorem c_l10DrawPair (A : Option Addr) (n c : Nat) (w : World) (hc : CodeOk w A n w.heap.size) (hnc : n ≤ c) (hcm : c ≤ 9223372036854775807) : Calls Try.prog 92 #[.slice A n c] w (DrawnPair w) := by
  have hn20 := hc.1
  go_enter Try.func92, Try.ntmps92
  go_wp2_with fail
  refine (c_l1New A n c _ ((hc.grown (Nat.le_refl _) (grown_of_ext (row := none) (ext_alloc _ _)) (fun g he => by cases he)).up (by simp)) hnc hcm).mono ?_
  rintro e w1 ⟨⟨P, rfl, hP, hc1⟩, x1⟩
  have B1 := x1.box (hNew (w := w) (o := .cells #[.int .i64 0, .int .i64 0] 25) rfl)
  rw [sz_alloc] at hP
  have X1 := Ext.trans (ext_alloc _ _) x1
  go_wp2_with fail
  refine (c_l1Size A n c 9 _ hn20 (by omega) (by omega)).mono ?_
  rintro e w1' ⟨⟨y, ⟨y0, y1⟩, rfl⟩, rfl⟩
  go_wp2_with fail
  refine (c_l10DrawRanges P A n c y _ hc1 y0 (by omega)).mono ?_
  rintro e w2 ⟨v, l, rfl, hl, o2, hc2, g2⟩
  obtain ⟨Al, cl, rfl⟩ := o2.form
  have B2 := box_beside B1 g2 (by simp only [ne_eq, Option.some.injEq]; omega)
  have X2 : Ext w w2 := ext_grown X1 g2 (fun q hq => by simp only [Option.some.injEq] at hq; omega)
  have s1 := X1.size
  have s2 := X2.size
  clear g2
  go_wp2_with fail
  refine (c_l10DrawRange P A n c _ hc2).mono ?_
  rintro e w3 ⟨lo, hiv, hsm, rfl, hc3, g3⟩
  have B3 := box_beside B2 g3 (by simp only [ne_eq, Option.some.injEq]; omega)
  have o3 := o2.beside g3 (fun k hk => by have := o2.lt k hk; have := hc1.lt; simp only [ne_eq, Option.some.injEq]; omega)
  have X3 : Ext w w3 := ext_grown X2 g3 (fun q hq => by simp only [Option.some.injEq] at hq; omega)
  have HSM := Lib.hid hsm
  have hP1 := hc1.lt
  have hP3 := hc3.lt
  clear g3 hc1 hc2 hsm o2
  have hb3 := bx_lt B3
  have HB3 := Lib.hid B3
  have s3 := X3.size
  clear B3
  rcases Nat.eq_zero_or_pos l.length with hl0 | hl0
  · obtain rfl : l = [] := List.eq_nil_of_length_eq_zero hl0
    simp only [List.length_nil] at o3 ⊢
    have O3 := Lib.hid o3
    have b0 := bx_cell HB3.out
    have fb := bx_frozen HB3.out
    clear o3
    go_wp2
    go_region_with (fail)
    all_goals
      go_wp2
      refine bodyPost_ret (v := .tuple #[.slice Al 0 cl, .agg #[.int .i64 lo, .int .i64 hiv]]) (by simp [results, Try.results92, go_sem, *]) rfl ⟨_, [], lo, hiv, rfl, by simp, ?_, ?_⟩
      · exact ownsRow_less (ownsRow_drew (ownsRow_ext (ownsRow_setCell (ownsRow_setCell O3.out _ (fun q hq => by have := O3.out.lt q hq; show q ≠ w.heap.size; omega)) _ (fun q hq => by have := O3.out.lt q hq; show q ≠ w.heap.size; omega)) (ext_alloc _ _))) (by omega)
      · exact ext_drew (ext_to (ext_set (ext_set X3 (Nat.le_refl _) _) (Nat.le_refl _) _) _)
  · have O3 := Lib.hid o3
    have HL := Lib.hid o3.lt
    go_wp2_with fail
    refine (c_l1Once P A n c 3 _ (hc3.ext (ext_alloc _ _)) (by omega)).mono ?_
    rintro e w4 ⟨b4, rfl, hc4, g4⟩
    have C4 := box_beside (hNew (w := w3) (o := .cells #[.int .i64 lo, .int .i64 hiv] 25) rfl) g4 (by simp only [ne_eq, Option.some.injEq]; omega)
    have B4 := box_beside (hOld (o := .cells #[.int .i64 lo, .int .i64 hiv] 25) HB3.out) g4 (by simp only [ne_eq, Option.some.injEq]; omega)
    have o4 := (o3.kept (ext_alloc w3 (.cells #[.int .i64 lo, .int .i64 hiv] 25))).beside g4 (fun k hk => by have := o3.lt k hk; simp only [ne_eq, Option.some.injEq]; omega)
    have X4 : Ext w w4 := ext_grown (ext_to X3 _) g4 (fun q hq => by simp only [Option.some.injEq] at hq; omega)
    have s4 := X4.size
    have hb4 := bx_lt B4
    have hc4l := bx_lt C4
    have HB4 := Lib.hid B4
    have HC4 := Lib.hid C4
    have O4 := Lib.hid o4
    have b0 := bx_cell B4
    have c0 := bx_cell C4
    have fb := bx_frozen B4
    have fc := bx_frozen C4
    clear o3 g4 B4 C4
    cases b4
    · clear o4
      go_wp2
      go_region_with (fail)
      all_goals
        go_wp2
        refine bodyPost_ret (v := .tuple #[.slice Al l.length cl, .agg #[.int .i64 lo, .int .i64 hiv]]) (by simp [results, Try.results92, go_sem, *]) rfl ⟨_, l, lo, hiv, rfl, hl, ?_, ?_⟩
        · exact ownsRow_less (ownsRow_drew (ownsRow_setCell (ownsRow_setCell O4.out _ (fun q hq => by have := O4.out.lt q hq; show q ≠ w.heap.size; omega)) _ (fun q hq => by have := O4.out.lt q hq; show q ≠ w.heap.size; omega))) (by omega)
        · exact ext_drew (ext_set (ext_set X4 (Nat.le_refl _) _) (Nat.le_refl _) _)
    · clear c0 b0 fb fc
      go_wp2_with fail
      refine (c_l1Below P A n c l.length _ hc4 (by omega)).mono ?_
      rintro e w5 ⟨x5, ⟨p5, q5⟩, rfl, hc5, g5⟩
      obtain ⟨k, rfl⟩ : ∃ k : Nat, x5 = k := ⟨x5.toNat, by omega⟩
      have hk : k < l.length := by omega
      have C5 := box_beside HC4.out g5 (by simp only [ne_eq, Option.some.injEq]; omega)
      have B5 := box_beside HB4.out g5 (by simp only [ne_eq, Option.some.injEq]; omega)
      have o5 := o4.beside g5 (fun k hk => by have := o4.lt k hk; simp only [ne_eq, Option.some.injEq]; omega)
      have X5 : Ext w w5 := ext_grown X4 g5 (fun q hq => by simp only [Option.some.injEq] at hq; omega)
      have s5 := X5.size
      have hc5l := hc5.lt
      obtain ⟨bb, oo, rfl, hbb, a0, a1⟩ := (o5.rd Rng.enc_len).2.atRng hk
      have hb5 := bx_lt B5
      have hc5b := bx_lt C5
      have HB5 := Lib.hid B5
      have HC5 := Lib.hid C5
      have O5 := Lib.hid o5
      clear o4 o5 g5 B5 C5 q5
      go_wp2
      go_region_with (go_at_call 97; refine (c_l1Below P A n c 4 _ (hc5.ext (ext_drew (ext_alloc _ _))) (by omega)).mono ?_; rintro e w6 ⟨x6, ⟨p6, q6⟩, rfl, hc6, g6⟩; have D6 := box_beside (box_drew (hNew (w := w5) (o := .cells #[.int .i64 l[k].lo, .int .i64 l[k].hi] 25) rfl)) g6 (by simp only [ne_eq, Option.some.injEq]; omega); have C6 := box_beside (box_drew (hOld (o := .cells #[.int .i64 l[k].lo, .int .i64 l[k].hi] 25) HC5.out)) g6 (by simp only [ne_eq, Option.some.injEq]; omega); have B6 := box_beside (box_drew (hOld (o := .cells #[.int .i64 l[k].lo, .int .i64 l[k].hi] 25) HB5.out)) g6 (by simp only [ne_eq, Option.some.injEq]; omega); have O6 := Lib.hid (((O5.out.kept (ext_drew (ext_alloc w5 (.cells #[.int .i64 l[k].lo, .int .i64 l[k].hi] 25))))).beside g6 (fun q hq => by have := O5.out.lt q hq; simp only [ne_eq, Option.some.injEq]; omega)); have X6 := Lib.hid (show Ext w w6 from ext_grown (ext_drew (ext_to X5 _)) g6 (fun q hq => by simp only [Option.some.injEq] at hq; omega)); have d6 := bx_cell D6; have c6 := bx_cell C6; have b6 := bx_cell B6; have fd := bx_frozen D6; have fc := bx_frozen C6; have fb := bx_frozen B6; have z6 := bx_lt B6; have y6 := bx_lt C6; have v6 := bx_lt D6; clear D6 C6 B6 g6 hc6)
      all_goals
        go_wp2
        go_region_with (fail)
      all_goals
        go_wp2
        have hbb3 := HL.out bb rfl
        refine bodyPost_ret (v := .tuple #[.slice (some ⟨bb, oo, none⟩) l.length cl, .agg #[.int .i64 l[k].lo, .int .i64 (IntKind.i64.wrap (l[k].hi + x6))]]) (by simp [results, Try.results92, go_sem, *]) rfl ⟨_, l, l[k].lo, IntKind.i64.wrap (l[k].hi + x6), rfl, hl, ?_, ?_⟩
        · have hq : ∀ (p : Addr), p.block ≠ bb → ∀ q, (Value.slice (some ⟨bb, oo, none⟩) l.length cl).ownBlock = some q → q ≠ p.block := fun p hp q h => by
            simp only [Value.ownBlock, Option.some.injEq] at h
            omega
          exact ownsRow_less (ownsRow_drew (ownsRow_setCell (ownsRow_setCell (ownsRow_setCell (ownsRow_setCell O6.out _ (hq _ (show w3.heap.size ≠ bb by omega))) _ (hq _ (show w3.heap.size ≠ bb by omega))) _ (hq _ (show w.heap.size ≠ bb by omega))) _ (hq _ (show w.heap.size ≠ bb by omega)))) (by omega)
        · exact ext_drew (ext_set (ext_set (ext_set (ext_set X6.out (show w.heap.size ≤ w3.heap.size by omega) _) (show w.heap.size ≤ w3.heap.size by omega) _) (Nat.le_refl _) _) (Nat.le_refl _) _)

set_option maxHeartbeats 1000000 in
set_option maxRecDepth 100000 in
theorem c_DrawRangesPlus (A : Option Addr) (n c : Nat) (w : World) (hc : CodeOk w A n w.heap.size) (hnc : n ≤ c) (hcm : c ≤ 9223372036854775807) : Calls Try.prog 62 #[.slice A n c] w (DrawnPair w) := by
  go_enter Try.func62, Try.ntmps62
  go_wp2_with fail
  refine (c_l10DrawPair A n c _ ((hc.grown (Nat.le_refl _) (grown_of_ext (row := none) (ext_alloc _ _)) (fun g he => by cases he)).up (by simp)) hnc hcm).mono ?_
  rintro e w1 ⟨v, l, lo, hiv, rfl, hl, o1, x1⟩
  have B1 := x1.box (hNew (w := w) (o := .cells #[.int .i64 0, .int .i64 0] 25) rfl)
  have X1 := Ext.trans (ext_alloc _ _) x1
  rw [sz_alloc] at o1
  have hb1 := bx_lt B1
  have b1 := bx_cell B1
  have f1 := bx_frozen B1
  have O1 := Lib.hid o1
  clear o1 B1
  go_wp2
  go_region_with (fail)
  all_goals
    go_wp2
    refine bodyPost_ret (v := .tuple #[v, .agg #[.int .i64 lo, .int .i64 hiv]]) (by simp [results, Try.results62, go_sem, *]) rfl ⟨v, l, lo, hiv, rfl, hl, ?_, ?_⟩
    · have hq : ∀ q, v.ownBlock = some q → q ≠ (⟨w.heap.size, 0, none⟩ : Addr).block := fun q h => by have := O1.out.lt q h; show q ≠ w.heap.size; omega
      exact ownsRow_less (ownsRow_drew (ownsRow_ext (ownsRow_setCell (p := ⟨w.heap.size, 1, none⟩) (ownsRow_setCell (p := ⟨w.heap.size, 0, none⟩) O1.out _ hq) _ hq) (ext_alloc _ _))) (by omega)
    · exact ext_drew (ext_to (ext_set (ext_set X1 (Nat.le_refl _) _) (Nat.le_refl _) _) _)
end Go.Proofs.Ytinfkgbgeajphaa
