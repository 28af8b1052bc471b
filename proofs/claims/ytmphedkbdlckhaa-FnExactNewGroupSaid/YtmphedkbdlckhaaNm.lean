/- A group without logs and votes, marked and held. -/
import Derived.Test.YtmphedkbdlckhaaNg
import Derived.Test.YtmphedkbdlckhaaMv
namespace Go.Proofs.Ytmphedkbdlckhaa
open Go.ChangeShapes Go.WideShapes Go.ChangeAt Go.RowKit Go.Sort
set_option linter.unusedVariables false
set_option linter.unusedSimpArgs false

theorem ext_grown0 {w w' : World} {k : Option Nat} (h : w.grownBy w' k) (hk : k = none) : Ext w w' := Below.grown (Below.refl _ _) h (Nat.le_refl _) (fun x hx => by rw [hk] at hx; cases hx)
theorem c_markCell0 (k : Int) (h0 : 0 ≤ k) (h1 : k ≤ 1000000000) (w : World) : Calls Try.prog 27 #[.slice none 0 0, .int .i64 k] w fun e w' => e = .returned (.int .i64 k) ∧ Ext w w' := by
  refine (c_markCellS none 0 [] 0 k w (World.ownsRow_nil _ _ _ _) h0 (by omega) (by simp)).mono ?_
  rintro e w1 ⟨rfl, _, hg⟩
  exact ⟨by simp, ext_grown0 hg rfl⟩
theorem c_heldCell0 (k : Int) (h0 : 0 ≤ k) (h1 : k ≤ 1000000000) (w : World) : Calls Try.prog 32 #[.slice none 0 0, .int .i64 k] w fun e w' => e = .returned (.int .i64 k) ∧ Ext w w' := by
  refine (c_heldCellS none 0 0 k w (rd_nil _ _ _) h0 (by omega) (by simp)).mono ?_
  rintro e w1 ⟨rfl, hx⟩
  exact ⟨by simp, hx⟩
theorem c_markSeat0 (k : Int) (h0 : 0 ≤ k) (h1 : k ≤ 1000000000) (w : World) : Calls Try.prog 28 #[.slice none 0 0, .int .i64 k] w fun e w' => e = .returned (.int .i64 k) ∧ Ext w w' := by
  refine (c_markSeatS none 0 [] 0 k w (World.ownsRow_nil _ _ _ _) h0 (by omega) (by simp)).mono ?_
  rintro e w1 ⟨rfl, _, hg⟩
  exact ⟨by simp, ext_grown0 hg rfl⟩
theorem c_heldSeat0 (k : Int) (h0 : 0 ≤ k) (h1 : k ≤ 1000000000) (w : World) : Calls Try.prog 33 #[.slice none 0 0, .int .i64 k] w fun e w' => e = .returned (.int .i64 k) ∧ Ext w w' := by
  refine (c_heldSeatS none 0 0 k w (rd_nil _ _ _) h0 (by omega) (by simp)).mono ?_
  rintro e w1 ⟨rfl, hx⟩
  exact ⟨by simp, hx⟩
theorem c_markEntry0 (k : Int) (h0 : 0 ≤ k) (h1 : k ≤ 1000000000) (w : World) : Calls Try.prog 29 #[.slice none 0 0, .int .i64 k] w fun e w' => e = .returned (.int .i64 k) ∧ Ext w w' := by
  refine (c_markEntryS none 0 [] 0 k w (World.ownsRow_nil _ _ _ _) h0 (by omega) (by simp)).mono ?_
  rintro e w1 ⟨rfl, _, hg⟩
  exact ⟨by simp, ext_grown0 hg rfl⟩
theorem c_heldEntry0 (k : Int) (h0 : 0 ≤ k) (h1 : k ≤ 1000000000) (w : World) : Calls Try.prog 34 #[.slice none 0 0, .int .i64 k] w fun e w' => e = .returned (.int .i64 k) ∧ Ext w w' := by
  refine (c_heldEntryS none 0 0 k w (rd_nil _ _ _) h0 (by omega) (by simp)).mono ?_
  rintro e w1 ⟨rfl, hx⟩
  exact ⟨by simp, hx⟩
theorem c_markVote0 (k : Int) (h0 : 0 ≤ k) (h1 : k ≤ 1000000000) (w : World) : Calls Try.prog 30 #[.slice none 0 0, .int .i64 k] w fun e w' => e = .returned (.int .i64 k) ∧ Ext w w' := by
  refine (c_markVoteS none 0 [] 0 0 k w ⟨World.ownsRow_nil _ _ _ _, (fun p hp => by cases hp), by simp [blk], by simp [blk]⟩ h0 h1 (fun p hp => by cases hp) (by simp)).mono ?_
  rintro e w1 ⟨rfl, _, hc⟩
  exact ⟨rfl, chg_low (ext_refl w) hc (fun g hg => by simp [VtE.fps, blk] at hg)⟩
theorem c_heldVote0 (k : Int) (h0 : 0 ≤ k) (h1 : k ≤ 1000000000) (w : World) : Calls Try.prog 35 #[.slice none 0 0, .int .i64 k] w fun e w' => e = .returned (.int .i64 k) ∧ Ext w w' := by
  refine (c_heldVoteS none 0 [] k w ⟨rd_nil _ _ _, (fun p hp => by cases hp)⟩ h0 h1 (fun p hp => by cases hp) (by simp)).mono ?_
  rintro e w1 ⟨rfl, hx⟩
  exact ⟨rfl, hx⟩
theorem c_markFlightS0 (k : Int) (w : World) : Calls Try.prog 31 #[.slice none 0 0, .int .i64 k] w fun e w' => e = .returned (.int .i64 k) ∧ Ext w w' := by
  go_enter Try.func31, Try.ntmps31
  go_wp2
  go_loopw [1, 5] (fun q i wr => i = .int .i64 0 ∧ q = .int .i64 k ∧ Ext w wr) (fun _ _ _ => 0)
  case atStart => exact ⟨rfl, rfl, ext_refl _⟩
  case round =>
    obtain ⟨rfl, rfl, hx⟩ := hrel
    go_wp2
    go_ret
    exact ⟨rfl, hx⟩
theorem c_heldFlightS0 (k : Int) (w : World) : Calls Try.prog 36 #[.slice none 0 0, .int .i64 k] w fun e w' => e = .returned (.int .i64 k) ∧ Ext w w' := by
  go_enter Try.func36, Try.ntmps36
  go_wp2
  go_loopw [1, 5] (fun q i wr => i = .int .i64 0 ∧ q = .int .i64 k ∧ Ext w wr) (fun _ _ _ => 0)
  case atStart => exact ⟨rfl, rfl, ext_refl _⟩
  case round =>
    obtain ⟨rfl, rfl, hx⟩ := hrel
    go_wp2
    go_ret
    exact ⟨rfl, hx⟩
theorem c_markReplyS0 (k : Int) (w : World) : Calls Try.prog 18 #[.slice none 0 0, .int .i64 k] w fun e w' => e = .returned (.int .i64 k) ∧ Ext w w' := by
  go_enter Try.func18, Try.ntmps18
  go_wp2
  go_loopw [1, 5] (fun q i wr => i = .int .i64 0 ∧ q = .int .i64 k ∧ Ext w wr) (fun _ _ _ => 0)
  case atStart => exact ⟨rfl, rfl, ext_refl _⟩
  case round =>
    obtain ⟨rfl, rfl, hx⟩ := hrel
    go_wp2
    go_ret
    exact ⟨rfl, hx⟩
theorem c_heldReplyS0 (k : Int) (w : World) : Calls Try.prog 21 #[.slice none 0 0, .int .i64 k] w fun e w' => e = .returned (.int .i64 k) ∧ Ext w w' := by
  go_enter Try.func21, Try.ntmps21
  go_wp2
  go_loopw [1, 5] (fun q i wr => i = .int .i64 0 ∧ q = .int .i64 k ∧ Ext w wr) (fun _ _ _ => 0)
  case atStart => exact ⟨rfl, rfl, ext_refl _⟩
  case round =>
    obtain ⟨rfl, rfl, hx⟩ := hrel
    go_wp2
    go_ret
    exact ⟨rfl, hx⟩
theorem c_markNet0 (k : Int) (h0 : 0 ≤ k) (w : World) : Calls Try.prog 17 #[.agg #[.int .i64 0, .slice none 0 0], .int .i64 k] w fun e w' => e = .returned (.int .i64 k) ∧ Ext w w' := by
  have X0 := ext_alloc w (.cells #[.int .i64 0, .slice none 0 0] 25)
  go_enter Try.func17, Try.ntmps17
  go_wp2_with fail
  refine (c_markFlightS0 k _).mono ?_
  rintro e w1 ⟨rfl, x1⟩
  go_wp2
  go_ret
  exact ⟨rfl, Ext.trans X0 x1⟩
theorem c_heldNet0 (k : Int) (h0 : 0 ≤ k) (w : World) : Calls Try.prog 20 #[.agg #[.int .i64 0, .slice none 0 0], .int .i64 k] w fun e w' => e = .returned (.int .i64 k) ∧ Ext w w' := by
  have X0 := ext_alloc w (.cells #[.int .i64 0, .slice none 0 0] 25)
  go_enter Try.func20, Try.ntmps20
  go_wp2_with fail
  refine (c_heldFlightS0 k _).mono ?_
  rintro e w1 ⟨rfl, x1⟩
  go_wp2
  go_ret
  exact ⟨rfl, Ext.trans X0 x1⟩

/-- the i-th replica's marks -/
def mkR (k : Int) (i : Nat) : Rp := ⟨k + 9 * i, k + 9 * i + 1, k + 9 * i + 1 + 1, k + 9 * i + 1 + 1 + 1, k + 9 * i + 1 + 1 + 1 + 1, k + 9 * i + 1 + 1 + 1 + 1 + 1, ⟨k + 9 * i + 1 + 1 + 1 + 1 + 1 + 1, [], [], []⟩, [], k + 9 * i + 1 + 1 + 1 + 1 + 1 + 1 + 1, k + 9 * i + 1 + 1 + 1 + 1 + 1 + 1 + 1 + 1⟩
def mkE (k : Int) (i : Nat) : RpE := plE (mkR k i)
def mkRow (k : Int) (n : Nat) : List RpE := (List.range n).map (mkE k)
theorem mkRow_len (k : Int) (n : Nat) : (mkRow k n).length = n := by simp [mkRow]
theorem mkRow_at (k : Int) {n i : Nat} (h : i < (mkRow k n).length) : (mkRow k n)[i] = plE (mkR k i) := by simp [mkRow, mkE]
set_option maxHeartbeats 1000000 in
theorem mkE_next (k of : Int) {n j : Nat} (hj : j < n) : ∀ xs, xs = (mixed (mkE k) (newRow of n) j).flatMap RpE.enc → (((((((((xs).set (j * 13) (.int .i64 (k + 9 * (j : Int)))).set (j * 13 + 1) (.int .i64 (k + 9 * (j : Int) + 1))).set (j * 13 + 2) (.int .i64 (k + 9 * (j : Int) + 1 + 1))).set (j * 13 + 3) (.int .i64 (k + 9 * (j : Int) + 1 + 1 + 1))).set (j * 13 + 4) (.int .i64 (k + 9 * (j : Int) + 1 + 1 + 1 + 1))).set (j * 13 + 5) (.int .i64 (k + 9 * (j : Int) + 1 + 1 + 1 + 1 + 1))).set (j * 13 + 6) (.int .i64 (k + 9 * (j : Int) + 1 + 1 + 1 + 1 + 1 + 1))).set (j * 13 + 11) (.int .i64 (k + 9 * (j : Int) + 1 + 1 + 1 + 1 + 1 + 1 + 1))).set (j * 13 + 12) (.int .i64 (k + 9 * (j : Int) + 1 + 1 + 1 + 1 + 1 + 1 + 1 + 1)) = (mixed (mkE k) (newRow of n) (j + 1)).flatMap RpE.enc := by
  intro xs hxs
  have hl := newRow_len of n
  have h1 := setAll_mixed RpE.len (mkE k) (newRow of n) j (by omega)
  rw [← h1]
  have hm : j < (mixed (mkE k) (newRow of n) j).length := by rw [mixed_length _ _ (by omega)]; omega
  have hat : (mixed (mkE k) (newRow of n) j)[j] = plE (newR of j) := by rw [mixed_at _ _ (by omega) hm, if_neg (by omega), newRow_at]
  have hg : ∀ i, i < 13 → xs[j * 13 + i]? = (RpE.enc (plE (newR of j)))[i]? := fun i hi => by
    rw [hxs, flat_get RpE.len _ j hm i hi, hat]
  have g7 := hg 7 (by omega)
  have g8 := hg 8 (by omega)
  have g9 := hg 9 (by omega)
  have g10 := hg 10 (by omega)
  rw [← hxs]
  clear hxs hg hat hm h1
  simp only [RpE.enc, plE, newR, Lg.none, LAd.none, List.length_nil, List.getElem?_cons_succ, List.getElem?_cons_zero] at g7 g8 g9 g10
  simp only [setAll, RpE.enc, mkE, plE, mkR, LAd.none, List.length_nil, Nat.add_assoc, Nat.reduceAdd]
  rw [list_set_self (i := j * 13 + 7) (by (repeat rw [List.getElem?_set_ne (by omega)]); exact g7), list_set_self (i := j * 13 + 8) (by (repeat rw [List.getElem?_set_ne (by omega)]); exact g8), list_set_self (i := j * 13 + 9) (by (repeat rw [List.getElem?_set_ne (by omega)]); exact g9), list_set_self (i := j * 13 + 10) (by (repeat rw [List.getElem?_set_ne (by omega)]); exact g10)]
set_option maxRecDepth 100000 in
set_option maxHeartbeats 8000000 in
theorem c_markRow (of k : Int) (A : Option Addr) (c n B : Nat) (w : World) (h : Ow RpE.enc 42 13 w B (.slice A n c) (newRow of n)) (h0 : 0 ≤ k) (h1 : k ≤ 1000) (hn : n ≤ 5) :
    Calls Try.prog 16 #[.slice A n c, .int .i64 k] w fun e w' => e = .returned (.int .i64 (k + 9 * n)) ∧ Ow RpE.enc 42 13 w' B (.slice A n c) (mkRow k n) ∧ Chg w w' (blk A) := by
  have hl := newRow_len of n
  unfold Ow at h
  rw [hl] at h
  have HH := Lib.hid h
  clear h
  go_enter Try.func16, Try.ntmps16
  go_wp2
  go_loopw [1, 5] (fun q i wr => ∃ j : Nat, j ≤ n ∧ i = .int .i64 j ∧ q = .int .i64 (k + 9 * (j : Int)) ∧ wr.ownsRow B 42 13 (.slice A n c) n ((mixed (mkE k) (newRow of n) j).flatMap RpE.enc) ∧ Chg w wr (blk A)) (fun _ i _ => n - (intOf i).toNat)
  case atStart => exact ⟨0, Nat.zero_le _, rfl, by simp, by rw [mixed_zero]; exact HH.out, Chg.refl _ _⟩
  case round =>
    obtain ⟨j, hj, rfl, rfl, hown, hch⟩ := hrel
    have HCH := Lib.hid hch
    clear hch
    by_cases hlt : j < n
    · obtain ⟨g, rfl, hgB, hgl⟩ := ownsRow_form hown (by omega)
      have hml : (mixed (mkE k) (newRow of n) j).length = n := by rw [mixed_length _ _ (by omega)]; omega
      have hat : ∀ i, i < 13 → wr.cell? ⟨g, j * 13 + i, none⟩ = (RpE.enc (plE (newR of j)))[i]? := fun i hi => by
        rw [World.ownsRow.cellAt hown (j * 13 + i) (by omega), flat_get RpE.len _ j (by omega) i hi, mixed_at _ _ (by omega) (by omega), if_neg (by omega), newRow_at]
      have e0 : wr.cell? ⟨g, j * 13, none⟩ = some (.int .i64 (j : Int)) := hat 0 (by omega)
      have e1 : wr.cell? ⟨g, j * 13 + 1, none⟩ = some (.int .i64 of) := hat 1 (by omega)
      have e2 : wr.cell? ⟨g, j * 13 + 2, none⟩ = some (.int .i64 1) := hat 2 (by omega)
      have e3 : wr.cell? ⟨g, j * 13 + 3, none⟩ = some (.int .i64 0) := hat 3 (by omega)
      have e4 : wr.cell? ⟨g, j * 13 + 4, none⟩ = some (.int .i64 0) := hat 4 (by omega)
      have e5 : wr.cell? ⟨g, j * 13 + 5, none⟩ = some (.int .i64 0) := hat 5 (by omega)
      have e6 : wr.cell? ⟨g, j * 13 + 6, none⟩ = some (.int .i64 0) := hat 6 (by omega)
      have e7 : wr.cell? ⟨g, j * 13 + 7, none⟩ = some (.slice none 0 0) := hat 7 (by omega)
      have e8 : wr.cell? ⟨g, j * 13 + 8, none⟩ = some (.slice none 0 0) := hat 8 (by omega)
      have e9 : wr.cell? ⟨g, j * 13 + 9, none⟩ = some (.slice none 0 0) := hat 9 (by omega)
      have e10 : wr.cell? ⟨g, j * 13 + 10, none⟩ = some (.slice none 0 0) := hat 10 (by omega)
      have e11 : wr.cell? ⟨g, j * 13 + 11, none⟩ = some (.int .i64 0) := hat 11 (by omega)
      have e12 : wr.cell? ⟨g, j * 13 + 12, none⟩ = some (.int .i64 0) := hat 12 (by omega)
      have hfz := World.ownsRow.frozenAt hown
      have HO := Lib.hid hown
      clear hown hat HH
      have hK : 0 ≤ k + 9 * (j : Int) ∧ k + 9 * (j : Int) ≤ 2000 := by omega
      have s0 := World.ownsRow.stored HO.out (j * 13) (.int .i64 (k + 9 * (j : Int)))
      have s1 := World.ownsRow.stored s0.1 (j * 13 + 1) (.int .i64 (k + 9 * (j : Int) + 1))
      have s2 := World.ownsRow.stored s1.1 (j * 13 + 2) (.int .i64 (k + 9 * (j : Int) + 1 + 1))
      have s3 := World.ownsRow.stored s2.1 (j * 13 + 3) (.int .i64 (k + 9 * (j : Int) + 1 + 1 + 1))
      have s4 := World.ownsRow.stored s3.1 (j * 13 + 4) (.int .i64 (k + 9 * (j : Int) + 1 + 1 + 1 + 1))
      have s5 := World.ownsRow.stored s4.1 (j * 13 + 5) (.int .i64 (k + 9 * (j : Int) + 1 + 1 + 1 + 1 + 1))
      have s6 := World.ownsRow.stored s5.1 (j * 13 + 6) (.int .i64 (k + 9 * (j : Int) + 1 + 1 + 1 + 1 + 1 + 1))
      have G6 := Lib.hid (chg_grown (A := some ⟨g, 0, none⟩) (n := n) (c := c) (grown_trans s0.2 (grown_trans s1.2 (grown_trans s2.2 (grown_trans s3.2 (grown_trans s4.2 (grown_trans s5.2 (s6.2))))))))
      have O6 := Lib.hid s6.1
      clear s0 s1 s2 s3 s4 s5 s6
      go_wp2_with fail
      refine (c_markCell0 _ (by omega) (by omega) _).mono ?_
      rintro e w1 ⟨rfl, x1⟩
      obtain ⟨hc1, hf1, hs1⟩ := x1.rules
      (try simp at hs1)
      have z1 : g < w1.heap.size := by omega
      go_wp2_with fail
      refine (c_markSeat0 _ (by omega) (by omega) _).mono ?_
      rintro e w2 ⟨rfl, x2⟩
      obtain ⟨hc2, hf2, hs2⟩ := x2.rules
      (try simp at hs2)
      have z2 : g < w2.heap.size := by omega
      go_wp2_with fail
      refine (c_markEntry0 _ (by omega) (by omega) _).mono ?_
      rintro e w3 ⟨rfl, x3⟩
      obtain ⟨hc3, hf3, hs3⟩ := x3.rules
      (try simp at hs3)
      have z3 : g < w3.heap.size := by omega
      go_wp2_with fail
      refine (c_markVote0 _ (by omega) (by omega) _).mono ?_
      rintro e w4 ⟨rfl, x4⟩
      obtain ⟨hc4, hf4, hs4⟩ := x4.rules
      (try simp at hs4)
      have z4 : g < w4.heap.size := by omega
      have t4 := ownsRow_ext (ownsRow_ext (ownsRow_ext (ownsRow_ext O6.out x1) x2) x3) x4
      have s7 := World.ownsRow.stored t4 (j * 13 + 11) (.int .i64 (k + 9 * (j : Int) + 1 + 1 + 1 + 1 + 1 + 1 + 1))
      have s8 := World.ownsRow.stored s7.1 (j * 13 + 12) (.int .i64 (k + 9 * (j : Int) + 1 + 1 + 1 + 1 + 1 + 1 + 1 + 1))
      have hnext := mkE_next k of hlt _ rfl
      have HN := Lib.hid (ownsRow_congr s8.1 hnext)
      have HC := Lib.hid (((G6.out.trans (chg_ext _ (Ext.trans x1 (Ext.trans x2 (Ext.trans x3 x4))))).trans (chg_grown (A := some ⟨g, 0, none⟩) (n := n) (c := c) (grown_trans s7.2 s8.2))))
      clear t4 s7 s8 hnext
      go_wp2
      go_roundw
      case rel => exact ⟨j + 1, by omega, by go_num, by go_num, HN.out, HCH.out.trans HC.out⟩
      case measure => simp [intOf] <;> omega
    · obtain rfl : j = n := by omega
      go_wp2
      go_ret
      refine ⟨rfl, ?_, HCH.out⟩
      unfold Ow
      rw [mkRow_len]
      refine ownsRow_congr hown ?_
      have h5 := mixed_all (mkE k) (newRow of j)
      rw [hl] at h5
      rw [h5]
      rfl
set_option maxRecDepth 100000 in
set_option maxHeartbeats 8000000 in
theorem c_heldRow (k : Int) (A : Option Addr) (c n : Nat) (w : World) (h : Rd RpE.enc 13 w A c (mkRow k n)) (h0 : 0 ≤ k) (h1 : k ≤ 1000) (hn : n ≤ 5) :
    Calls Try.prog 19 #[.slice A n c, .int .i64 k] w fun e w' => e = .returned (.int .i64 (k + 9 * n)) ∧ Ext w w' := by
  have HH := Lib.hid h
  have hl := mkRow_len k n
  clear h
  go_enter Try.func19, Try.ntmps19
  go_wp2
  go_loopw [1, 5] (fun q i wr => ∃ j : Nat, j ≤ n ∧ i = .int .i64 j ∧ q = .int .i64 (k + 9 * (j : Int)) ∧ Ext w wr) (fun _ i _ => n - (intOf i).toNat)
  case atStart => exact ⟨0, Nat.zero_le _, rfl, by simp, ext_refl _⟩
  case round =>
    obtain ⟨j, hj, rfl, rfl, hx⟩ := hrel
    by_cases hlt : j < n
    · obtain ⟨b, o, rfl, hb, a0, a1, a2, a3, a4, a5, a6, a7, a8, a9, a10, a11, a12⟩ := (HH.out.keep hx).atRpE (show j < (mkRow k n).length by omega)
      rw [mkRow_at] at a0 a1 a2 a3 a4 a5 a6 a7 a8 a9 a10 a11 a12
      dsimp only [plE, mkR, LAd.none, List.length_nil] at a0 a1 a2 a3 a4 a5 a6 a7 a8 a9 a10 a11 a12
      have hK : 0 ≤ k + 9 * (j : Int) ∧ k + 9 * (j : Int) ≤ 2000 := by omega
      have t0 : ((k + 9 * (j : Int)) != (k + 9 * (j : Int))) = false := by simp
      have t1 : ((k + 9 * (j : Int) + 1) != (k + 9 * (j : Int) + 1)) = false := by simp
      have t2 : ((k + 9 * (j : Int) + 1 + 1) != (k + 9 * (j : Int) + 1 + 1)) = false := by simp
      have t3 : ((k + 9 * (j : Int) + 1 + 1 + 1) != (k + 9 * (j : Int) + 1 + 1 + 1)) = false := by simp
      have t4 : ((k + 9 * (j : Int) + 1 + 1 + 1 + 1) != (k + 9 * (j : Int) + 1 + 1 + 1 + 1)) = false := by simp
      have t5 : ((k + 9 * (j : Int) + 1 + 1 + 1 + 1 + 1) != (k + 9 * (j : Int) + 1 + 1 + 1 + 1 + 1)) = false := by simp
      have t6 : ((k + 9 * (j : Int) + 1 + 1 + 1 + 1 + 1 + 1) != (k + 9 * (j : Int) + 1 + 1 + 1 + 1 + 1 + 1)) = false := by simp
      have t7 : ((k + 9 * (j : Int) + 1 + 1 + 1 + 1 + 1 + 1 + 1) != (k + 9 * (j : Int) + 1 + 1 + 1 + 1 + 1 + 1 + 1)) = false := by simp
      have t8 : ((k + 9 * (j : Int) + 1 + 1 + 1 + 1 + 1 + 1 + 1 + 1) != (k + 9 * (j : Int) + 1 + 1 + 1 + 1 + 1 + 1 + 1 + 1)) = false := by simp
      go_wp2_with fail
      refine (c_heldCell0 _ (by omega) (by omega) _).mono ?_
      rintro e w1 ⟨rfl, x1⟩
      obtain ⟨hc1, hf1, hs1⟩ := x1.rules
      have z1 : b < w1.heap.size := by omega
      go_wp2_with fail
      refine (c_heldSeat0 _ (by omega) (by omega) _).mono ?_
      rintro e w2 ⟨rfl, x2⟩
      obtain ⟨hc2, hf2, hs2⟩ := x2.rules
      have z2 : b < w2.heap.size := by omega
      go_wp2_with fail
      refine (c_heldEntry0 _ (by omega) (by omega) _).mono ?_
      rintro e w3 ⟨rfl, x3⟩
      obtain ⟨hc3, hf3, hs3⟩ := x3.rules
      have z3 : b < w3.heap.size := by omega
      go_wp2_with fail
      refine (c_heldVote0 _ (by omega) (by omega) _).mono ?_
      rintro e w4 ⟨rfl, x4⟩
      obtain ⟨hc4, hf4, hs4⟩ := x4.rules
      have z4 : b < w4.heap.size := by omega
      go_wp2
      go_roundw
      case rel => exact ⟨j + 1, by omega, by go_num, by go_num, Ext.trans hx (Ext.trans x1 (Ext.trans x2 (Ext.trans x3 x4)))⟩
      case measure => simp [intOf] <;> omega
    · obtain rfl : j = n := by omega
      go_wp2
      go_ret
      exact ⟨rfl, hx⟩
theorem c_markGroupN (of k : Int) (A : Option Addr) (c n B : Nat) (w : World) (h : Ow RpE.enc 42 13 w B (.slice A n c) (newRow of n)) (h0 : 0 ≤ k) (h1 : k ≤ 1000) (hn : n ≤ 5) :
    Calls Try.prog 7 #[.agg (NG.cells of A n c), .int .i64 k] w fun e w' => e = .returned (.int .i64 (k + 9 * n)) ∧ Ow RpE.enc 42 13 w' B (.slice A n c) (mkRow k n) ∧ Chg w w' (blk A) := by
  have X0 := ext_alloc w (.cells (NG.cells of A n c) 28)
  have hcon := c_markRow of k A c n B _ (h.kept X0) h0 h1 hn
  have hpa := box_apart (hNew (w := w) (o := .cells (NG.cells of A n c) 28) rfl) (h.kept X0) (by decide)
  have HP := Lib.hid hpa
  have HC := Lib.hid hcon
  clear h hcon hpa
  obtain ⟨q, hq⟩ : ∃ q, k + 9 * (n : Int) = q := ⟨_, rfl⟩
  have hq0 : 0 ≤ q := by omega
  rw [hq] at HC ⊢
  clear hq
  go_enter Try.func7, Try.ntmps7
  go_wp2_with fail
  refine HC.out.mono ?_
  rintro e w1 ⟨rfl, o1, c1⟩
  have B1 := (c1.block w.heap.size (by simp) HP.out).trans (hNew (w := w) (o := .cells (NG.cells of A n c) 28) rfl)
  have b1 := bx_cell B1
  have O1 := Lib.hid o1
  have C1 := Lib.hid ((chg_ext (blk A) X0).trans c1)
  clear o1 c1
  go_wp2_with fail
  refine (c_markNet0 q hq0 _).mono ?_
  rintro e w2 ⟨rfl, x2⟩
  have b2 := bx_cell (x2.box B1)
  go_wp2_with fail
  refine (c_markReplyS0 q _).mono ?_
  rintro e w3 ⟨rfl, x3⟩
  go_wp2
  go_ret
  exact ⟨rfl, O1.out.kept (Ext.trans x2 x3), C1.out.trans (chg_ext _ (Ext.trans x2 x3))⟩
theorem c_heldGroupN (of k : Int) (A : Option Addr) (c n : Nat) (w : World) (h : Rd RpE.enc 13 w A c (mkRow k n)) (h0 : 0 ≤ k) (h1 : k ≤ 1000) (hn : n ≤ 5) :
    Calls Try.prog 8 #[.agg (NG.cells of A n c), .int .i64 k] w fun e w' => e = .returned (.int .i64 (k + 9 * n)) ∧ Ext w w' := by
  have X0 := ext_alloc w (.cells (NG.cells of A n c) 28)
  have HC := Lib.hid (c_heldRow k A c n _ (h.keep X0) h0 h1 hn)
  clear h
  obtain ⟨q, hq⟩ : ∃ q, k + 9 * (n : Int) = q := ⟨_, rfl⟩
  have hq0 : 0 ≤ q := by omega
  rw [hq] at HC ⊢
  clear hq
  go_enter Try.func8, Try.ntmps8
  go_wp2_with fail
  refine HC.out.mono ?_
  rintro e w1 ⟨rfl, x1⟩
  have b1 := bx_cell (x1.box (hNew (w := w) (o := .cells (NG.cells of A n c) 28) rfl))
  go_wp2_with fail
  refine (c_heldNet0 q hq0 _).mono ?_
  rintro e w2 ⟨rfl, x2⟩
  have b2 := bx_cell ((Ext.trans x1 x2).box (hNew (w := w) (o := .cells (NG.cells of A n c) 28) rfl))
  go_wp2_with fail
  refine (c_heldReplyS0 q _).mono ?_
  rintro e w3 ⟨rfl, x3⟩
  go_wp2
  go_ret
  exact ⟨rfl, Ext.trans X0 (Ext.trans x1 (Ext.trans x2 x3))⟩
end Go.Proofs.Ytmphedkbdlckhaa
