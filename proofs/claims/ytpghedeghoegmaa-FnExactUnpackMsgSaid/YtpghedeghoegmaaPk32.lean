/- The program's reader of number forms: num, field. -/
import Derived.Test.YtpghedeghoegmaaPk31
namespace Go.Proofs.Ytpghedeghoegmaa
open Go.ChangeShapes Go.WideShapes Go.ChangeAt Go.RowKit Go.Sort
set_option linter.unusedVariables false
set_option linter.unusedSimpArgs false

abbrev rdO (A : Option Addr) (n c at_ : Nat) (ok : Bool) : Obj := .cells #[.slice A n c, .int .i64 at_, .bool ok] 84
/-- a number read: the number, the place behind it, and whether it was one -/
def rdN (b : List Nat) (at_ : Nat) (ok : Bool) : Int × Nat × Bool := if ok = true then (match getZ b at_ with | none => (0, 0, false) | some p => (p.1, p.2, true)) else (0, at_, false)
def rdF (b : List Nat) (at_ : Nat) (ok : Bool) : Int × Nat × Bool := ((rdN b at_ ok).1, (rdN b at_ ok).2.1, (rdN b at_ ok).2.2 && decide ((rdN b at_ ok).1 ≤ 1000000001))
theorem rdN_off (b : List Nat) (at_ : Nat) : rdN b at_ false = (0, at_, false) := rfl
theorem rdN_none {b : List Nat} {at_ : Nat} (h : getZ b at_ = none) : rdN b at_ true = (0, 0, false) := by unfold rdN; rw [h]; rfl
theorem rdN_some {b : List Nat} {at_ : Nat} {x : Int} {f : Nat} (h : getZ b at_ = some (x, f)) : rdN b at_ true = (x, f, true) := by unfold rdN; rw [h]; rfl
theorem rdN_le {b : List Nat} (hb : Byt b) {at_ : Nat} (ha : at_ ≤ b.length) (ok : Bool) : (rdN b at_ ok).2.1 ≤ b.length ∧ 0 ≤ (rdN b at_ ok).1 ∧ (rdN b at_ ok).1 < 9223372036854775808 := by
  cases ok
  · rw [rdN_off]; exact ⟨ha, by simp, by simp⟩
  · cases hz : getZ b at_ with
    | none => rw [rdN_none hz]; exact ⟨Nat.zero_le _, by simp, by simp⟩
    | some p =>
      rw [rdN_some (x := p.1) (f := p.2) hz]
      exact getZ_le hb hz
/-- what a call of the reader leaves: its box set, all else as it was -/
def RdS (w w' : World) (r : Nat) (A : Option Addr) (n c : Nat) (s : Nat × Bool) : Prop := w'.heap[r]? = some (rdO A n c s.1 s.2) ∧ Chg w w' [r]
set_option maxRecDepth 100000 in
set_option maxHeartbeats 16000000 in
theorem c_num (A : Option Addr) (c : Nat) (b : List Nat) (at_ : Nat) (ok : Bool) (r : Nat) (w : World) (hr : Rd bEnc 1 w A c b) (hb : Byt b) (hn : b.length ≤ 1048576) (ha : at_ ≤ 1048576) (hB : w.heap[r]? = some (rdO A b.length c at_ ok)) :
    Calls Try.prog 50 #[.pointer (some ⟨r, 0, none⟩)] w fun e w' => e = .returned (.int .i64 (rdN b at_ ok).1) ∧ RdS w w' r A b.length c (rdN b at_ ok).2 := by
  have D := Lib.hid hB
  cases ok
  · rw [rdN_off]
    have dp := bx_cell hB
    have fp := bx_frozen hB
    have zp := bx_lt hB
    clear hB
    go_enter Try.func50, Try.ntmps50
    go_wp2
    exact bodyPost_ret (v := .int .i64 0) (by simp [results, Try.results50, go_sem]) rfl ⟨rfl, D.out, Chg.refl w _⟩
  · have HC := Lib.hid (fun W (h : Ext w W) => c_iGetNum A c b at_ W (hr.keep h) hb hn ha)
    have dp := bx_cell hB
    have fp := bx_frozen hB
    have zp := bx_lt hB
    clear hr hB
    cases hz : getZ b at_ with
    | none =>
      rw [rdN_none hz]
      rw [hz] at HC
      clear hz
      go_enter Try.func50, Try.ntmps50
      go_wp2
      (refine Rm.wp_region_mix' (R := relE w.heap.size) (fun _ _ _ => True) (fun _ _ _ _ _ hq => hq) 16 (by first | exact Nat.le_refl _ | omega | (simp; omega)) (by kernel_rfl) (by kernel_rfl) ?_; simp only [List.take_succ_cons, List.take_zero, List.drop_succ_cons, List.drop_zero])
      (iterate 1 (refine Rm.wpMix_plain rfl rfl ?_; go_big_quiet_step (fail); refine wpQuiet_nil ?_))
      (refine Rm.wpMix_nilp rfl rfl rfl ?_; simp only [Act.put, List.setIfInBounds_toArray, List.set_cons_zero, List.set_cons_succ])
      (iterate 1 (refine Rm.wpMix_plain rfl rfl ?_; go_big_quiet_step (fail); refine wpQuiet_nil ?_))
      (refine Rm.wpMix_load1 (fun W9' h9 => show W9'.cell? _ = some (.slice A b.length c) from bx_cell (Ext.box h9 D.out) 0) rfl rfl rfl Try.underlying34 rfl ?_; simp only [Act.put, List.setIfInBounds_toArray, List.set_cons_zero, List.set_cons_succ])
      (iterate 1 (refine Rm.wpMix_plain rfl rfl ?_; go_big_quiet_step (fail); refine wpQuiet_nil ?_))
      (refine Rm.wpMix_nilp rfl rfl rfl ?_; simp only [Act.put, List.setIfInBounds_toArray, List.set_cons_zero, List.set_cons_succ])
      (iterate 1 (refine Rm.wpMix_plain rfl rfl ?_; go_big_quiet_step (fail); refine wpQuiet_nil ?_))
      (refine Rm.wpMix_load1 (fun W9' h9 => show W9'.cell? _ = some (.int .i64 at_) from bx_cell (Ext.box h9 D.out) 1) rfl rfl rfl Try.underlying3 rfl ?_; simp only [Act.put, List.setIfInBounds_toArray, List.set_cons_zero, List.set_cons_succ])
      (refine Rm.wpMix_det rfl rfl rfl (enters Try.func88 (by kernel_rfl) rfl) (fun W9' h9 => HC.out W9' h9) rfl ?_; simp only [Act.put, List.setIfInBounds_toArray, List.set_cons_zero, List.set_cons_succ])
      simp only [gT]
      (iterate 7 (refine Rm.wpMix_plain rfl rfl ?_; go_big_quiet_step (fail); refine wpQuiet_nil ?_))
      refine Rm.wpMix_nil ?_
      rintro w2 hW
      have x2 : Ext w w2 := hW
      have D2 := Lib.hid (x2.box D.out)
      have dp := bx_cell D2.out
      have fp := bx_frozen D2.out
      have zp := bx_lt D2.out
      have D3 := Lib.hid (box_put D2.out 1 (.int .i64 0))
      have D4 := Lib.hid (box_put D3.out 2 (.bool false))
      have C4 := Lib.hid (chg_set (p := ⟨r, 2, none⟩) (chg_set (p := ⟨r, 1, none⟩) (chg_ext [r] x2) (by simp) (.int .i64 0)) (by simp) (.bool false))
      clear x2 hW HC D D2 D3
      go_wp2
      exact bodyPost_ret (v := .int .i64 0) (by simp [results, Try.results50, go_sem]) rfl ⟨rfl, D4.out, C4.out⟩
    | some pz =>
      obtain ⟨x, f⟩ := pz
      rw [rdN_some hz]
      rw [hz] at HC
      clear hz
      go_enter Try.func50, Try.ntmps50
      go_wp2
      (refine Rm.wp_region_mix' (R := relE w.heap.size) (fun _ _ _ => True) (fun _ _ _ _ _ hq => hq) 16 (by first | exact Nat.le_refl _ | omega | (simp; omega)) (by kernel_rfl) (by kernel_rfl) ?_; simp only [List.take_succ_cons, List.take_zero, List.drop_succ_cons, List.drop_zero])
      (iterate 1 (refine Rm.wpMix_plain rfl rfl ?_; go_big_quiet_step (fail); refine wpQuiet_nil ?_))
      (refine Rm.wpMix_nilp rfl rfl rfl ?_; simp only [Act.put, List.setIfInBounds_toArray, List.set_cons_zero, List.set_cons_succ])
      (iterate 1 (refine Rm.wpMix_plain rfl rfl ?_; go_big_quiet_step (fail); refine wpQuiet_nil ?_))
      (refine Rm.wpMix_load1 (fun W9' h9 => show W9'.cell? _ = some (.slice A b.length c) from bx_cell (Ext.box h9 D.out) 0) rfl rfl rfl Try.underlying34 rfl ?_; simp only [Act.put, List.setIfInBounds_toArray, List.set_cons_zero, List.set_cons_succ])
      (iterate 1 (refine Rm.wpMix_plain rfl rfl ?_; go_big_quiet_step (fail); refine wpQuiet_nil ?_))
      (refine Rm.wpMix_nilp rfl rfl rfl ?_; simp only [Act.put, List.setIfInBounds_toArray, List.set_cons_zero, List.set_cons_succ])
      (iterate 1 (refine Rm.wpMix_plain rfl rfl ?_; go_big_quiet_step (fail); refine wpQuiet_nil ?_))
      (refine Rm.wpMix_load1 (fun W9' h9 => show W9'.cell? _ = some (.int .i64 at_) from bx_cell (Ext.box h9 D.out) 1) rfl rfl rfl Try.underlying3 rfl ?_; simp only [Act.put, List.setIfInBounds_toArray, List.set_cons_zero, List.set_cons_succ])
      (refine Rm.wpMix_det rfl rfl rfl (enters Try.func88 (by kernel_rfl) rfl) (fun W9' h9 => HC.out W9' h9) rfl ?_; simp only [Act.put, List.setIfInBounds_toArray, List.set_cons_zero, List.set_cons_succ])
      simp only [gT]
      (iterate 7 (refine Rm.wpMix_plain rfl rfl ?_; go_big_quiet_step (fail); refine wpQuiet_nil ?_))
      refine Rm.wpMix_nil ?_
      rintro w2 hW
      have x2 : Ext w w2 := hW
      have D2 := Lib.hid (x2.box D.out)
      have dp := bx_cell D2.out
      have fp := bx_frozen D2.out
      have zp := bx_lt D2.out
      have D3 := Lib.hid (box_put D2.out 1 (.int .i64 f))
      have D4 := Lib.hid (box_put D3.out 2 (.bool true))
      have C4 := Lib.hid (chg_set (p := ⟨r, 2, none⟩) (chg_set (p := ⟨r, 1, none⟩) (chg_ext [r] x2) (by simp) (.int .i64 f)) (by simp) (.bool true))
      clear x2 hW HC D D2 D3
      go_wp2
      exact bodyPost_ret (v := .int .i64 x) (by simp [results, Try.results50, go_sem]) rfl ⟨rfl, D4.out, C4.out⟩
set_option maxRecDepth 100000 in
set_option maxHeartbeats 16000000 in
theorem c_field (A : Option Addr) (c : Nat) (b : List Nat) (at_ : Nat) (ok : Bool) (r : Nat) (w : World) (hr : Rd bEnc 1 w A c b) (hb : Byt b) (hn : b.length ≤ 1048576) (ha : at_ ≤ b.length) (hB : w.heap[r]? = some (rdO A b.length c at_ ok)) :
    Calls Try.prog 51 #[.pointer (some ⟨r, 0, none⟩)] w fun e w' => e = .returned (.int .i64 (rdF b at_ ok).1) ∧ RdS w w' r A b.length c (rdF b at_ ok).2 := by
  have HC := Lib.hid (c_num A c b at_ ok r w hr hb hn (by omega) hB)
  obtain ⟨h1, h2, h3⟩ := rdN_le hb ha ok
  unfold rdF
  obtain ⟨⟨x, f, k⟩, hx⟩ : ∃ p, rdN b at_ ok = p := ⟨_, rfl⟩
  rw [hx] at h1 h2 h3 HC ⊢
  simp only at h1 h2 h3 HC ⊢
  clear hB hr hx
  go_enter Try.func51, Try.ntmps51
  go_wp2_with fail
  refine HC.out.mono ?_
  rintro e w1 ⟨rfl, hd1, hc1⟩
  have D1 := Lib.hid hd1
  have C1 := Lib.hid hc1
  have dp := bx_cell hd1
  have fp := bx_frozen hd1
  have zp := bx_lt hd1
  clear HC hd1 hc1
  cases k
  · simp only [Bool.false_and]
    have D2 := Lib.hid (box_put D1.out 2 (.bool false))
    have C2 := Lib.hid (chg_set (p := ⟨r, 2, none⟩) C1.out (by simp) (.bool false))
    clear D1 C1
    go_wp2
    exact bodyPost_ret (v := .int .i64 x) (by simp [results, Try.results51, go_sem]) rfl ⟨rfl, D2.out, C2.out⟩
  · simp only [Bool.true_and]
    have D2 := Lib.hid (box_put D1.out 2 (.bool (decide (x ≤ 1000000001))))
    have C2 := Lib.hid (chg_set (p := ⟨r, 2, none⟩) C1.out (by simp) (.bool (decide (x ≤ 1000000001))))
    clear D1 C1
    go_wp2
    exact bodyPost_ret (v := .int .i64 x) (by simp [results, Try.results51, go_sem]) rfl ⟨rfl, D2.out, C2.out⟩
end Go.Proofs.Ytpghedeghoegmaa

