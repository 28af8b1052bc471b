/- NewReplica and NewGroup of the reference and of the program; a new group marked and held. -/
import Derived.Test.YtmphedkbdlckhaaGn
import Derived.Test.YtmphedkbdlckhaaRet
namespace Go.Proofs.Ytmphedkbdlckhaa
open Go.ChangeShapes Go.WideShapes Go.ChangeAt Go.RowKit Go.Sort
set_option linter.unusedVariables false
set_option linter.unusedSimpArgs false

def newR (of : Int) (i : Nat) : Rp := ⟨i, of, 1, 0, 0, 0, Lg.none, [], 0, 0⟩
/-- a replica without log and votes, in a row -/
def plE (R : Rp) : RpE := ⟨LAd.none, none, 0, [], R⟩
def newRow (of : Int) (n : Nat) : List RpE := (List.range n).map (fun i => plE (newR of i))
theorem newRow_len (of : Int) (n : Nat) : (newRow of n).length = n := by simp [newRow]
theorem newRow_next (of : Int) (n : Nat) : newRow of n ++ [plE (newR of n)] = newRow of (n + 1) := by simp [newRow, List.range_succ]
theorem newRow_at (of : Int) {n i : Nat} (h : i < (newRow of n).length) : (newRow of n)[i] = plE (newR of i) := by simp [newRow]
theorem ofB_cases {of : Int} (h : ofB of = true) : of = 1 ∨ of = 3 ∨ of = 5 := by simp [ofB] at h; omega
theorem newR_ok {of : Int} {i : Nat} (h : ofB of = true) (hi : (i : Int) < of) : rpOk (newR of i) = true := by
  rcases ofB_cases h with rfl | rfl | rfl
  · obtain rfl : i = 0 := by omega
    decide +kernel
  · rcases (show i = 0 ∨ i = 1 ∨ i = 2 by omega) with rfl | rfl | rfl <;> decide +kernel
  · rcases (show i = 0 ∨ i = 1 ∨ i = 2 ∨ i = 3 ∨ i = 4 by omega) with rfl | rfl | rfl | rfl | rfl <;> decide +kernel
theorem rd_nil {α : Type} (enc : α → List Value) (sz : Nat) (w : World) : Rd enc sz w none 0 [] := ⟨Nat.le_refl _, by unfold maxLen; omega, fun h => absurd h (by simp)⟩
theorem plE_rd (w : World) (R : Rp) (h1 : R.log.cells = []) (h2 : R.log.seats = []) (h3 : R.log.ents = []) (h4 : R.votes = []) : RpE.rd w (plE R) :=
  ⟨⟨by show Rd _ _ _ _ _ R.log.cells; rw [h1]; exact rd_nil _ _ _, by show Rd _ _ _ _ _ R.log.seats; rw [h2]; exact rd_nil _ _ _, by show Rd _ _ _ _ _ R.log.ents; rw [h3]; exact rd_nil _ _ _⟩, ⟨rd_nil _ _ _, by intro p hp; cases hp⟩, h4.symm⟩
theorem newRow_rd (w : World) (of : Int) (n : Nat) : ∀ q ∈ newRow of n, RpE.rd w q := fun q hq => by
  obtain ⟨i, hi, rfl⟩ := List.mem_iff_getElem.1 hq
  rw [newRow_at]
  exact plE_rd w _ rfl rfl rfl rfl
theorem lgNone_small : Lg.none.small := by unfold Lg.small Lg.none; simp
theorem newRow_small (of : Int) (n : Nat) : RpsS (newRow of n) := fun q hq => by
  obtain ⟨i, hi, rfl⟩ := List.mem_iff_getElem.1 hq
  rw [newRow_at]
  exact ⟨lgNone_small, by show ([] : List VtE).length ≤ _; simp, by intro p hp; cases hp⟩
theorem RpE.one (q : RpE) : ∀ u ∈ RpE.enc q, u.oneCell' = true := by
  intro u hu
  simp [RpE.enc] at hu
  rcases hu with rfl | rfl | rfl | rfl | rfl | rfl | rfl | rfl | rfl | rfl | rfl | rfl | rfl <;> rfl
abbrev NR.cells (of : Int) (i : Nat) : Array Value := #[.int .i64 (i : Int), .int .i64 of, .int .i64 1, .int .i64 0, .int .i64 0, .int .i64 0, .int .i64 0, .slice none 0 0, .slice none 0 0, .slice none 0 0, .slice none 0 0, .int .i64 0, .int .i64 0]
abbrev NG.cells (of : Int) (A : Option Addr) (n c : Nat) : Array Value := #[.int .i64 of, .slice A n c, .int .i64 0, .slice none 0 0, .slice none 0 0]

/-- an own row beside a store into another box -/
theorem own_beside_set {α : Type} {enc : α → List Value} {e : TypeId} {sz : Nat} {w : World} {B : Nat} {A : Option Addr} {n c : Nat} {l : List α} {p : Addr} {u : Value} (h : Ow enc e sz w B (.slice A n c) l) (hp : p.block ∉ blk A) : Ow enc e sz (w.setCell p u) B (.slice A n c) l :=
  h.chg (S := [p.block]) ⟨rfl, rfl, rfl, Nat.le_of_eq (World.size_setCell ..).symm, fun k _ hn => Below.heap_setCell _ _ _ _ (fun he => hn (by simp [he]))⟩ (fun k hk hm => by rw [List.mem_singleton] at hm; exact hp (hm ▸ hk))

set_option maxRecDepth 100000 in
set_option maxHeartbeats 4000000 in
theorem c_sNewReplica (of : Int) (i : Nat) (h : rpOk (newR of i) = true) (w : World) :
    Calls Try.prog 10 #[.int .i64 (i : Int), .int .i64 of] w fun e w' => e = .returned (.agg (NR.cells of i)) ∧ Ext w w' := by
  have X0 : Ext w ((w.alloc Rp.zobj).alloc (.cells (NR.cells of i) 42)) := ext_to (ext_alloc _ _) _
  have hcon : Calls Try.prog 22 #[.agg (NR.cells of i)] ((w.alloc Rp.zobj).alloc (.cells (NR.cells of i) 42)) fun e w' => e = .returned (.bool true) ∧ Ext ((w.alloc Rp.zobj).alloc (.cells (NR.cells of i) 42)) w' := by
    have h5 := c_sReplicaOk LAd.none none 0 [] (newR of i) ((w.alloc Rp.zobj).alloc (.cells (NR.cells of i) 42)) (plE_rd _ (newR of i) rfl rfl rfl rfl) lgNone_small (by simp) (by intro p hp; cases hp)
    rw [h] at h5
    exact h5
  have HC := Lib.hid hcon
  clear hcon h
  go_enter Try.func10, Try.ntmps10
  go_wp2_with fail
  refine HC.out.mono ?_
  rintro e w1 ⟨rfl, x1⟩
  have B4 := Lib.hid (x1.box (hOld (o := .cells (NR.cells of i) 42) (hNew (w := w) (o := Rp.zobj) rfl)))
  have B5 := x1.box (hNew (w := w.alloc Rp.zobj) (o := .cells (NR.cells of i) 42) rfl)
  rw [sz_alloc] at B5
  have HB5 := Lib.hid B5
  have HX := Lib.hid (Ext.trans X0 x1)
  clear B5 HC x1
  (go_wp2_with (with_reducible refine wl_stop 13 ?_); refine stop_load (HB5.out) rfl Try.underlying42 (by kernel_rfl) ?_; simp only [Act.put, List.setIfInBounds_toArray, List.set_cons_zero, List.set_cons_succ])
  (go_wp2_with (with_reducible refine wl_stopS 42 ?_); refine stop_store (w.heap.size) (NR.cells of i) rfl rfl (B4.out) (by kernel_rfl) rfl (by simp [Value.oneCell']) ?_)
  intro W4 E4 C4
  have hX4 := Lib.hid (chg_new HX.out C4 (Nat.le_refl _))
  go_wp2
  exact bodyPost_ret (results_box Try.results10 rfl Try.underlying42 (by kernel_rfl) E4) rfl ⟨rfl, hX4.out⟩

set_option maxRecDepth 100000 in
set_option maxHeartbeats 4000000 in
theorem c_iNewReplica (of : Int) (i : Nat) (h : rpOk (newR of i) = true) (w : World) :
    Calls Try.prog 12 #[.int .i64 (i : Int), .int .i64 of] w fun e w' => e = .returned (.agg (NR.cells of i)) ∧ Ext w w' := by
  have X0 : Ext w ((w.alloc Rp.zobj).alloc (.cells (NR.cells of i) 42)) := ext_to (ext_alloc _ _) _
  have hcon : Calls Try.prog 23 #[.agg (NR.cells of i)] ((w.alloc Rp.zobj).alloc (.cells (NR.cells of i) 42)) fun e w' => e = .returned (.bool true) ∧ Ext ((w.alloc Rp.zobj).alloc (.cells (NR.cells of i) 42)) w' := by
    have h5 := c_iReplicaOk LAd.none none 0 [] (newR of i) ((w.alloc Rp.zobj).alloc (.cells (NR.cells of i) 42)) (plE_rd _ (newR of i) rfl rfl rfl rfl) lgNone_small (by simp) (by intro p hp; cases hp)
    rw [h] at h5
    exact h5
  have HC := Lib.hid hcon
  clear hcon h
  go_enter Try.func12, Try.ntmps12
  go_wp2_with fail
  refine HC.out.mono ?_
  rintro e w1 ⟨rfl, x1⟩
  have B4 := Lib.hid (x1.box (hOld (o := .cells (NR.cells of i) 42) (hNew (w := w) (o := Rp.zobj) rfl)))
  have B5 := x1.box (hNew (w := w.alloc Rp.zobj) (o := .cells (NR.cells of i) 42) rfl)
  rw [sz_alloc] at B5
  have HB5 := Lib.hid B5
  have HX := Lib.hid (Ext.trans X0 x1)
  clear B5 HC x1
  (go_wp2_with (with_reducible refine wl_stop 13 ?_); refine stop_load (HB5.out) rfl Try.underlying42 (by kernel_rfl) ?_; simp only [Act.put, List.setIfInBounds_toArray, List.set_cons_zero, List.set_cons_succ])
  (go_wp2_with (with_reducible refine wl_stopS 42 ?_); refine stop_store (w.heap.size) (NR.cells of i) rfl rfl (B4.out) (by kernel_rfl) rfl (by simp [Value.oneCell']) ?_)
  intro W4 E4 C4
  have hX4 := Lib.hid (chg_new HX.out C4 (Nat.le_refl _))
  go_wp2
  exact bodyPost_ret (results_box Try.results12 rfl Try.underlying42 (by kernel_rfl) E4) rfl ⟨rfl, hX4.out⟩

set_option maxRecDepth 100000 in
set_option maxHeartbeats 8000000 in
theorem c_sNewGroup (of : Int) (N : Nat) (h : ofB of = true) (hN : of = (N : Int)) (w : World) :
    Calls Try.prog 4 #[.int .i64 of] w fun e w' => ∃ A c, e = .returned (.agg (NG.cells of A N c)) ∧ Ow RpE.enc 42 13 w' w.heap.size (.slice A N c) (newRow of N) ∧ Ext w w' := by
  obtain ⟨i0, hi, hz0, hz1, hz2⟩ := info_parts Try.infoRp
  have hb := ofB_b h
  have X0 := ext_alloc w Gp.zobj
  have hcon := c_l6Of of (w.alloc Gp.zobj)
  rw [h] at hcon
  have HC := Lib.hid hcon
  have HOk := Lib.hid (fun (i : Nat) (hi : (i : Int) < of) => newR_ok h hi)
  have HN := Lib.hid hN
  have hN5 : N ≤ 5 := by omega
  clear hcon h hN hb
  go_enter Try.func4, Try.ntmps4
  go_wp2_with fail
  refine HC.out.mono ?_
  rintro e w1 ⟨rfl, x1⟩
  have B2 := Lib.hid (x1.box (hNew (w := w) (o := Gp.zobj) rfl))
  have HX := Lib.hid (Ext.trans X0 x1)
  have hs1 := x1.size
  simp only [sz_alloc] at hs1
  clear HC x1
  go_wp2
  go_loopw [4] (fun i wr => ∃ (k : Nat) (A : Option Addr) (c : Nat), k ≤ N ∧ i = .int .i64 k ∧ wr.heap[w1.heap.size]? = some (.cells (NG.cells of A k c) 28 (0, 0)) ∧ Ow RpE.enc 42 13 wr w.heap.size (.slice A k c) (newRow of k) ∧ wr.heap[w.heap.size]? = some Gp.zobj ∧ Ext w wr) (fun i _ => N - (intOf i).toNat)
  case atStart => exact ⟨0, none, 0, Nat.zero_le _, rfl, hNew (w := w1) rfl, World.ownsRow_nil _ _ _ _, hOld B2.out, ext_to HX.out _⟩
  case round =>
    obtain ⟨k, A, c, hk, rfl, hbx, hrow, hbz, hxr⟩ := hrel
    have HB := Lib.hid hbx
    have HR := Lib.hid hrow
    have HZ := Lib.hid hbz
    have HXr := Lib.hid hxr
    have hsr := hxr.size
    have hlt0 := bx_lt hbx
    clear hbx hrow hbz hxr
    by_cases hlt : k < N
    · have g4 : decide ((k : Int) < of) = true := by rw [HN.out]; simp; omega
      have hok := Lib.hid (HOk.out k (by rw [HN.out]; omega))
      go_wp2
      (refine Rm.wp_region_mix' (R := relE wr.heap.size) (fun _ _ _ => True) (fun _ _ _ _ _ hq => hq) 6 (by first | exact Nat.le_refl _ | omega | (simp; omega)) (by kernel_rfl) (by kernel_rfl) ?_; simp only [List.take_succ_cons, List.take_zero, List.drop_succ_cons, List.drop_zero])
      (iterate 1 (refine Rm.wpMix_plain rfl rfl ?_; go_big_quiet_step (fail); refine wpQuiet_nil ?_))
      (refine Rm.wpMix_load1 (fun W9' h9 => bx_cell (Ext.box h9 HB.out) 1) rfl rfl rfl Try.underlying22 rfl ?_; simp only [Act.put, List.setIfInBounds_toArray, List.set_cons_zero, List.set_cons_succ])
      (iterate 2 (refine Rm.wpMix_plain rfl rfl ?_; go_big_quiet_step (fail); refine wpQuiet_nil ?_))
      (refine Rm.wpMix_det rfl rfl rfl (enters Try.func10 (by kernel_rfl) rfl) (fun W9' h9 => c_sNewReplica of k hok.out W9') rfl ?_; simp only [Act.put, List.setIfInBounds_toArray, List.set_cons_zero, List.set_cons_succ])
      (refine Rm.wpMix_alloc (.cells (NR.cells of k) 42) rfl (fun W => by kernel_rfl) ?_; intro p1 hp1 hps1 hpi1; simp only [layVal, Act.put, List.setIfInBounds_toArray, List.set_cons_zero, List.set_cons_succ])
      refine Rm.wpMix_nil ?_
      rintro W3 ⟨X3, E3⟩
      have X3' : Ext wr W3 := X3
      have D3 := Lib.hid (X3'.box HB.out)
      have Z3 := Lib.hid (X3'.box HZ.out)
      have HXw := Lib.hid (Ext.trans HXr.out X3')
      have HRow := Lib.hid (HR.out.kept X3')
      have HE3 := Lib.hid E3
      have hs3 := X3'.size
      clear X3 X3' E3 hp1 hps1 hpi1 HB HR HZ g4
      go_wp2_with (at_builtin; refine wl_app (enc := RpE.enc) rfl _ _ 22 rfl w.heap.size 42 i0 Rp.zero 13 168 Try.underlying22 hi hz0 hz1 hz2 rfl (by decide) RpE.len RpE.one (.slice A k c) (newRow of k) rfl HRow.out (some ⟨p1, 0, none⟩) 1 [plE (newR of k)] 1 rfl rfl (Rd.one HE3.out rfl) ?c1 ?c2 ?c3 ?_)
      case c1 => rw [newRow_len]; unfold maxLen; simp; omega
      case c2 => rw [newRow_len]; simp; omega
      case c3 => omega
      intro v' w4 ho4 hg4
      obtain ⟨A', c', rfl⟩ := ho4.form
      have hll : (newRow of k ++ [plE (newR of k)]).length = k + 1 := by rw [List.length_append, newRow_len]; rfl
      rw [hll]
      clear hll
      have hpa := box_apart D3.out HRow.out (by decide)
      have hpz := box_apart Z3.out HRow.out (by decide)
      have c4 := chg_grown hg4
      have D4 := (c4.block w1.heap.size (bx_lt D3.out) hpa).trans D3.out
      have Z4 := (c4.block w.heap.size (bx_lt Z3.out) hpz).trans Z3.out
      rw [newRow_next] at ho4
      have hl1 := newRow_len of (k + 1)
      have X4 := chg_low HXw.out c4 (fun g hg => (HRow.out.inB g hg).1)
      have d4 := bx_cell D4
      have f4 := bx_frozen D4
      have z4 := bx_lt D4
      have P4 := box_put D4 1 (.slice A' (k + 1) c')
      simp only [List.setIfInBounds_toArray, List.set_cons_zero, List.set_cons_succ] at P4
      have ho5 : Ow RpE.enc 42 13 w4 w.heap.size (.slice A' (k + 1) c') (newRow of (k + 1)) := by
        have := ho4
        simp only [List.length_append, newRow_len, List.length_singleton] at this
        exact this
      have hpb := box_apart D4 ho5 (by decide)
      have c5 := chg_set (Chg.refl w4 [w1.heap.size]) (p := ⟨w1.heap.size, 1, none⟩) (by simp) (.slice A' (k + 1) c')
      have HF := Lib.hid (show (w4.setCell ⟨w1.heap.size, 1, none⟩ (.slice A' (k + 1) c')).heap[w1.heap.size]? = some (.cells (NG.cells of A' (k + 1) c') 28 (0, 0)) from P4)
      have HG := Lib.hid (ho5.chg c5 (fun x hx hm => by rw [List.mem_singleton] at hm; subst hm; exact hpb hx))
      have HZ5 := Lib.hid (box_chg Z4 c5 (by omega))
      have HX5 := Lib.hid (chg_new X4 c5 (by omega))
      clear c4 c5 P4 ho4 ho5 hg4 D4 Z4 hpa hpb hpz X4 hl1
      go_wp2
      go_roundw
      case rel => exact ⟨k + 1, A', c', by omega, by go_num, HF.out, HG.out, HZ5.out, HX5.out⟩
      case measure => simp [intOf] <;> omega
    · obtain rfl : k = N := by omega
      have g4 : decide ((k : Int) < of) = false := by rw [HN.out]; simp
      have d2 := bx_cell HB.out
      have l2 := bx_lt HB.out
      have d3 := bx_cell HZ.out
      have f3 := bx_frozen HZ.out
      have l3 := bx_lt HZ.out
      go_wp2
      refine bodyPost_ret (v := .agg (NG.cells of A k c)) (by simp [results, Try.results4, go_sem, *]) rfl ⟨A, c, rfl, ?_, ?_⟩
      · have hpz := box_apart HZ.out HR.out (by decide)
        repeat (first | with_reducible exact HR.out | refine own_beside_set ?_ hpz)
      · have hX := HXr.out
        (repeat (first | with_reducible exact ext_refl _ | with_reducible refine ext_to ?_ _ | with_reducible refine ext_set ?_ (by first | (simp; done) | (simp; omega) | omega) _ | with_reducible refine ext_drew ?_ | with_reducible refine Ext.trans ?_ (by assumption)))
theorem c_sNewGroup0 (of : Int) (h : ofB of = false) (w : World) :
    Calls Try.prog 4 #[.int .i64 of] w fun e w' => e = .returned (.agg (NG.cells 0 none 0 0)) ∧ Ext w w' := by
  have X0 := ext_alloc w Gp.zobj
  have hcon := c_l6Of of (w.alloc Gp.zobj)
  rw [h] at hcon
  have HC := Lib.hid hcon
  clear hcon h
  go_enter Try.func4, Try.ntmps4
  go_wp2_with fail
  refine HC.out.mono ?_
  rintro e w1 ⟨rfl, x1⟩
  have B2 := x1.box (hNew (w := w) (o := Gp.zobj) rfl)
  have d3 := bx_cell B2
  have f3 := bx_frozen B2
  have l3 := bx_lt B2
  have HX := Lib.hid (Ext.trans X0 x1)
  clear B2 x1
  go_wp2
  refine bodyPost_ret (v := .agg (NG.cells 0 none 0 0)) (by simp [results, Try.results4, go_sem, *]) rfl ⟨rfl, ?_⟩
  have hX := HX.out
  (repeat (first | with_reducible exact ext_refl _ | with_reducible refine ext_to ?_ _ | with_reducible refine ext_set ?_ (by first | (simp; done) | (simp; omega) | omega) _ | with_reducible refine ext_drew ?_ | with_reducible refine Ext.trans ?_ (by assumption)))

set_option maxRecDepth 100000 in
set_option maxHeartbeats 8000000 in
theorem c_iNewGroup (of : Int) (N : Nat) (h : ofB of = true) (hN : of = (N : Int)) (w : World) :
    Calls Try.prog 5 #[.int .i64 of] w fun e w' => ∃ A c, e = .returned (.agg (NG.cells of A N c)) ∧ Ow RpE.enc 42 13 w' w.heap.size (.slice A N c) (newRow of N) ∧ Ext w w' := by
  obtain ⟨i0, hi, hz0, hz1, hz2⟩ := info_parts Try.infoRp
  have hb := ofB_b h
  have X0 := ext_alloc w Gp.zobj
  have hcon := c_isOf of (w.alloc Gp.zobj)
  rw [h] at hcon
  have HC := Lib.hid hcon
  have HOk := Lib.hid (fun (i : Nat) (hi : (i : Int) < of) => newR_ok h hi)
  have HN := Lib.hid hN
  have hN5 : N ≤ 5 := by omega
  clear hcon h hN hb
  go_enter Try.func5, Try.ntmps5
  go_wp2_with fail
  refine HC.out.mono ?_
  rintro e w1 ⟨rfl, x1⟩
  have B2 := Lib.hid (x1.box (hNew (w := w) (o := Gp.zobj) rfl))
  have HX := Lib.hid (Ext.trans X0 x1)
  have hs1 := x1.size
  simp only [sz_alloc] at hs1
  clear HC x1
  go_wp2
  go_loopw [12] (fun i wr => ∃ (k : Nat) (A : Option Addr) (c : Nat), k ≤ N ∧ i = .int .i64 k ∧ wr.heap[w1.heap.size]? = some (.cells (NG.cells of A k c) 28 (0, 0)) ∧ Ow RpE.enc 42 13 wr w.heap.size (.slice A k c) (newRow of k) ∧ wr.heap[w.heap.size]? = some Gp.zobj ∧ Ext w wr) (fun i _ => N - (intOf i).toNat)
  case atStart => exact ⟨0, none, 0, Nat.zero_le _, rfl, hNew (w := w1) rfl, World.ownsRow_nil _ _ _ _, hOld B2.out, ext_to HX.out _⟩
  case round =>
    obtain ⟨k, A, c, hk, rfl, hbx, hrow, hbz, hxr⟩ := hrel
    have HB := Lib.hid hbx
    have HR := Lib.hid hrow
    have HZ := Lib.hid hbz
    have HXr := Lib.hid hxr
    have hsr := hxr.size
    have hlt0 := bx_lt hbx
    clear hbx hrow hbz hxr
    by_cases hlt : k < N
    · have g4 : decide ((k : Int) < of) = true := by rw [HN.out]; simp; omega
      have hok := Lib.hid (HOk.out k (by rw [HN.out]; omega))
      go_wp2
      (refine Rm.wp_region_mix' (R := relE wr.heap.size) (fun _ _ _ => True) (fun _ _ _ _ _ hq => hq) 6 (by first | exact Nat.le_refl _ | omega | (simp; omega)) (by kernel_rfl) (by kernel_rfl) ?_; simp only [List.take_succ_cons, List.take_zero, List.drop_succ_cons, List.drop_zero])
      (iterate 1 (refine Rm.wpMix_plain rfl rfl ?_; go_big_quiet_step (fail); refine wpQuiet_nil ?_))
      (refine Rm.wpMix_load1 (fun W9' h9 => bx_cell (Ext.box h9 HB.out) 1) rfl rfl rfl Try.underlying22 rfl ?_; simp only [Act.put, List.setIfInBounds_toArray, List.set_cons_zero, List.set_cons_succ])
      (iterate 2 (refine Rm.wpMix_plain rfl rfl ?_; go_big_quiet_step (fail); refine wpQuiet_nil ?_))
      (refine Rm.wpMix_det rfl rfl rfl (enters Try.func12 (by kernel_rfl) rfl) (fun W9' h9 => c_iNewReplica of k hok.out W9') rfl ?_; simp only [Act.put, List.setIfInBounds_toArray, List.set_cons_zero, List.set_cons_succ])
      (refine Rm.wpMix_alloc (.cells (NR.cells of k) 42) rfl (fun W => by kernel_rfl) ?_; intro p1 hp1 hps1 hpi1; simp only [layVal, Act.put, List.setIfInBounds_toArray, List.set_cons_zero, List.set_cons_succ])
      refine Rm.wpMix_nil ?_
      rintro W3 ⟨X3, E3⟩
      have X3' : Ext wr W3 := X3
      have D3 := Lib.hid (X3'.box HB.out)
      have Z3 := Lib.hid (X3'.box HZ.out)
      have HXw := Lib.hid (Ext.trans HXr.out X3')
      have HRow := Lib.hid (HR.out.kept X3')
      have HE3 := Lib.hid E3
      have hs3 := X3'.size
      clear X3 X3' E3 hp1 hps1 hpi1 HB HR HZ g4
      go_wp2_with (at_builtin; refine wl_app (enc := RpE.enc) rfl _ _ 22 rfl w.heap.size 42 i0 Rp.zero 13 168 Try.underlying22 hi hz0 hz1 hz2 rfl (by decide) RpE.len RpE.one (.slice A k c) (newRow of k) rfl HRow.out (some ⟨p1, 0, none⟩) 1 [plE (newR of k)] 1 rfl rfl (Rd.one HE3.out rfl) ?c1 ?c2 ?c3 ?_)
      case c1 => rw [newRow_len]; unfold maxLen; simp; omega
      case c2 => rw [newRow_len]; simp; omega
      case c3 => omega
      intro v' w4 ho4 hg4
      obtain ⟨A', c', rfl⟩ := ho4.form
      have hll : (newRow of k ++ [plE (newR of k)]).length = k + 1 := by rw [List.length_append, newRow_len]; rfl
      rw [hll]
      clear hll
      have hpa := box_apart D3.out HRow.out (by decide)
      have hpz := box_apart Z3.out HRow.out (by decide)
      have c4 := chg_grown hg4
      have D4 := (c4.block w1.heap.size (bx_lt D3.out) hpa).trans D3.out
      have Z4 := (c4.block w.heap.size (bx_lt Z3.out) hpz).trans Z3.out
      rw [newRow_next] at ho4
      have hl1 := newRow_len of (k + 1)
      have X4 := chg_low HXw.out c4 (fun g hg => (HRow.out.inB g hg).1)
      have d4 := bx_cell D4
      have f4 := bx_frozen D4
      have z4 := bx_lt D4
      have P4 := box_put D4 1 (.slice A' (k + 1) c')
      simp only [List.setIfInBounds_toArray, List.set_cons_zero, List.set_cons_succ] at P4
      have ho5 : Ow RpE.enc 42 13 w4 w.heap.size (.slice A' (k + 1) c') (newRow of (k + 1)) := by
        have := ho4
        simp only [List.length_append, newRow_len, List.length_singleton] at this
        exact this
      have hpb := box_apart D4 ho5 (by decide)
      have c5 := chg_set (Chg.refl w4 [w1.heap.size]) (p := ⟨w1.heap.size, 1, none⟩) (by simp) (.slice A' (k + 1) c')
      have HF := Lib.hid (show (w4.setCell ⟨w1.heap.size, 1, none⟩ (.slice A' (k + 1) c')).heap[w1.heap.size]? = some (.cells (NG.cells of A' (k + 1) c') 28 (0, 0)) from P4)
      have HG := Lib.hid (ho5.chg c5 (fun x hx hm => by rw [List.mem_singleton] at hm; subst hm; exact hpb hx))
      have HZ5 := Lib.hid (box_chg Z4 c5 (by omega))
      have HX5 := Lib.hid (chg_new X4 c5 (by omega))
      clear c4 c5 P4 ho4 ho5 hg4 D4 Z4 hpa hpb hpz X4 hl1
      go_wp2
      go_roundw
      case rel => exact ⟨k + 1, A', c', by omega, by go_num, HF.out, HG.out, HZ5.out, HX5.out⟩
      case measure => simp [intOf] <;> omega
    · obtain rfl : k = N := by omega
      have g4 : decide ((k : Int) < of) = false := by rw [HN.out]; simp
      have d2 := bx_cell HB.out
      have l2 := bx_lt HB.out
      have d3 := bx_cell HZ.out
      have f3 := bx_frozen HZ.out
      have l3 := bx_lt HZ.out
      go_wp2
      refine bodyPost_ret (v := .agg (NG.cells of A k c)) (by simp [results, Try.results5, go_sem, *]) rfl ⟨A, c, rfl, ?_, ?_⟩
      · have hpz := box_apart HZ.out HR.out (by decide)
        repeat (first | with_reducible exact HR.out | refine own_beside_set ?_ hpz)
      · have hX := HXr.out
        (repeat (first | with_reducible exact ext_refl _ | with_reducible refine ext_to ?_ _ | with_reducible refine ext_set ?_ (by first | (simp; done) | (simp; omega) | omega) _ | with_reducible refine ext_drew ?_ | with_reducible refine Ext.trans ?_ (by assumption)))
theorem c_iNewGroup0 (of : Int) (h : ofB of = false) (w : World) :
    Calls Try.prog 5 #[.int .i64 of] w fun e w' => e = .returned (.agg (NG.cells 0 none 0 0)) ∧ Ext w w' := by
  have X0 := ext_alloc w Gp.zobj
  have hcon := c_isOf of (w.alloc Gp.zobj)
  rw [h] at hcon
  have HC := Lib.hid hcon
  clear hcon h
  go_enter Try.func5, Try.ntmps5
  go_wp2_with fail
  refine HC.out.mono ?_
  rintro e w1 ⟨rfl, x1⟩
  have B2 := x1.box (hNew (w := w) (o := Gp.zobj) rfl)
  have d3 := bx_cell B2
  have f3 := bx_frozen B2
  have l3 := bx_lt B2
  have HX := Lib.hid (Ext.trans X0 x1)
  clear B2 x1
  go_wp2
  refine bodyPost_ret (v := .agg (NG.cells 0 none 0 0)) (by simp [results, Try.results5, go_sem, *]) rfl ⟨rfl, ?_⟩
  have hX := HX.out
  (repeat (first | with_reducible exact ext_refl _ | with_reducible refine ext_to ?_ _ | with_reducible refine ext_set ?_ (by first | (simp; done) | (simp; omega) | omega) _ | with_reducible refine ext_drew ?_ | with_reducible refine Ext.trans ?_ (by assumption)))

end Go.Proofs.Ytmphedkbdlckhaa
