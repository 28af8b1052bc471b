/- Slices of ranges: the laws' own functions on them. -/
import Derived.Test.YtinfkgbgeajphaaRng
import Derived.OwnWalk
namespace Go.Proofs.Ytinfkgbgeajphaa
open Go.ChangeShapes Go.WideShapes Go.ChangeAt Go.RowKit Go.Sort
set_option linter.unusedVariables false

theorem Rng.enc_len (r : Rng) : r.enc.length = 2 := rfl

theorem Rd.atRng {w : World} {A : Option Addr} {c : Nat} {l : List Rng} (h : Rd Rng.enc 2 w A c l) {k : Nat} (hk : k < l.length) : ∃ b o, A = some ⟨b, o, none⟩ ∧ b < w.heap.size ∧
    w.cell? ⟨b, o + k * 2, none⟩ = some (.int .i64 l[k].lo) ∧ w.cell? ⟨b, o + k * 2 + 1, none⟩ = some (.int .i64 l[k].hi) := by
  obtain ⟨b, o, e, hlt, hc⟩ := h.2.2 (by omega)
  exact ⟨b, o, e, hlt, hc k hk 0 _ rfl, hc k hk 1 _ rfl⟩

theorem c_eqRange' (lo hi lo' hi' : Int) (w : World) : Calls Try.prog 26 #[.agg #[.int .i64 lo, .int .i64 hi], .agg #[.int .i64 lo', .int .i64 hi']] w fun e w' => e = .returned (.bool (eqB (⟨lo, hi⟩ : Rng) ⟨lo', hi'⟩)) ∧ Ext w w' := by
  go_enter Try.func26, Try.ntmps26
  go_wp2
  all_goals
    go_ret
    refine ⟨ret_bool ?_, ?_⟩
    · simp [eqB, *]
      try (simp at *; simp [*])
    · (repeat (first | with_reducible exact ext_refl _ | with_reducible refine ext_to ?_ _ | with_reducible refine ext_set ?_ (by first | (simp; done) | (simp; omega) | omega) _ | with_reducible refine ext_drew ?_ | with_reducible refine Ext.trans ?_ (by assumption)))

theorem c_szRangeS_le (A : Option Addr) (n c : Nat) (left : Int) (h0 : 0 ≤ left) (h1 : left ≤ 1048576) (hn : (n : Int) ≤ 9223372036854775807) (h : (n : Int) ≤ left) (w : World) :
    Calls Try.prog 27 #[.slice A n c, .int .i64 left] w fun e w' => e = .returned (.int .i64 (left - n)) ∧ Ext w w' := by
  go_enter Try.func27, Try.ntmps27
  go_wp2
  go_ret
  exact ⟨rfl, ext_refl _⟩

theorem c_szRangeS_gt (A : Option Addr) (n c : Nat) (left : Int) (h0 : 0 ≤ left) (h1 : left ≤ 1048576) (hn : (n : Int) ≤ 9223372036854775807) (h : left < (n : Int)) (w : World) :
    Calls Try.prog 27 #[.slice A n c, .int .i64 left] w fun e w' => e = .returned (.int .i64 (-1)) ∧ Ext w w' := by
  go_enter Try.func27, Try.ntmps27
  go_wp2
  go_ret
  exact ⟨rfl, ext_refl _⟩

theorem Try.infoRng : (Try.prog.info? 25).map (fun i => (i.zero, i.size, i.bytes)) = some (some (.agg #[.int .i64 0, .int .i64 0]), 2, 16) := by kernel_rfl

set_option maxHeartbeats 1000000 in
theorem c_toRangeS (A : Option Addr) (c : Nat) (l : List Rng) (w : World) (ha : Rd Rng.enc 2 w A c l) (hn : l.length ≤ 1048576) :
    Calls Try.prog 29 #[.slice A l.length c] w fun e w' => ∃ g, e = .returned (.slice (some ⟨g, 0, none⟩) l.length l.length) ∧ Ow Rng.enc 25 2 w' w.heap.size (.slice (some ⟨g, 0, none⟩) l.length l.length) l ∧ Ext w w' := by
  obtain ⟨i0, hi, hz0, hz1, hz2⟩ := info_parts Try.infoRng
  have hcap2 : (l.length : Int) ≤ 9223372036854775807 := by omega
  go_enter Try.func29, Try.ntmps29
  go_wp2_with (at_make; refine wpList_make_full _ rfl _ _ 35 rfl w.heap.size 25 i0 (.agg #[.int .i64 0, .int .i64 0]) 2 Try.underlying35 hi hz0 hz1 .i64 .i64 _ _ l.length rfl rfl rfl rfl ?c1 ?c2 ?c3 ?_)
  case c1 => rw [hz2]; omega
  case c2 => unfold maxLen; omega
  case c3 => simp
  intro w1 hown hgr
  have hx1 : Ext w w1 := Below.grown (Below.refl _ _) hgr (Nat.le_refl _) (fun k hk => by cases hk)
  have hgl : w.heap.size < w1.heap.size := (World.ownsRow.lt hown _ rfl).2
  obtain ⟨g, hgv⟩ : ∃ g, g = w.heap.size := ⟨_, rfl⟩
  have hown' : w1.ownsRow w.heap.size 25 2 (.slice (some ⟨g, 0, none⟩) l.length l.length) l.length ((madeCells (.agg #[.int .i64 0, .int .i64 0] : Value).cells (l.length * 2)).toList) := by rw [hgv]; exact hown
  have hlen : ((madeCells (.agg #[.int .i64 0, .int .i64 0] : Value).cells (l.length * 2)).toList).length = l.length * 2 := by simp [size_madeCells]
  generalize (madeCells (.agg #[.int .i64 0, .int .i64 0] : Value).cells (l.length * 2)).toList = zs at hown' hlen
  have hgB : w.heap.size ≤ g := by omega
  have hgl : g < w1.heap.size := by omega
  rw [← hgv]
  clear hown hgv hgr hz0 hz1 hz2 hi
  go_wp2
  go_loopw [4] (fun i wr => ∃ k : Nat, k ≤ l.length ∧ i = .int .i64 k ∧ wr.ownsRow w.heap.size 25 2 (.slice (some ⟨g, 0, none⟩) l.length l.length) l.length ((l.take k).flatMap Rng.enc ++ zs.drop (k * 2)) ∧ Ext w wr ∧ g < wr.heap.size) (fun i _ => l.length - (intOf i).toNat)
  case atStart => exact ⟨0, Nat.zero_le _, rfl, by simpa using hown', hx1, hgl⟩
  case round =>
    obtain ⟨k, hk, rfl, hownk, hxr, hgr⟩ := hrel
    by_cases hlt : k < l.length
    · obtain ⟨b, o, rfl, hb, a0, a1⟩ := (ha.keep hxr).atRng hlt
      have hlk := hownk.1
      obtain ⟨x0, e0⟩ : ∃ x, wr.cell? ⟨g, k * 2, none⟩ = some x := ⟨_, (World.ownsRow.cellAt hownk (k * 2) (by omega)).trans (List.getElem?_eq_getElem (by omega))⟩
      obtain ⟨x1, e1⟩ : ∃ x, wr.cell? ⟨g, k * 2 + 1, none⟩ = some x := ⟨_, (World.ownsRow.cellAt hownk (k * 2 + 1) (by omega)).trans (List.getElem?_eq_getElem (by omega))⟩
      have hfz := World.ownsRow.frozenAt hownk
      have HO := Lib.hid hownk
      clear hlk hownk
      go_wp2_with (go_at_call 20; refine (c_toRange _ _ _).mono ?_; rintro e w2 ⟨rfl, hx2⟩; obtain ⟨hc1, hf1, hs1⟩ := hx2.rules)
      have s0 := World.ownsRow.stored (ownsRow_ext HO.out hx2) (k * 2) (.int .i64 l[k].lo)
      have s1 := World.ownsRow.stored s0.1 (k * 2 + 1) (.int .i64 l[k].hi)
      have hnext := setAll_next Rng.enc_len l zs k hlt hlen
      go_roundw
      case rel => exact ⟨k + 1, by omega, by go_num, ownsRow_congr s1.1 hnext, ext_set (ext_set (Ext.trans hxr hx2) hgB _) hgB _, by simp; omega⟩
      case measure => simp [intOf]; omega
    · have hkl : k = l.length := by omega
      go_wp2
      go_ret
      refine ⟨g, rfl, ?_, hxr⟩
      unfold Ow
      refine ownsRow_congr hownk ?_
      rw [hkl, List.take_length, List.drop_eq_nil_of_le (by omega), List.append_nil]

set_option maxHeartbeats 1000000 in
theorem c_eqRangeS (A B : Option Addr) (ca cb : Nat) (a b : List Rng) (w : World) (ha : Rd Rng.enc 2 w A ca a) (hb : Rd Rng.enc 2 w B cb b) (hn : a.length ≤ 1099511627776) (hn2 : b.length ≤ 1099511627776) :
    Calls Try.prog 31 #[.slice A a.length ca, .slice B b.length cb] w fun e w' => e = .returned (.bool (eqB a b)) ∧ Ext w w' := by
  by_cases hl : a.length = b.length
  · have hl' : ((a.length : Int) != (b.length : Int)) = false := by simp [hl]
    have HL := Lib.hid hl
    clear hl
    go_enter Try.func31, Try.ntmps31
    go_wp2
    go_loopw [5] (fun i wr => ∃ k : Nat, k ≤ a.length ∧ i = .int .i64 k ∧ a.take k = b.take k ∧ Ext w wr) (fun i _ => a.length - (intOf i).toNat)
    case atStart => exact ⟨0, Nat.zero_le _, rfl, by simp, ext_refl _⟩
    case round =>
      obtain ⟨k, hk, rfl, ht, hx⟩ := hrel
      have HT := Lib.hid ht
      clear ht
      by_cases hlt : k < a.length
      · have hltb : k < b.length := by have := HL.out; omega
        obtain ⟨ab, ao, rfl, hab, a0, a1⟩ := (ha.keep hx).atRng hlt
        obtain ⟨bb, bo, rfl, hbb, b0, b1⟩ := (hb.keep hx).atRng hltb
        by_cases he : a[k] = b[k]
        · have he' : eqB (⟨a[k].lo, a[k].hi⟩ : Rng) ⟨b[k].lo, b[k].hi⟩ = true := eqB_true he
          have HE := Lib.hid he
          clear he
          go_wp2
          (refine wp_region_mix' (fun _ _ _ _ _ hq => hq) 10 (by kernel_rfl) (by kernel_rfl) (fun hg => ?_); simp only [headOps, List.take_succ_cons, List.take_zero, List.filter_cons, List.filter_nil, isAlloc, Bool.not_false, Bool.false_eq_true, if_true, if_false, List.append_nil, List.drop_succ_cons, List.drop_zero])
          (repeat (refine wpMix_plain rfl rfl ?_; go_big_quiet_step (fail); refine wpQuiet_nil ?_))
          (refine wpMix_det rfl rfl rfl (enters Try.func26 (by kernel_rfl) rfl) (fun W hW => c_eqRange' _ _ _ _ W) rfl ?_; simp only [Act.put, List.setIfInBounds_toArray, List.set_cons_zero, List.set_cons_succ])
          (repeat (refine wpMix_plain rfl rfl ?_; go_big_quiet_step (fail); refine wpQuiet_nil ?_))
          refine wpMix_nil ?_
          intro w2 hx2
          go_wp2
          go_roundw
          case rel => exact ⟨k + 1, by omega, by go_num, take_eq_next hlt hltb HT.out HE.out, Ext.trans hx hx2⟩
          case measure => simp [intOf]; omega
        · have he' : eqB (⟨a[k].lo, a[k].hi⟩ : Rng) ⟨b[k].lo, b[k].hi⟩ = false := eqB_false he
          have hne : eqB a b = false := eqB_false (by rintro rfl; exact he rfl)
          have HN := Lib.hid hne
          clear he hne
          go_wp2
          (refine wp_region_mix' (fun _ _ _ _ _ hq => hq) 10 (by kernel_rfl) (by kernel_rfl) (fun hg => ?_); simp only [headOps, List.take_succ_cons, List.take_zero, List.filter_cons, List.filter_nil, isAlloc, Bool.not_false, Bool.false_eq_true, if_true, if_false, List.append_nil, List.drop_succ_cons, List.drop_zero])
          (repeat (refine wpMix_plain rfl rfl ?_; go_big_quiet_step (fail); refine wpQuiet_nil ?_))
          (refine wpMix_det rfl rfl rfl (enters Try.func26 (by kernel_rfl) rfl) (fun W hW => c_eqRange' _ _ _ _ W) rfl ?_; simp only [Act.put, List.setIfInBounds_toArray, List.set_cons_zero, List.set_cons_succ])
          (repeat (refine wpMix_plain rfl rfl ?_; go_big_quiet_step (fail); refine wpQuiet_nil ?_))
          refine wpMix_nil ?_
          intro w2 hx2
          go_wp2
          go_ret
          exact ⟨ret_bool (by rw [HN.out]), Ext.trans hx hx2⟩
      · have hkl : k = a.length := by omega
        go_wp2
        go_ret
        refine ⟨ret_bool ?_, hx⟩
        have h1 := HT.out
        rw [hkl, List.take_length, HL.out, List.take_length] at h1
        exact (eqB_true h1).symm
  · have hl' : ((a.length : Int) != (b.length : Int)) = true := by simp; omega
    have hne : eqB a b = false := eqB_false (by rintro rfl; exact hl rfl)
    have HN := Lib.hid hne
    clear hl hne
    go_enter Try.func31, Try.ntmps31
    go_wp2
    go_ret
    exact ⟨ret_bool (by rw [HN.out]), ext_refl _⟩

def Rng.mark (k : Int) (i : Nat) : Rng := ⟨k + 2 * i, k + 2 * i + 1⟩

def marksRng (k : Int) (n : Nat) : List Rng := (List.range n).map (Rng.mark k)

set_option maxHeartbeats 1000000 in
theorem c_markRangeS (A : Option Addr) (c : Nat) (l : List Rng) (B : Nat) (k : Int) (w : World) (h : Ow Rng.enc 25 2 w B (.slice A l.length c) l) (h0 : 0 ≤ k) (h1 : k ≤ 1099511627776) (hn : l.length ≤ 1099511627776) :
    Calls Try.prog 55 #[.slice A l.length c, .int .i64 k] w fun e w' => e = .returned (.int .i64 (k + 2 * l.length)) ∧ Ow Rng.enc 25 2 w' B (.slice A l.length c) (marksRng k l.length) ∧ w.grownBy w' (Value.slice A l.length c).ownBlock := by
  unfold Ow at h
  go_enter Try.func55, Try.ntmps55
  go_wp2
  go_loopw [1, 5] (fun q i wr => ∃ j : Nat, j ≤ l.length ∧ i = .int .i64 j ∧ q = .int .i64 (k + 2 * j) ∧ wr.ownsRow B 25 2 (.slice A l.length c) l.length ((mixed (Rng.mark k) l j).flatMap Rng.enc) ∧ w.grownBy wr (Value.slice A l.length c).ownBlock) (fun _ i _ => l.length - (intOf i).toNat)
  case atStart => exact ⟨0, Nat.zero_le _, rfl, by simp, by rw [mixed_zero]; exact h, World.grownBy.refl _ _⟩
  case round =>
    obtain ⟨j, hj, rfl, rfl, hown, hgr⟩ := hrel
    by_cases hlt : j < l.length
    · obtain ⟨g, rfl, hgB, hgl⟩ := ownsRow_form hown (by omega)
      obtain ⟨x0, e0⟩ : ∃ x, wr.cell? ⟨g, j * 2, none⟩ = some x := ⟨_, (World.ownsRow.cellAt hown (j * 2) (by omega)).trans (List.getElem?_eq_getElem (by rw [hown.1]; omega))⟩
      obtain ⟨x1, e1⟩ : ∃ x, wr.cell? ⟨g, j * 2 + 1, none⟩ = some x := ⟨_, (World.ownsRow.cellAt hown (j * 2 + 1) (by omega)).trans (List.getElem?_eq_getElem (by rw [hown.1]; omega))⟩
      have hfz := World.ownsRow.frozenAt hown
      have HO := Lib.hid hown
      have HG := Lib.hid hgr
      clear hown h hgr
      go_wp2
      have s0 := World.ownsRow.stored HO.out (j * 2) (.int .i64 (k + 2 * j))
      have s1 := World.ownsRow.stored s0.1 (j * 2 + 1) (.int .i64 (k + 2 * j + 1))
      have hnext := setAll_mixed Rng.enc_len (Rng.mark k) l j hlt
      go_roundw
      case rel => exact ⟨j + 1, by omega, by go_num, by go_num, ownsRow_congr s1.1 hnext, grown_trans HG.out (grown_trans s0.2 (s1.2))⟩
      case measure => simp [intOf]; omega
    · have hkl : j = l.length := by omega
      go_wp2
      go_ret
      refine ⟨ret_int (by first | rfl | omega), ?_, hgr⟩
      unfold Ow marksRng
      rw [List.length_map, List.length_range]
      exact ownsRow_congr hown (by rw [hkl, mixed_all])

theorem heldRng_at (k : Int) (n j : Nat) (hj : j < n) : (marksRng k n)[j]'(by simpa [marksRng] using hj) = ⟨k + 2 * j, k + 2 * j + 1⟩ := by simp [marksRng, Rng.mark]

theorem marksRng_length (k : Int) (n : Nat) : (marksRng k n).length = n := by simp [marksRng]

set_option maxHeartbeats 1000000 in
theorem c_heldRangeS (A : Option Addr) (c : Nat) (n : Nat) (k : Int) (w : World) (h : Rd Rng.enc 2 w A c (marksRng k n)) (h0 : 0 ≤ k) (h1 : k ≤ 1099511627776) (hn : n ≤ 1099511627776) :
    Calls Try.prog 56 #[.slice A n c, .int .i64 k] w fun e w' => e = .returned (.int .i64 (k + 2 * n)) ∧ Ext w w' := by
  go_enter Try.func56, Try.ntmps56
  go_wp2
  go_loop [1, 5] (fun q i => ∃ j : Nat, j ≤ n ∧ i = .int .i64 j ∧ q = .int .i64 (k + 2 * j)) (fun _ i => n - (intOf i).toNat)
  case atStart => exact ⟨0, Nat.zero_le _, rfl, by simp⟩
  case round =>
    obtain ⟨j, hj, rfl, rfl⟩ := hrel
    by_cases hlt : j < n
    · have hlt' : j < (marksRng k n).length := by rw [marksRng_length]; exact hlt
      obtain ⟨b, o, rfl, hb, a0, a1⟩ := h.atRng hlt'
      rw [heldRng_at k n j hlt] at a0 a1
      dsimp only at a0 a1
      have t0 : ((k + 2 * (j : Int)) != (k + 2 * (j : Int))) = false := by simp
      have t1 : ((k + 2 * (j : Int) + 1) != (k + 2 * (j : Int) + 1)) = false := by simp
      clear h
      go_wp2
      go_round
      case rel => exact ⟨j + 1, by omega, by go_num, by go_num⟩
      case measure => simp [intOf]; omega
    · have hkl : j = n := by omega
      go_wp2
      go_ret
      exact ⟨ret_int (by first | rfl | omega), ext_refl _⟩
end Go.Proofs.Ytinfkgbgeajphaa
