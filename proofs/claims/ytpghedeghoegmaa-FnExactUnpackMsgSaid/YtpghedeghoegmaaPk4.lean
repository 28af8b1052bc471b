/- The laws' own functions on cells, seats, entries. -/
import Derived.Test.YtpghedeghoegmaaPk2
import Derived.Test.YtpghedeghoegmaaProg
import Derived.OwnWalk
namespace Go.Proofs.Ytpghedeghoegmaa
open Go.ChangeShapes Go.WideShapes Go.ChangeAt Go.RowKit Go.Sort
set_option linter.unusedVariables false
set_option linter.unusedSimpArgs false

theorem Cel.enc_len (r : Cel) : r.enc.length = 2 := rfl

theorem Rd.atCel {w : World} {A : Option Addr} {c : Nat} {l : List Cel} (h : Rd Cel.enc 2 w A c l) {k : Nat} (hk : k < l.length) : ∃ b o, A = some ⟨b, o, none⟩ ∧ b < w.heap.size ∧
    w.cell? ⟨b, o + k * 2, none⟩ = some (.int .i64 l[k].key) ∧ w.cell? ⟨b, o + k * 2 + 1, none⟩ = some (.int .i64 l[k].value) := by
  obtain ⟨b, o, e, hlt, hc⟩ := h.2.2 (by omega)
  exact ⟨b, o, e, hlt, hc k hk 0 _ rfl, hc k hk 1 _ rfl⟩

theorem c_eqCell' (key value key' value' : Int) (w : World) : Calls Try.prog 133 #[.agg #[.int .i64 key, .int .i64 value], .agg #[.int .i64 key', .int .i64 value']] w fun e w' => e = .returned (.bool (eqB (⟨key, value⟩ : Cel) ⟨key', value'⟩)) ∧ Ext w w' := by
  go_enter Try.func133, Try.ntmps133
  go_wp2
  all_goals
    go_ret
    refine ⟨ret_bool ?_, ?_⟩
    · simp [eqB, *]
      try (simp at *; simp [*])
    · (repeat (first | with_reducible exact ext_refl _ | with_reducible refine ext_to ?_ _ | with_reducible refine ext_set ?_ (by first | (simp; done) | (simp; omega) | omega) _ | with_reducible refine ext_drew ?_ | with_reducible refine Ext.trans ?_ (by assumption)))

theorem Try.infoCel : (Try.prog.info? 101).map (fun i => (i.zero, i.size, i.bytes)) = some (some (.agg #[.int .i64 0, .int .i64 0]), 2, 16) := by kernel_rfl

set_option maxHeartbeats 1000000 in
theorem c_eqCellS (A B : Option Addr) (ca cb : Nat) (a b : List Cel) (w : World) (ha : Rd Cel.enc 2 w A ca a) (hb : Rd Cel.enc 2 w B cb b) (hn : a.length ≤ 1099511627776) (hn2 : b.length ≤ 1099511627776) :
    Calls Try.prog 118 #[.slice A a.length ca, .slice B b.length cb] w fun e w' => e = .returned (.bool (eqB a b)) ∧ Ext w w' := by
  by_cases hl : a.length = b.length
  · have hl' : ((a.length : Int) != (b.length : Int)) = false := by simp [hl]
    have HL := Lib.hid hl
    clear hl
    go_enter Try.func118, Try.ntmps118
    go_wp2
    go_loopw [5] (fun i wr => ∃ k : Nat, k ≤ a.length ∧ i = .int .i64 k ∧ a.take k = b.take k ∧ Ext w wr) (fun i _ => a.length - (intOf i).toNat)
    case atStart => exact ⟨0, Nat.zero_le _, rfl, by simp, ext_refl _⟩
    case round =>
      obtain ⟨k, hk, rfl, ht, hx⟩ := hrel
      have HT := Lib.hid ht
      clear ht
      by_cases hlt : k < a.length
      · have hltb : k < b.length := by have := HL.out; omega
        obtain ⟨ab, ao, rfl, hab, a0, a1⟩ := (ha.keep hx).atCel hlt
        obtain ⟨bb, bo, rfl, hbb, b0, b1⟩ := (hb.keep hx).atCel hltb
        by_cases he : a[k] = b[k]
        · have he' : eqB (⟨a[k].key, a[k].value⟩ : Cel) ⟨b[k].key, b[k].value⟩ = true := eqB_true he
          have HE := Lib.hid he
          clear he
          go_wp2
          (refine wp_region_mix' (fun _ _ _ _ _ hq => hq) 10 (by kernel_rfl) (by kernel_rfl) (fun hg => ?_); simp only [headOps, List.take_succ_cons, List.take_zero, List.filter_cons, List.filter_nil, isAlloc, Bool.not_false, Bool.false_eq_true, if_true, if_false, List.append_nil, List.drop_succ_cons, List.drop_zero])
          (repeat (refine wpMix_plain rfl rfl ?_; go_big_quiet_step (fail); refine wpQuiet_nil ?_))
          (refine wpMix_det rfl rfl rfl (enters Try.func133 (by kernel_rfl) rfl) (fun W hW => c_eqCell' _ _ _ _ W) rfl ?_; simp only [Act.put, List.setIfInBounds_toArray, List.set_cons_zero, List.set_cons_succ])
          (repeat (refine wpMix_plain rfl rfl ?_; go_big_quiet_step (fail); refine wpQuiet_nil ?_))
          refine wpMix_nil ?_
          intro w2 hx2
          go_wp2
          go_roundw
          case rel => exact ⟨k + 1, by omega, by go_num, take_eq_next hlt hltb HT.out HE.out, Ext.trans hx hx2⟩
          case measure => simp [intOf]; omega
        · have he' : eqB (⟨a[k].key, a[k].value⟩ : Cel) ⟨b[k].key, b[k].value⟩ = false := eqB_false he
          have hne : eqB a b = false := eqB_false (by rintro rfl; exact he rfl)
          have HN := Lib.hid hne
          clear he hne
          go_wp2
          (refine wp_region_mix' (fun _ _ _ _ _ hq => hq) 10 (by kernel_rfl) (by kernel_rfl) (fun hg => ?_); simp only [headOps, List.take_succ_cons, List.take_zero, List.filter_cons, List.filter_nil, isAlloc, Bool.not_false, Bool.false_eq_true, if_true, if_false, List.append_nil, List.drop_succ_cons, List.drop_zero])
          (repeat (refine wpMix_plain rfl rfl ?_; go_big_quiet_step (fail); refine wpQuiet_nil ?_))
          (refine wpMix_det rfl rfl rfl (enters Try.func133 (by kernel_rfl) rfl) (fun W hW => c_eqCell' _ _ _ _ W) rfl ?_; simp only [Act.put, List.setIfInBounds_toArray, List.set_cons_zero, List.set_cons_succ])
          (repeat (refine wpMix_plain rfl rfl ?_; go_big_quiet_step (fail); refine wpQuiet_nil ?_))
          refine wpMix_nil ?_
          intro w2 hx2
          go_wp2
          go_ret
          exact ⟨ret_bool (by rw [HN.out]), Ext.trans hx hx2⟩
      · have hkl : k = a.length := by omega
        go_wp2
        go_ret
        refine ⟨ret_bool ?_, hx⟩
        have h1 := HT.out
        rw [hkl, List.take_length, HL.out, List.take_length] at h1
        exact (eqB_true h1).symm
  · have hl' : ((a.length : Int) != (b.length : Int)) = true := by simp; omega
    have hne : eqB a b = false := eqB_false (by rintro rfl; exact hl rfl)
    have HN := Lib.hid hne
    clear hl hne
    go_enter Try.func118, Try.ntmps118
    go_wp2
    go_ret
    exact ⟨ret_bool (by rw [HN.out]), ext_refl _⟩

def Cel.mark (k : Int) (i : Nat) : Cel := ⟨k + 2 * i, k + 2 * i + 1⟩

def marksCel (k : Int) (n : Nat) : List Cel := (List.range n).map (Cel.mark k)

set_option maxHeartbeats 1000000 in
theorem c_markCellS (A : Option Addr) (c : Nat) (l : List Cel) (B : Nat) (k : Int) (w : World) (h : Ow Cel.enc 101 2 w B (.slice A l.length c) l) (h0 : 0 ≤ k) (h1 : k ≤ 1099511627776) (hn : l.length ≤ 1099511627776) :
    Calls Try.prog 121 #[.slice A l.length c, .int .i64 k] w fun e w' => e = .returned (.int .i64 (k + 2 * l.length)) ∧ Ow Cel.enc 101 2 w' B (.slice A l.length c) (marksCel k l.length) ∧ w.grownBy w' (Value.slice A l.length c).ownBlock := by
  unfold Ow at h
  go_enter Try.func121, Try.ntmps121
  go_wp2
  go_loopw [1, 5] (fun q i wr => ∃ j : Nat, j ≤ l.length ∧ i = .int .i64 j ∧ q = .int .i64 (k + 2 * j) ∧ wr.ownsRow B 101 2 (.slice A l.length c) l.length ((mixed (Cel.mark k) l j).flatMap Cel.enc) ∧ w.grownBy wr (Value.slice A l.length c).ownBlock) (fun _ i _ => l.length - (intOf i).toNat)
  case atStart => exact ⟨0, Nat.zero_le _, rfl, by simp, by rw [mixed_zero]; exact h, World.grownBy.refl _ _⟩
  case round =>
    obtain ⟨j, hj, rfl, rfl, hown, hgr⟩ := hrel
    by_cases hlt : j < l.length
    · obtain ⟨g, rfl, hgB, hgl⟩ := ownsRow_form hown (by omega)
      obtain ⟨x0, e0⟩ : ∃ x, wr.cell? ⟨g, j * 2, none⟩ = some x := ⟨_, (World.ownsRow.cellAt hown (j * 2) (by omega)).trans (List.getElem?_eq_getElem (by rw [hown.1]; omega))⟩
      obtain ⟨x1, e1⟩ : ∃ x, wr.cell? ⟨g, j * 2 + 1, none⟩ = some x := ⟨_, (World.ownsRow.cellAt hown (j * 2 + 1) (by omega)).trans (List.getElem?_eq_getElem (by rw [hown.1]; omega))⟩
      have hfz := World.ownsRow.frozenAt hown
      have HO := Lib.hid hown
      have HG := Lib.hid hgr
      clear hown h hgr
      go_wp2
      have s0 := World.ownsRow.stored HO.out (j * 2) (.int .i64 (k + 2 * j))
      have s1 := World.ownsRow.stored s0.1 (j * 2 + 1) (.int .i64 (k + 2 * j + 1))
      have hnext := setAll_mixed Cel.enc_len (Cel.mark k) l j hlt
      go_roundw
      case rel => exact ⟨j + 1, by omega, by go_num, by go_num, ownsRow_congr s1.1 hnext, grown_trans HG.out (grown_trans s0.2 (s1.2))⟩
      case measure => simp [intOf]; omega
    · have hkl : j = l.length := by omega
      go_wp2
      go_ret
      refine ⟨ret_int (by first | rfl | omega), ?_, hgr⟩
      unfold Ow marksCel
      rw [List.length_map, List.length_range]
      exact ownsRow_congr hown (by rw [hkl, mixed_all])

theorem heldCel_at (k : Int) (n j : Nat) (hj : j < n) : (marksCel k n)[j]'(by simpa [marksCel] using hj) = ⟨k + 2 * j, k + 2 * j + 1⟩ := by simp [marksCel, Cel.mark]

theorem marksCel_length (k : Int) (n : Nat) : (marksCel k n).length = n := by simp [marksCel]

set_option maxHeartbeats 1000000 in
theorem c_heldCellS (A : Option Addr) (c : Nat) (n : Nat) (k : Int) (w : World) (h : Rd Cel.enc 2 w A c (marksCel k n)) (h0 : 0 ≤ k) (h1 : k ≤ 1099511627776) (hn : n ≤ 1099511627776) :
    Calls Try.prog 123 #[.slice A n c, .int .i64 k] w fun e w' => e = .returned (.int .i64 (k + 2 * n)) ∧ Ext w w' := by
  go_enter Try.func123, Try.ntmps123
  go_wp2
  go_loop [1, 5] (fun q i => ∃ j : Nat, j ≤ n ∧ i = .int .i64 j ∧ q = .int .i64 (k + 2 * j)) (fun _ i => n - (intOf i).toNat)
  case atStart => exact ⟨0, Nat.zero_le _, rfl, by simp⟩
  case round =>
    obtain ⟨j, hj, rfl, rfl⟩ := hrel
    by_cases hlt : j < n
    · have hlt' : j < (marksCel k n).length := by rw [marksCel_length]; exact hlt
      obtain ⟨b, o, rfl, hb, a0, a1⟩ := h.atCel hlt'
      rw [heldCel_at k n j hlt] at a0 a1
      dsimp only at a0 a1
      have t0 : ((k + 2 * (j : Int)) != (k + 2 * (j : Int))) = false := by simp
      have t1 : ((k + 2 * (j : Int) + 1) != (k + 2 * (j : Int) + 1)) = false := by simp
      clear h
      go_wp2
      go_round
      case rel => exact ⟨j + 1, by omega, by go_num, by go_num⟩
      case measure => simp [intOf]; omega
    · have hkl : j = n := by omega
      go_wp2
      go_ret
      exact ⟨ret_int (by first | rfl | omega), ext_refl _⟩

theorem Sea.enc_len (r : Sea) : r.enc.length = 3 := rfl

theorem Rd.atSea {w : World} {A : Option Addr} {c : Nat} {l : List Sea} (h : Rd Sea.enc 3 w A c l) {k : Nat} (hk : k < l.length) : ∃ b o, A = some ⟨b, o, none⟩ ∧ b < w.heap.size ∧
    w.cell? ⟨b, o + k * 3, none⟩ = some (.int .i64 l[k].client) ∧ w.cell? ⟨b, o + k * 3 + 1, none⟩ = some (.int .i64 l[k].req) ∧ w.cell? ⟨b, o + k * 3 + 2, none⟩ = some (.int .i64 l[k].answer) := by
  obtain ⟨b, o, e, hlt, hc⟩ := h.2.2 (by omega)
  exact ⟨b, o, e, hlt, hc k hk 0 _ rfl, hc k hk 1 _ rfl, hc k hk 2 _ rfl⟩

theorem c_eqSeat' (client req answer client' req' answer' : Int) (w : World) : Calls Try.prog 134 #[.agg #[.int .i64 client, .int .i64 req, .int .i64 answer], .agg #[.int .i64 client', .int .i64 req', .int .i64 answer']] w fun e w' => e = .returned (.bool (eqB (⟨client, req, answer⟩ : Sea) ⟨client', req', answer'⟩)) ∧ Ext w w' := by
  go_enter Try.func134, Try.ntmps134
  go_wp2
  all_goals
    go_ret
    refine ⟨ret_bool ?_, ?_⟩
    · simp [eqB, *]
      try (simp at *; simp [*])
    · (repeat (first | with_reducible exact ext_refl _ | with_reducible refine ext_to ?_ _ | with_reducible refine ext_set ?_ (by first | (simp; done) | (simp; omega) | omega) _ | with_reducible refine ext_drew ?_ | with_reducible refine Ext.trans ?_ (by assumption)))

theorem Try.infoSea : (Try.prog.info? 103).map (fun i => (i.zero, i.size, i.bytes)) = some (some (.agg #[.int .i64 0, .int .i64 0, .int .i64 0]), 3, 24) := by kernel_rfl

set_option maxHeartbeats 1000000 in
theorem c_eqSeatS (A B : Option Addr) (ca cb : Nat) (a b : List Sea) (w : World) (ha : Rd Sea.enc 3 w A ca a) (hb : Rd Sea.enc 3 w B cb b) (hn : a.length ≤ 1099511627776) (hn2 : b.length ≤ 1099511627776) :
    Calls Try.prog 119 #[.slice A a.length ca, .slice B b.length cb] w fun e w' => e = .returned (.bool (eqB a b)) ∧ Ext w w' := by
  by_cases hl : a.length = b.length
  · have hl' : ((a.length : Int) != (b.length : Int)) = false := by simp [hl]
    have HL := Lib.hid hl
    clear hl
    go_enter Try.func119, Try.ntmps119
    go_wp2
    go_loopw [5] (fun i wr => ∃ k : Nat, k ≤ a.length ∧ i = .int .i64 k ∧ a.take k = b.take k ∧ Ext w wr) (fun i _ => a.length - (intOf i).toNat)
    case atStart => exact ⟨0, Nat.zero_le _, rfl, by simp, ext_refl _⟩
    case round =>
      obtain ⟨k, hk, rfl, ht, hx⟩ := hrel
      have HT := Lib.hid ht
      clear ht
      by_cases hlt : k < a.length
      · have hltb : k < b.length := by have := HL.out; omega
        obtain ⟨ab, ao, rfl, hab, a0, a1, a2⟩ := (ha.keep hx).atSea hlt
        obtain ⟨bb, bo, rfl, hbb, b0, b1, b2⟩ := (hb.keep hx).atSea hltb
        by_cases he : a[k] = b[k]
        · have he' : eqB (⟨a[k].client, a[k].req, a[k].answer⟩ : Sea) ⟨b[k].client, b[k].req, b[k].answer⟩ = true := eqB_true he
          have HE := Lib.hid he
          clear he
          go_wp2
          (refine wp_region_mix' (fun _ _ _ _ _ hq => hq) 10 (by kernel_rfl) (by kernel_rfl) (fun hg => ?_); simp only [headOps, List.take_succ_cons, List.take_zero, List.filter_cons, List.filter_nil, isAlloc, Bool.not_false, Bool.false_eq_true, if_true, if_false, List.append_nil, List.drop_succ_cons, List.drop_zero])
          (repeat (refine wpMix_plain rfl rfl ?_; go_big_quiet_step (fail); refine wpQuiet_nil ?_))
          (refine wpMix_det rfl rfl rfl (enters Try.func134 (by kernel_rfl) rfl) (fun W hW => c_eqSeat' _ _ _ _ _ _ W) rfl ?_; simp only [Act.put, List.setIfInBounds_toArray, List.set_cons_zero, List.set_cons_succ])
          (repeat (refine wpMix_plain rfl rfl ?_; go_big_quiet_step (fail); refine wpQuiet_nil ?_))
          refine wpMix_nil ?_
          intro w2 hx2
          go_wp2
          go_roundw
          case rel => exact ⟨k + 1, by omega, by go_num, take_eq_next hlt hltb HT.out HE.out, Ext.trans hx hx2⟩
          case measure => simp [intOf]; omega
        · have he' : eqB (⟨a[k].client, a[k].req, a[k].answer⟩ : Sea) ⟨b[k].client, b[k].req, b[k].answer⟩ = false := eqB_false he
          have hne : eqB a b = false := eqB_false (by rintro rfl; exact he rfl)
          have HN := Lib.hid hne
          clear he hne
          go_wp2
          (refine wp_region_mix' (fun _ _ _ _ _ hq => hq) 10 (by kernel_rfl) (by kernel_rfl) (fun hg => ?_); simp only [headOps, List.take_succ_cons, List.take_zero, List.filter_cons, List.filter_nil, isAlloc, Bool.not_false, Bool.false_eq_true, if_true, if_false, List.append_nil, List.drop_succ_cons, List.drop_zero])
          (repeat (refine wpMix_plain rfl rfl ?_; go_big_quiet_step (fail); refine wpQuiet_nil ?_))
          (refine wpMix_det rfl rfl rfl (enters Try.func134 (by kernel_rfl) rfl) (fun W hW => c_eqSeat' _ _ _ _ _ _ W) rfl ?_; simp only [Act.put, List.setIfInBounds_toArray, List.set_cons_zero, List.set_cons_succ])
          (repeat (refine wpMix_plain rfl rfl ?_; go_big_quiet_step (fail); refine wpQuiet_nil ?_))
          refine wpMix_nil ?_
          intro w2 hx2
          go_wp2
          go_ret
          exact ⟨ret_bool (by rw [HN.out]), Ext.trans hx hx2⟩
      · have hkl : k = a.length := by omega
        go_wp2
        go_ret
        refine ⟨ret_bool ?_, hx⟩
        have h1 := HT.out
        rw [hkl, List.take_length, HL.out, List.take_length] at h1
        exact (eqB_true h1).symm
  · have hl' : ((a.length : Int) != (b.length : Int)) = true := by simp; omega
    have hne : eqB a b = false := eqB_false (by rintro rfl; exact hl rfl)
    have HN := Lib.hid hne
    clear hl hne
    go_enter Try.func119, Try.ntmps119
    go_wp2
    go_ret
    exact ⟨ret_bool (by rw [HN.out]), ext_refl _⟩

def Sea.mark (k : Int) (i : Nat) : Sea := ⟨k + 3 * i, k + 3 * i + 1, k + 3 * i + 1 + 1⟩

def marksSea (k : Int) (n : Nat) : List Sea := (List.range n).map (Sea.mark k)

set_option maxHeartbeats 1000000 in
theorem c_markSeatS (A : Option Addr) (c : Nat) (l : List Sea) (B : Nat) (k : Int) (w : World) (h : Ow Sea.enc 103 3 w B (.slice A l.length c) l) (h0 : 0 ≤ k) (h1 : k ≤ 1099511627776) (hn : l.length ≤ 1099511627776) :
    Calls Try.prog 122 #[.slice A l.length c, .int .i64 k] w fun e w' => e = .returned (.int .i64 (k + 3 * l.length)) ∧ Ow Sea.enc 103 3 w' B (.slice A l.length c) (marksSea k l.length) ∧ w.grownBy w' (Value.slice A l.length c).ownBlock := by
  unfold Ow at h
  go_enter Try.func122, Try.ntmps122
  go_wp2
  go_loopw [1, 5] (fun q i wr => ∃ j : Nat, j ≤ l.length ∧ i = .int .i64 j ∧ q = .int .i64 (k + 3 * j) ∧ wr.ownsRow B 103 3 (.slice A l.length c) l.length ((mixed (Sea.mark k) l j).flatMap Sea.enc) ∧ w.grownBy wr (Value.slice A l.length c).ownBlock) (fun _ i _ => l.length - (intOf i).toNat)
  case atStart => exact ⟨0, Nat.zero_le _, rfl, by simp, by rw [mixed_zero]; exact h, World.grownBy.refl _ _⟩
  case round =>
    obtain ⟨j, hj, rfl, rfl, hown, hgr⟩ := hrel
    by_cases hlt : j < l.length
    · obtain ⟨g, rfl, hgB, hgl⟩ := ownsRow_form hown (by omega)
      obtain ⟨x0, e0⟩ : ∃ x, wr.cell? ⟨g, j * 3, none⟩ = some x := ⟨_, (World.ownsRow.cellAt hown (j * 3) (by omega)).trans (List.getElem?_eq_getElem (by rw [hown.1]; omega))⟩
      obtain ⟨x1, e1⟩ : ∃ x, wr.cell? ⟨g, j * 3 + 1, none⟩ = some x := ⟨_, (World.ownsRow.cellAt hown (j * 3 + 1) (by omega)).trans (List.getElem?_eq_getElem (by rw [hown.1]; omega))⟩
      obtain ⟨x2, e2⟩ : ∃ x, wr.cell? ⟨g, j * 3 + 2, none⟩ = some x := ⟨_, (World.ownsRow.cellAt hown (j * 3 + 2) (by omega)).trans (List.getElem?_eq_getElem (by rw [hown.1]; omega))⟩
      have hfz := World.ownsRow.frozenAt hown
      have HO := Lib.hid hown
      have HG := Lib.hid hgr
      clear hown h hgr
      go_wp2
      have s0 := World.ownsRow.stored HO.out (j * 3) (.int .i64 (k + 3 * j))
      have s1 := World.ownsRow.stored s0.1 (j * 3 + 1) (.int .i64 (k + 3 * j + 1))
      have s2 := World.ownsRow.stored s1.1 (j * 3 + 2) (.int .i64 (k + 3 * j + 1 + 1))
      have hnext := setAll_mixed Sea.enc_len (Sea.mark k) l j hlt
      go_roundw
      case rel => exact ⟨j + 1, by omega, by go_num, by go_num, ownsRow_congr s2.1 hnext, grown_trans HG.out (grown_trans s0.2 (grown_trans s1.2 (s2.2)))⟩
      case measure => simp [intOf]; omega
    · have hkl : j = l.length := by omega
      go_wp2
      go_ret
      refine ⟨ret_int (by first | rfl | omega), ?_, hgr⟩
      unfold Ow marksSea
      rw [List.length_map, List.length_range]
      exact ownsRow_congr hown (by rw [hkl, mixed_all])

theorem heldSea_at (k : Int) (n j : Nat) (hj : j < n) : (marksSea k n)[j]'(by simpa [marksSea] using hj) = ⟨k + 3 * j, k + 3 * j + 1, k + 3 * j + 1 + 1⟩ := by simp [marksSea, Sea.mark]

theorem marksSea_length (k : Int) (n : Nat) : (marksSea k n).length = n := by simp [marksSea]

set_option maxHeartbeats 1000000 in
theorem c_heldSeatS (A : Option Addr) (c : Nat) (n : Nat) (k : Int) (w : World) (h : Rd Sea.enc 3 w A c (marksSea k n)) (h0 : 0 ≤ k) (h1 : k ≤ 1099511627776) (hn : n ≤ 1099511627776) :
    Calls Try.prog 124 #[.slice A n c, .int .i64 k] w fun e w' => e = .returned (.int .i64 (k + 3 * n)) ∧ Ext w w' := by
  go_enter Try.func124, Try.ntmps124
  go_wp2
  go_loop [1, 5] (fun q i => ∃ j : Nat, j ≤ n ∧ i = .int .i64 j ∧ q = .int .i64 (k + 3 * j)) (fun _ i => n - (intOf i).toNat)
  case atStart => exact ⟨0, Nat.zero_le _, rfl, by simp⟩
  case round =>
    obtain ⟨j, hj, rfl, rfl⟩ := hrel
    by_cases hlt : j < n
    · have hlt' : j < (marksSea k n).length := by rw [marksSea_length]; exact hlt
      obtain ⟨b, o, rfl, hb, a0, a1, a2⟩ := h.atSea hlt'
      rw [heldSea_at k n j hlt] at a0 a1 a2
      dsimp only at a0 a1 a2
      have t0 : ((k + 3 * (j : Int)) != (k + 3 * (j : Int))) = false := by simp
      have t1 : ((k + 3 * (j : Int) + 1) != (k + 3 * (j : Int) + 1)) = false := by simp
      have t2 : ((k + 3 * (j : Int) + 1 + 1) != (k + 3 * (j : Int) + 1 + 1)) = false := by simp
      clear h
      go_wp2
      go_round
      case rel => exact ⟨j + 1, by omega, by go_num, by go_num⟩
      case measure => simp [intOf]; omega
    · have hkl : j = n := by omega
      go_wp2
      go_ret
      exact ⟨ret_int (by first | rfl | omega), ext_refl _⟩

theorem c_eqCmd (k x v k' x' v' : Int) (w : World) : Calls Try.prog 42 #[.agg #[.int .i64 k, .int .i64 x, .int .i64 v], .agg #[.int .i64 k', .int .i64 x', .int .i64 v']] w fun e w' => e = .returned (.bool (decide (k = k' ∧ x = x' ∧ v = v'))) ∧ Ext w w' := by
  go_enter Try.func42, Try.ntmps42
  go_wp2
  all_goals
    go_ret
    refine ⟨ret_bool ?_, ?_⟩
    · simp [*]
      try (simp at *; simp [*])
    · (repeat (first | with_reducible exact ext_refl _ | with_reducible refine ext_to ?_ _ | with_reducible refine ext_set ?_ (by first | (simp; done) | (simp; omega) | omega) _ | with_reducible refine ext_drew ?_ | with_reducible refine Ext.trans ?_ (by assumption)))
theorem Ent.enc_len (r : Ent) : r.enc.length = 5 := rfl

theorem Rd.atEnt {w : World} {A : Option Addr} {c : Nat} {l : List Ent} (h : Rd Ent.enc 5 w A c l) {k : Nat} (hk : k < l.length) : ∃ b o, A = some ⟨b, o, none⟩ ∧ b < w.heap.size ∧
    w.cell? ⟨b, o + k * 5, none⟩ = some (.int .i64 l[k].client) ∧ w.cell? ⟨b, o + k * 5 + 1, none⟩ = some (.int .i64 l[k].req) ∧ w.cell? ⟨b, o + k * 5 + 2, none⟩ = some (.int .i64 l[k].kind) ∧ w.cell? ⟨b, o + k * 5 + 3, none⟩ = some (.int .i64 l[k].key) ∧ w.cell? ⟨b, o + k * 5 + 4, none⟩ = some (.int .i64 l[k].value) := by
  obtain ⟨b, o, e, hlt, hc⟩ := h.2.2 (by omega)
  exact ⟨b, o, e, hlt, hc k hk 0 _ rfl, hc k hk 1 _ rfl, hc k hk 2 _ rfl, hc k hk 3 _ rfl, hc k hk 4 _ rfl⟩

theorem Try.infoEnt : (Try.prog.info? 105).map (fun i => (i.zero, i.size, i.bytes)) = some (some (.agg #[.int .i64 0, .int .i64 0, .int .i64 0, .int .i64 0, .int .i64 0]), 5, 40) := by kernel_rfl

def Ent.mark (k : Int) (i : Nat) : Ent := ⟨k + 5 * i, k + 5 * i + 1, k + 5 * i + 1 + 1, k + 5 * i + 1 + 1 + 1, k + 5 * i + 1 + 1 + 1 + 1⟩

def marksEnt (k : Int) (n : Nat) : List Ent := (List.range n).map (Ent.mark k)

set_option maxHeartbeats 1000000 in
theorem c_markEntryS (A : Option Addr) (c : Nat) (l : List Ent) (B : Nat) (k : Int) (w : World) (h : Ow Ent.enc 105 5 w B (.slice A l.length c) l) (h0 : 0 ≤ k) (h1 : k ≤ 1099511627776) (hn : l.length ≤ 1099511627776) :
    Calls Try.prog 86 #[.slice A l.length c, .int .i64 k] w fun e w' => e = .returned (.int .i64 (k + 5 * l.length)) ∧ Ow Ent.enc 105 5 w' B (.slice A l.length c) (marksEnt k l.length) ∧ w.grownBy w' (Value.slice A l.length c).ownBlock := by
  unfold Ow at h
  go_enter Try.func86, Try.ntmps86
  go_wp2
  go_loopw [1, 5] (fun q i wr => ∃ j : Nat, j ≤ l.length ∧ i = .int .i64 j ∧ q = .int .i64 (k + 5 * j) ∧ wr.ownsRow B 105 5 (.slice A l.length c) l.length ((mixed (Ent.mark k) l j).flatMap Ent.enc) ∧ w.grownBy wr (Value.slice A l.length c).ownBlock) (fun _ i _ => l.length - (intOf i).toNat)
  case atStart => exact ⟨0, Nat.zero_le _, rfl, by simp, by rw [mixed_zero]; exact h, World.grownBy.refl _ _⟩
  case round =>
    obtain ⟨j, hj, rfl, rfl, hown, hgr⟩ := hrel
    by_cases hlt : j < l.length
    · obtain ⟨g, rfl, hgB, hgl⟩ := ownsRow_form hown (by omega)
      obtain ⟨x0, e0⟩ : ∃ x, wr.cell? ⟨g, j * 5, none⟩ = some x := ⟨_, (World.ownsRow.cellAt hown (j * 5) (by omega)).trans (List.getElem?_eq_getElem (by rw [hown.1]; omega))⟩
      obtain ⟨x1, e1⟩ : ∃ x, wr.cell? ⟨g, j * 5 + 1, none⟩ = some x := ⟨_, (World.ownsRow.cellAt hown (j * 5 + 1) (by omega)).trans (List.getElem?_eq_getElem (by rw [hown.1]; omega))⟩
      obtain ⟨x2, e2⟩ : ∃ x, wr.cell? ⟨g, j * 5 + 2, none⟩ = some x := ⟨_, (World.ownsRow.cellAt hown (j * 5 + 2) (by omega)).trans (List.getElem?_eq_getElem (by rw [hown.1]; omega))⟩
      obtain ⟨x3, e3⟩ : ∃ x, wr.cell? ⟨g, j * 5 + 3, none⟩ = some x := ⟨_, (World.ownsRow.cellAt hown (j * 5 + 3) (by omega)).trans (List.getElem?_eq_getElem (by rw [hown.1]; omega))⟩
      obtain ⟨x4, e4⟩ : ∃ x, wr.cell? ⟨g, j * 5 + 4, none⟩ = some x := ⟨_, (World.ownsRow.cellAt hown (j * 5 + 4) (by omega)).trans (List.getElem?_eq_getElem (by rw [hown.1]; omega))⟩
      have hfz := World.ownsRow.frozenAt hown
      have HO := Lib.hid hown
      have HG := Lib.hid hgr
      clear hown h hgr
      go_wp2
      have s0 := World.ownsRow.stored HO.out (j * 5) (.int .i64 (k + 5 * j))
      have s1 := World.ownsRow.stored s0.1 (j * 5 + 1) (.int .i64 (k + 5 * j + 1))
      have s2 := World.ownsRow.stored s1.1 (j * 5 + 2) (.int .i64 (k + 5 * j + 1 + 1))
      have s3 := World.ownsRow.stored s2.1 (j * 5 + 3) (.int .i64 (k + 5 * j + 1 + 1 + 1))
      have s4 := World.ownsRow.stored s3.1 (j * 5 + 4) (.int .i64 (k + 5 * j + 1 + 1 + 1 + 1))
      have hnext := setAll_mixed Ent.enc_len (Ent.mark k) l j hlt
      go_roundw
      case rel => exact ⟨j + 1, by omega, by go_num, by go_num, ownsRow_congr s4.1 hnext, grown_trans HG.out (grown_trans s0.2 (grown_trans s1.2 (grown_trans s2.2 (grown_trans s3.2 (s4.2)))))⟩
      case measure => simp [intOf]; omega
    · have hkl : j = l.length := by omega
      go_wp2
      go_ret
      refine ⟨ret_int (by first | rfl | omega), ?_, hgr⟩
      unfold Ow marksEnt
      rw [List.length_map, List.length_range]
      exact ownsRow_congr hown (by rw [hkl, mixed_all])

theorem heldEnt_at (k : Int) (n j : Nat) (hj : j < n) : (marksEnt k n)[j]'(by simpa [marksEnt] using hj) = ⟨k + 5 * j, k + 5 * j + 1, k + 5 * j + 1 + 1, k + 5 * j + 1 + 1 + 1, k + 5 * j + 1 + 1 + 1 + 1⟩ := by simp [marksEnt, Ent.mark]

theorem marksEnt_length (k : Int) (n : Nat) : (marksEnt k n).length = n := by simp [marksEnt]

set_option maxHeartbeats 1000000 in
theorem c_heldEntryS (A : Option Addr) (c : Nat) (n : Nat) (k : Int) (w : World) (h : Rd Ent.enc 5 w A c (marksEnt k n)) (h0 : 0 ≤ k) (h1 : k ≤ 1099511627776) (hn : n ≤ 1099511627776) :
    Calls Try.prog 93 #[.slice A n c, .int .i64 k] w fun e w' => e = .returned (.int .i64 (k + 5 * n)) ∧ Ext w w' := by
  go_enter Try.func93, Try.ntmps93
  go_wp2
  go_loop [1, 5] (fun q i => ∃ j : Nat, j ≤ n ∧ i = .int .i64 j ∧ q = .int .i64 (k + 5 * j)) (fun _ i => n - (intOf i).toNat)
  case atStart => exact ⟨0, Nat.zero_le _, rfl, by simp⟩
  case round =>
    obtain ⟨j, hj, rfl, rfl⟩ := hrel
    by_cases hlt : j < n
    · have hlt' : j < (marksEnt k n).length := by rw [marksEnt_length]; exact hlt
      obtain ⟨b, o, rfl, hb, a0, a1, a2, a3, a4⟩ := h.atEnt hlt'
      rw [heldEnt_at k n j hlt] at a0 a1 a2 a3 a4
      dsimp only at a0 a1 a2 a3 a4
      have t0 : ((k + 5 * (j : Int)) != (k + 5 * (j : Int))) = false := by simp
      have t1 : ((k + 5 * (j : Int) + 1) != (k + 5 * (j : Int) + 1)) = false := by simp
      have t2 : ((k + 5 * (j : Int) + 1 + 1) != (k + 5 * (j : Int) + 1 + 1)) = false := by simp
      have t3 : ((k + 5 * (j : Int) + 1 + 1 + 1) != (k + 5 * (j : Int) + 1 + 1 + 1)) = false := by simp
      have t4 : ((k + 5 * (j : Int) + 1 + 1 + 1 + 1) != (k + 5 * (j : Int) + 1 + 1 + 1 + 1)) = false := by simp
      clear h
      go_wp2
      go_round
      case rel => exact ⟨j + 1, by omega, by go_num, by go_num⟩
      case measure => simp [intOf]; omega
    · have hkl : j = n := by omega
      go_wp2
      go_ret
      exact ⟨ret_int (by first | rfl | omega), ext_refl _⟩

theorem c_eqEntry' (client req kind key value client' req' kind' key' value' : Int) (w : World) : Calls Try.prog 120 #[.agg #[.int .i64 client, .int .i64 req, .int .i64 kind, .int .i64 key, .int .i64 value], .agg #[.int .i64 client', .int .i64 req', .int .i64 kind', .int .i64 key', .int .i64 value']] w fun e w' => e = .returned (.bool (eqB (⟨client, req, kind, key, value⟩ : Ent) ⟨client', req', kind', key', value'⟩)) ∧ Ext w w' := by
  go_enter Try.func120, Try.ntmps120
  go_wp2_with (go_at_call 42; refine (c_eqCmd _ _ _ _ _ _ _).mono ?_; rintro e w1 ⟨rfl, hx⟩; obtain ⟨hc1, hf1, hs1⟩ := hx.rules; (try simp at hs1); have z0 : w.heap.size < w1.heap.size := (by omega); have z1 : w.heap.size + 1 < w1.heap.size := (by omega))
  all_goals
    go_ret
    refine ⟨ret_bool ?_, ?_⟩
    · rw [Bool.eq_iff_iff]
      simp only [eqB, decide_eq_true_eq, Ent.mk.injEq, Bool.false_eq_true, Bool.not_eq_true', bne_iff_ne, bne_eq_false_iff_eq, ne_eq, decide_eq_false_iff_not, iff_true, iff_false, true_iff, false_iff, Bool.not_eq_true] at *
      first
        | (simp only [*, and_self, not_and]; done)
        | (intro h; simp_all; done)
        | (simp_all; done)
    · (repeat (first | with_reducible exact ext_refl _ | with_reducible refine ext_to ?_ _ | with_reducible refine ext_set ?_ (by first | (simp; done) | (simp; omega) | omega) _ | with_reducible refine ext_drew ?_ | with_reducible refine Ext.trans ?_ (by assumption)))

set_option maxHeartbeats 1000000 in
theorem c_eqEntryS (A B : Option Addr) (ca cb : Nat) (a b : List Ent) (w : World) (ha : Rd Ent.enc 5 w A ca a) (hb : Rd Ent.enc 5 w B cb b) (hn : a.length ≤ 1099511627776) (hn2 : b.length ≤ 1099511627776) :
    Calls Try.prog 84 #[.slice A a.length ca, .slice B b.length cb] w fun e w' => e = .returned (.bool (eqB a b)) ∧ Ext w w' := by
  by_cases hl : a.length = b.length
  · have hl' : ((a.length : Int) != (b.length : Int)) = false := by simp [hl]
    have HL := Lib.hid hl
    clear hl
    go_enter Try.func84, Try.ntmps84
    go_wp2
    go_loopw [5] (fun i wr => ∃ k : Nat, k ≤ a.length ∧ i = .int .i64 k ∧ a.take k = b.take k ∧ Ext w wr) (fun i _ => a.length - (intOf i).toNat)
    case atStart => exact ⟨0, Nat.zero_le _, rfl, by simp, ext_refl _⟩
    case round =>
      obtain ⟨k, hk, rfl, ht, hx⟩ := hrel
      have HT := Lib.hid ht
      clear ht
      by_cases hlt : k < a.length
      · have hltb : k < b.length := by have := HL.out; omega
        obtain ⟨ab, ao, rfl, hab, a0, a1, a2, a3, a4⟩ := (ha.keep hx).atEnt hlt
        obtain ⟨bb, bo, rfl, hbb, b0, b1, b2, b3, b4⟩ := (hb.keep hx).atEnt hltb
        by_cases he : a[k] = b[k]
        · have he' : eqB (⟨a[k].client, a[k].req, a[k].kind, a[k].key, a[k].value⟩ : Ent) ⟨b[k].client, b[k].req, b[k].kind, b[k].key, b[k].value⟩ = true := eqB_true he
          have HE := Lib.hid he
          clear he
          go_wp2
          (refine wp_region_mix' (fun _ _ _ _ _ hq => hq) 10 (by kernel_rfl) (by kernel_rfl) (fun hg => ?_); simp only [headOps, List.take_succ_cons, List.take_zero, List.filter_cons, List.filter_nil, isAlloc, Bool.not_false, Bool.false_eq_true, if_true, if_false, List.append_nil, List.drop_succ_cons, List.drop_zero])
          (repeat (refine wpMix_plain rfl rfl ?_; go_big_quiet_step (fail); refine wpQuiet_nil ?_))
          (refine wpMix_det rfl rfl rfl (enters Try.func120 (by kernel_rfl) rfl) (fun W hW => c_eqEntry' _ _ _ _ _ _ _ _ _ _ W) rfl ?_; simp only [Act.put, List.setIfInBounds_toArray, List.set_cons_zero, List.set_cons_succ])
          (repeat (refine wpMix_plain rfl rfl ?_; go_big_quiet_step (fail); refine wpQuiet_nil ?_))
          refine wpMix_nil ?_
          intro w2 hx2
          go_wp2
          go_roundw
          case rel => exact ⟨k + 1, by omega, by go_num, take_eq_next hlt hltb HT.out HE.out, Ext.trans hx hx2⟩
          case measure => simp [intOf]; omega
        · have he' : eqB (⟨a[k].client, a[k].req, a[k].kind, a[k].key, a[k].value⟩ : Ent) ⟨b[k].client, b[k].req, b[k].kind, b[k].key, b[k].value⟩ = false := eqB_false he
          have hne : eqB a b = false := eqB_false (by rintro rfl; exact he rfl)
          have HN := Lib.hid hne
          clear he hne
          go_wp2
          (refine wp_region_mix' (fun _ _ _ _ _ hq => hq) 10 (by kernel_rfl) (by kernel_rfl) (fun hg => ?_); simp only [headOps, List.take_succ_cons, List.take_zero, List.filter_cons, List.filter_nil, isAlloc, Bool.not_false, Bool.false_eq_true, if_true, if_false, List.append_nil, List.drop_succ_cons, List.drop_zero])
          (repeat (refine wpMix_plain rfl rfl ?_; go_big_quiet_step (fail); refine wpQuiet_nil ?_))
          (refine wpMix_det rfl rfl rfl (enters Try.func120 (by kernel_rfl) rfl) (fun W hW => c_eqEntry' _ _ _ _ _ _ _ _ _ _ W) rfl ?_; simp only [Act.put, List.setIfInBounds_toArray, List.set_cons_zero, List.set_cons_succ])
          (repeat (refine wpMix_plain rfl rfl ?_; go_big_quiet_step (fail); refine wpQuiet_nil ?_))
          refine wpMix_nil ?_
          intro w2 hx2
          go_wp2
          go_ret
          exact ⟨ret_bool (by rw [HN.out]), Ext.trans hx hx2⟩
      · have hkl : k = a.length := by omega
        go_wp2
        go_ret
        refine ⟨ret_bool ?_, hx⟩
        have h1 := HT.out
        rw [hkl, List.take_length, HL.out, List.take_length] at h1
        exact (eqB_true h1).symm
  · have hl' : ((a.length : Int) != (b.length : Int)) = true := by simp; omega
    have hne : eqB a b = false := eqB_false (by rintro rfl; exact hl rfl)
    have HN := Lib.hid hne
    clear hl hne
    go_enter Try.func84, Try.ntmps84
    go_wp2
    go_ret
    exact ⟨ret_bool (by rw [HN.out]), ext_refl _⟩
end Go.Proofs.Ytpghedeghoegmaa

