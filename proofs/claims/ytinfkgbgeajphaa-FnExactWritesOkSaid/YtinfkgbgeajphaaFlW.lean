/- Slices of writes: the laws' own functions on them. -/
import Derived.Test.YtinfkgbgeajphaaProg
import Derived.Test.YtinfkgbgeajphaaBase
import Derived.OwnWalk
namespace Go.Proofs.Ytinfkgbgeajphaa
open Go.ChangeShapes Go.WideShapes Go.ChangeAt Go.RowKit Go.Sort
set_option linter.unusedVariables false

structure Wrt where
  key : Int
  value : Int
deriving DecidableEq

def Wrt.enc (r : Wrt) : List Value := [.int .i64 r.key, .int .i64 r.value]

theorem Wrt.enc_len (r : Wrt) : r.enc.length = 2 := rfl

theorem Rd.atWrt {w : World} {A : Option Addr} {c : Nat} {l : List Wrt} (h : Rd Wrt.enc 2 w A c l) {k : Nat} (hk : k < l.length) : ∃ b o, A = some ⟨b, o, none⟩ ∧ b < w.heap.size ∧
    w.cell? ⟨b, o + k * 2, none⟩ = some (.int .i64 l[k].key) ∧ w.cell? ⟨b, o + k * 2 + 1, none⟩ = some (.int .i64 l[k].value) := by
  obtain ⟨b, o, e, hlt, hc⟩ := h.2.2 (by omega)
  exact ⟨b, o, e, hlt, hc k hk 0 _ rfl, hc k hk 1 _ rfl⟩

theorem c_toWrite (key value : Int) (w : World) : Calls Try.prog 71 #[.agg #[.int .i64 key, .int .i64 value]] w fun e w' => e = .returned (.agg #[.int .i64 key, .int .i64 value]) ∧ Ext w w' := by
  go_enter Try.func71, Try.ntmps71
  go_wp2
  exact bodyPost_ret (v := .agg #[.int .i64 key, .int .i64 value]) (by simp [results, Try.results71, go_sem]) rfl ⟨rfl, ext_to (ext_to (ext_alloc _ _) _) _⟩

theorem c_eqWrite' (key value key' value' : Int) (w : World) : Calls Try.prog 74 #[.agg #[.int .i64 key, .int .i64 value], .agg #[.int .i64 key', .int .i64 value']] w fun e w' => e = .returned (.bool (eqB (⟨key, value⟩ : Wrt) ⟨key', value'⟩)) ∧ Ext w w' := by
  go_enter Try.func74, Try.ntmps74
  go_wp2
  all_goals
    go_ret
    refine ⟨ret_bool ?_, ?_⟩
    · simp [eqB, *]
      try (simp at *; simp [*])
    · (repeat (first | exact ext_refl _ | refine ext_to ?_ _ | refine ext_set ?_ (by first | (simp; done) | (simp; omega) | omega) _ | refine ext_drew ?_ | refine Ext.trans ?_ (by assumption)))

theorem c_szWriteS_le (A : Option Addr) (n c : Nat) (left : Int) (h0 : 0 ≤ left) (h1 : left ≤ 1048576) (hn : (n : Int) ≤ 9223372036854775807) (h : (n : Int) ≤ left) (w : World) :
    Calls Try.prog 32 #[.slice A n c, .int .i64 left] w fun e w' => e = .returned (.int .i64 (left - n)) ∧ Ext w w' := by
  go_enter Try.func32, Try.ntmps32
  go_wp2
  go_ret
  exact ⟨rfl, ext_refl _⟩

theorem c_szWriteS_gt (A : Option Addr) (n c : Nat) (left : Int) (h0 : 0 ≤ left) (h1 : left ≤ 1048576) (hn : (n : Int) ≤ 9223372036854775807) (h : left < (n : Int)) (w : World) :
    Calls Try.prog 32 #[.slice A n c, .int .i64 left] w fun e w' => e = .returned (.int .i64 (-1)) ∧ Ext w w' := by
  go_enter Try.func32, Try.ntmps32
  go_wp2
  go_ret
  exact ⟨rfl, ext_refl _⟩

theorem Try.infoWrt : (Try.prog.info? 86).map (fun i => (i.zero, i.size, i.bytes)) = some (some (.agg #[.int .i64 0, .int .i64 0]), 2, 16) := by kernel_rfl

set_option maxHeartbeats 1000000 in
theorem c_toWriteS (A : Option Addr) (c : Nat) (l : List Wrt) (w : World) (ha : Rd Wrt.enc 2 w A c l) (hn : l.length ≤ 1048576) :
    Calls Try.prog 34 #[.slice A l.length c] w fun e w' => ∃ g, e = .returned (.slice (some ⟨g, 0, none⟩) l.length l.length) ∧ Ow Wrt.enc 86 2 w' w.heap.size (.slice (some ⟨g, 0, none⟩) l.length l.length) l ∧ Ext w w' := by
  obtain ⟨i0, hi, hz0, hz1, hz2⟩ := info_parts Try.infoWrt
  have hcap2 : (l.length : Int) ≤ 9223372036854775807 := by omega
  go_enter Try.func34, Try.ntmps34
  go_wp2_with (at_make; refine wpList_make_full _ rfl _ _ 42 rfl w.heap.size 86 i0 (.agg #[.int .i64 0, .int .i64 0]) 2 Try.underlying42 hi hz0 hz1 .i64 .i64 _ _ l.length rfl rfl rfl rfl ?c1 ?c2 ?c3 ?_)
  case c1 => rw [hz2]; omega
  case c2 => unfold maxLen; omega
  case c3 => simp
  intro w1 hown hgr
  have hx1 : Ext w w1 := Below.grown (Below.refl _ _) hgr (Nat.le_refl _) (fun k hk => by cases hk)
  have hgl : w.heap.size < w1.heap.size := (World.ownsRow.lt hown _ rfl).2
  obtain ⟨g, hgv⟩ : ∃ g, g = w.heap.size := ⟨_, rfl⟩
  have hown' : w1.ownsRow w.heap.size 86 2 (.slice (some ⟨g, 0, none⟩) l.length l.length) l.length ((madeCells (.agg #[.int .i64 0, .int .i64 0] : Value).cells (l.length * 2)).toList) := by rw [hgv]; exact hown
  have hlen : ((madeCells (.agg #[.int .i64 0, .int .i64 0] : Value).cells (l.length * 2)).toList).length = l.length * 2 := by simp [size_madeCells]
  generalize (madeCells (.agg #[.int .i64 0, .int .i64 0] : Value).cells (l.length * 2)).toList = zs at hown' hlen
  have hgB : w.heap.size ≤ g := by omega
  have hgl : g < w1.heap.size := by omega
  rw [← hgv]
  clear hown hgv hgr hz0 hz1 hz2 hi
  go_wp2
  go_loopw [4] (fun i wr => ∃ k : Nat, k ≤ l.length ∧ i = .int .i64 k ∧ wr.ownsRow w.heap.size 86 2 (.slice (some ⟨g, 0, none⟩) l.length l.length) l.length ((l.take k).flatMap Wrt.enc ++ zs.drop (k * 2)) ∧ Ext w wr ∧ g < wr.heap.size) (fun i _ => l.length - (intOf i).toNat)
  case atStart => exact ⟨0, Nat.zero_le _, rfl, by simpa using hown', hx1, hgl⟩
  case round =>
    obtain ⟨k, hk, rfl, hownk, hxr, hgr⟩ := hrel
    by_cases hlt : k < l.length
    · obtain ⟨b, o, rfl, hb, a0, a1⟩ := (ha.keep hxr).atWrt hlt
      have hlk := hownk.1
      obtain ⟨x0, e0⟩ : ∃ x, wr.cell? ⟨g, k * 2, none⟩ = some x := ⟨_, (World.ownsRow.cellAt hownk (k * 2) (by omega)).trans (List.getElem?_eq_getElem (by omega))⟩
      obtain ⟨x1, e1⟩ : ∃ x, wr.cell? ⟨g, k * 2 + 1, none⟩ = some x := ⟨_, (World.ownsRow.cellAt hownk (k * 2 + 1) (by omega)).trans (List.getElem?_eq_getElem (by omega))⟩
      have hfz := World.ownsRow.frozenAt hownk
      have HO := Lib.hid hownk
      clear hlk hownk
      go_wp2_with (go_at_call 71; refine (c_toWrite _ _ _).mono ?_; rintro e w2 ⟨rfl, hx2⟩; obtain ⟨hc1, hf1, hs1⟩ := hx2.rules)
      have s0 := World.ownsRow.stored (ownsRow_ext HO.out hx2) (k * 2) (.int .i64 l[k].key)
      have s1 := World.ownsRow.stored s0.1 (k * 2 + 1) (.int .i64 l[k].value)
      have hnext := setAll_next Wrt.enc_len l zs k hlt hlen
      go_roundw
      case rel => exact ⟨k + 1, by omega, by go_num, ownsRow_congr s1.1 hnext, ext_set (ext_set (Ext.trans hxr hx2) hgB _) hgB _, by simp; omega⟩
      case measure => simp [intOf]; omega
    · have hkl : k = l.length := by omega
      go_wp2
      go_ret
      refine ⟨g, rfl, ?_, hxr⟩
      unfold Ow
      refine ownsRow_congr hownk ?_
      rw [hkl, List.take_length, List.drop_eq_nil_of_le (by omega), List.append_nil]

set_option maxHeartbeats 1000000 in
theorem c_eqWriteS (A B : Option Addr) (ca cb : Nat) (a b : List Wrt) (w : World) (ha : Rd Wrt.enc 2 w A ca a) (hb : Rd Wrt.enc 2 w B cb b) (hn : a.length ≤ 1099511627776) (hn2 : b.length ≤ 1099511627776) :
    Calls Try.prog 36 #[.slice A a.length ca, .slice B b.length cb] w fun e w' => e = .returned (.bool (eqB a b)) ∧ Ext w w' := by
  by_cases hl : a.length = b.length
  · have hl' : ((a.length : Int) != (b.length : Int)) = false := by simp [hl]
    have HL := Lib.hid hl
    clear hl
    go_enter Try.func36, Try.ntmps36
    go_wp2
    go_loopw [5] (fun i wr => ∃ k : Nat, k ≤ a.length ∧ i = .int .i64 k ∧ a.take k = b.take k ∧ Ext w wr) (fun i _ => a.length - (intOf i).toNat)
    case atStart => exact ⟨0, Nat.zero_le _, rfl, by simp, ext_refl _⟩
    case round =>
      obtain ⟨k, hk, rfl, ht, hx⟩ := hrel
      have HT := Lib.hid ht
      clear ht
      by_cases hlt : k < a.length
      · have hltb : k < b.length := by have := HL.out; omega
        obtain ⟨ab, ao, rfl, hab, a0, a1⟩ := (ha.keep hx).atWrt hlt
        obtain ⟨bb, bo, rfl, hbb, b0, b1⟩ := (hb.keep hx).atWrt hltb
        by_cases he : a[k] = b[k]
        · have he' : eqB (⟨a[k].key, a[k].value⟩ : Wrt) ⟨b[k].key, b[k].value⟩ = true := eqB_true he
          have HE := Lib.hid he
          clear he
          go_wp2
          (refine wp_region_mix' (fun _ _ _ _ _ hq => hq) 10 (by kernel_rfl) (by kernel_rfl) (fun hg => ?_); simp only [headOps, List.take_succ_cons, List.take_zero, List.filter_cons, List.filter_nil, isAlloc, Bool.not_false, Bool.false_eq_true, if_true, if_false, List.append_nil, List.drop_succ_cons, List.drop_zero])
          (repeat (refine wpMix_plain rfl rfl ?_; go_big_quiet_step (fail); refine wpQuiet_nil ?_))
          (refine wpMix_det rfl rfl rfl (enters Try.func74 (by kernel_rfl) rfl) (fun W hW => c_eqWrite' _ _ _ _ W) rfl ?_; simp only [Act.put, List.setIfInBounds_toArray, List.set_cons_zero, List.set_cons_succ])
          (repeat (refine wpMix_plain rfl rfl ?_; go_big_quiet_step (fail); refine wpQuiet_nil ?_))
          refine wpMix_nil ?_
          intro w2 hx2
          go_wp2
          go_roundw
          case rel => exact ⟨k + 1, by omega, by go_num, take_eq_next hlt hltb HT.out HE.out, Ext.trans hx hx2⟩
          case measure => simp [intOf]; omega
        · have he' : eqB (⟨a[k].key, a[k].value⟩ : Wrt) ⟨b[k].key, b[k].value⟩ = false := eqB_false he
          have hne : eqB a b = false := eqB_false (by rintro rfl; exact he rfl)
          have HN := Lib.hid hne
          clear he hne
          go_wp2
          (refine wp_region_mix' (fun _ _ _ _ _ hq => hq) 10 (by kernel_rfl) (by kernel_rfl) (fun hg => ?_); simp only [headOps, List.take_succ_cons, List.take_zero, List.filter_cons, List.filter_nil, isAlloc, Bool.not_false, Bool.false_eq_true, if_true, if_false, List.append_nil, List.drop_succ_cons, List.drop_zero])
          (repeat (refine wpMix_plain rfl rfl ?_; go_big_quiet_step (fail); refine wpQuiet_nil ?_))
          (refine wpMix_det rfl rfl rfl (enters Try.func74 (by kernel_rfl) rfl) (fun W hW => c_eqWrite' _ _ _ _ W) rfl ?_; simp only [Act.put, List.setIfInBounds_toArray, List.set_cons_zero, List.set_cons_succ])
          (repeat (refine wpMix_plain rfl rfl ?_; go_big_quiet_step (fail); refine wpQuiet_nil ?_))
          refine wpMix_nil ?_
          intro w2 hx2
          go_wp2
          go_ret
          exact ⟨ret_bool (by rw [HN.out]), Ext.trans hx hx2⟩
      · have hkl : k = a.length := by omega
        go_wp2
        go_ret
        refine ⟨ret_bool ?_, hx⟩
        have h1 := HT.out
        rw [hkl, List.take_length, HL.out, List.take_length] at h1
        exact (eqB_true h1).symm
  · have hl' : ((a.length : Int) != (b.length : Int)) = true := by simp; omega
    have hne : eqB a b = false := eqB_false (by rintro rfl; exact hl rfl)
    have HN := Lib.hid hne
    clear hl hne
    go_enter Try.func36, Try.ntmps36
    go_wp2
    go_ret
    exact ⟨ret_bool (by rw [HN.out]), ext_refl _⟩
end Go.Proofs.Ytinfkgbgeajphaa
