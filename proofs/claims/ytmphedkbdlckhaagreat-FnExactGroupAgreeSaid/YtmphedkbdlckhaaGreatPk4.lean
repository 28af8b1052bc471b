/- The laws' own functions on cells, seats, entries. -/
import Derived.Test.YtmphedkbdlckhaaGreatPk3
import Derived.Test.YtmphedkbdlckhaaGreatProg
import Derived.OwnWalk
namespace Go.Proofs.YtmphedkbdlckhaaGreat
open Go.ChangeShapes Go.WideShapes Go.ChangeAt Go.RowKit Go.Sort
set_option linter.unusedVariables false
set_option linter.unusedSimpArgs false
theorem Cel.enc_len (r : Cel) : r.enc.length = 2 := rfl
theorem Rd.atCel {w : World} {A : Option Addr} {c : Nat} {l : List Cel} (h : Rd Cel.enc 2 w A c l) {k : Nat} (hk : k < l.length) : ∃ b o, A = some ⟨b, o, none⟩ ∧ b < w.heap.size ∧
  w.cell? ⟨b, o + k * 2, none⟩ = some (.int .i64 l[k].key) ∧ w.cell? ⟨b, o + k * 2 + 1, none⟩ = some (.int .i64 l[k].value) := by
 obtain ⟨b, o, e, hlt, hc⟩ := h.2.2 (by omega)
 exact ⟨b, o, e, hlt, hc k hk 0 _ rfl, hc k hk 1 _ rfl⟩
theorem c_toCell (key value : Int) (w : World) : Calls Tryz.prog 145 #[.agg #[.int .i64 key, .int .i64 value]] w fun e w' => e = .returned (.agg #[.int .i64 key, .int .i64 value]) ∧ Ext w w' := by
 go_enter Tryz.func145, Tryz.ntmps145
 go_wp2
 exact bodyPost_ret (v := .agg #[.int .i64 key, .int .i64 value]) (by simp [results, Tryz.results145, go_sem]) rfl ⟨rfl, ext_to (ext_to (ext_alloc _ _) _) _⟩
theorem c_eqCell' (key value key' value' : Int) (w : World) : Calls Tryz.prog 148 #[.agg #[.int .i64 key, .int .i64 value], .agg #[.int .i64 key', .int .i64 value']] w fun e w' => e = .returned (.bool (eqB (⟨key, value⟩ : Cel) ⟨key', value'⟩)) ∧ Ext w w' := by
 go_enter Tryz.func148, Tryz.ntmps148
 go_wp2
 all_goals
  go_ret
  refine ⟨ret_bool ?_, ?_⟩
  ·simp [eqB, *]
   try (simp at *; simp [*])
  ·(repeat (first | with_reducible exact ext_refl _ | with_reducible refine ext_to ?_ _ | with_reducible refine ext_set ?_ (by first | (simp; done) | (simp; omega) | omega) _ | with_reducible refine ext_drew ?_ | with_reducible refine Ext.trans ?_ (by assumption)))
theorem c_szCellS_le (A : Option Addr) (n c : Nat) (left : Int) (h0 : 0 ≤ left) (h1 : left ≤ 1048576) (hn : (n : Int) ≤ 9223372036854775807) (h : (n : Int) ≤ left) (w : World) :
  Calls Tryz.prog 125 #[.slice A n c, .int .i64 left] w fun e w' => e = .returned (.int .i64 (left - n)) ∧ Ext w w' := by
 go_enter Tryz.func125, Tryz.ntmps125
 go_wp2
 go_ret
 exact ⟨rfl, ext_refl _⟩
theorem c_szCellS_gt (A : Option Addr) (n c : Nat) (left : Int) (h0 : 0 ≤ left) (h1 : left ≤ 1048576) (hn : (n : Int) ≤ 9223372036854775807) (h : left < (n : Int)) (w : World) :
  Calls Tryz.prog 125 #[.slice A n c, .int .i64 left] w fun e w' => e = .returned (.int .i64 (-1)) ∧ Ext w w' := by
 go_enter Tryz.func125, Tryz.ntmps125
 go_wp2
 go_ret
 exact ⟨rfl, ext_refl _⟩
theorem Tryz.infoCel : (Tryz.prog.info? 112).map (fun i => (i.zero, i.size, i.bytes)) = some (some (.agg #[.int .i64 0, .int .i64 0]), 2, 16) := by kernel_rfl
set_option maxHeartbeats 1000000 in
theorem c_toCellS (A : Option Addr) (c : Nat) (l : List Cel) (w : World) (ha : Rd Cel.enc 2 w A c l) (hn : l.length ≤ 1048576) :
  Calls Tryz.prog 128 #[.slice A l.length c] w fun e w' => ∃ g, e = .returned (.slice (some ⟨g, 0, none⟩) l.length l.length) ∧ Ow Cel.enc 112 2 w' w.heap.size (.slice (some ⟨g, 0, none⟩) l.length l.length) l ∧ Ext w w' := by
 obtain ⟨i0, hi, hz0, hz1, hz2⟩ := info_parts Tryz.infoCel
 have hcap2 : (l.length : Int) ≤ 9223372036854775807 := by omega
 go_enter Tryz.func128, Tryz.ntmps128
 go_wp2_with (at_make; refine wpList_make_full _ rfl _ _ 47 rfl w.heap.size 112 i0 (.agg #[.int .i64 0, .int .i64 0]) 2 Tryz.underlying47 hi hz0 hz1 .i64 .i64 _ _ l.length rfl rfl rfl rfl ?c1 ?c2 ?c3 ?_)
 case c1 => rw [hz2]; omega
 case c2 => unfold maxLen; omega
 case c3 => simp
 intro w1 hown hgr
 have hx1 : Ext w w1 := Below.grown (Below.refl _ _) hgr (Nat.le_refl _) (fun k hk => by cases hk)
 have hgl : w.heap.size < w1.heap.size := (World.ownsRow.lt hown _ rfl).2
 obtain ⟨g, hgv⟩ : ∃ g, g = w.heap.size := ⟨_, rfl⟩
 have hown' : w1.ownsRow w.heap.size 112 2 (.slice (some ⟨g, 0, none⟩) l.length l.length) l.length ((madeCells (.agg #[.int .i64 0, .int .i64 0] : Value).cells (l.length * 2)).toList) := by rw [hgv]; exact hown
 have hlen : ((madeCells (.agg #[.int .i64 0, .int .i64 0] : Value).cells (l.length * 2)).toList).length = l.length * 2 := by simp [size_madeCells]
 generalize (madeCells (.agg #[.int .i64 0, .int .i64 0] : Value).cells (l.length * 2)).toList = zs at hown' hlen
 have hgB : w.heap.size ≤ g := by omega
 have hgl : g < w1.heap.size := by omega
 rw [← hgv]
 clear hown hgv hgr hz0 hz1 hz2 hi
 go_wp2
 go_loopw [4] (fun i wr => ∃ k : Nat, k ≤ l.length ∧ i = .int .i64 k ∧ wr.ownsRow w.heap.size 112 2 (.slice (some ⟨g, 0, none⟩) l.length l.length) l.length ((l.take k).flatMap Cel.enc ++ zs.drop (k * 2)) ∧ Ext w wr ∧ g < wr.heap.size) (fun i _ => l.length - (intOf i).toNat)
 case atStart => exact ⟨0, Nat.zero_le _, rfl, by simpa using hown', hx1, hgl⟩
 case round =>
  obtain ⟨k, hk, rfl, hownk, hxr, hgr⟩ := hrel
  by_cases hlt : k < l.length
  ·obtain ⟨b, o, rfl, hb, a0, a1⟩ := (ha.keep hxr).atCel hlt
   have hlk := hownk.1
   obtain ⟨x0, e0⟩ : ∃ x, wr.cell? ⟨g, k * 2, none⟩ = some x := ⟨_, (World.ownsRow.cellAt hownk (k * 2) (by omega)).trans (List.getElem?_eq_getElem (by omega))⟩
   obtain ⟨x1, e1⟩ : ∃ x, wr.cell? ⟨g, k * 2 + 1, none⟩ = some x := ⟨_, (World.ownsRow.cellAt hownk (k * 2 + 1) (by omega)).trans (List.getElem?_eq_getElem (by omega))⟩
   have hfz := World.ownsRow.frozenAt hownk
   have HO := Hd hownk
   clear hlk hownk
   go_wp2_with (go_at_call 145; refine (c_toCell _ _ _).mono ?_; rintro e w2 ⟨rfl, hx2⟩; obtain ⟨hc1, hf1, hs1⟩ := hx2.rules)
   have s0 := World.ownsRow.stored (ownsRow_ext HO.out hx2) (k * 2) (.int .i64 l[k].key)
   have s1 := World.ownsRow.stored s0.1 (k * 2 + 1) (.int .i64 l[k].value)
   have hnext := setAll_next Cel.enc_len l zs k hlt hlen
   go_roundw
   case rel => exact ⟨k + 1, by omega, by go_num, ownsRow_congr s1.1 hnext, ext_set (ext_set (Ext.trans hxr hx2) hgB _) hgB _, by simp; omega⟩
   case measure => simp [intOf]; omega
  ·have hkl : k = l.length := by omega
   go_wp2
   go_ret
   refine ⟨g, rfl, ?_, hxr⟩
   unfold Ow
   refine ownsRow_congr hownk ?_
   rw [hkl, List.take_length, List.drop_eq_nil_of_le (by omega), List.append_nil]
set_option maxHeartbeats 1000000 in
theorem c_eqCellS (A B : Option Addr) (ca cb : Nat) (a b : List Cel) (w : World) (ha : Rd Cel.enc 2 w A ca a) (hb : Rd Cel.enc 2 w B cb b) (hn : a.length ≤ 1099511627776) (hn2 : b.length ≤ 1099511627776) :
  Calls Tryz.prog 133 #[.slice A a.length ca, .slice B b.length cb] w fun e w' => e = .returned (.bool (eqB a b)) ∧ Ext w w' := by
 by_cases hl : a.length = b.length
 ·have hl' : ((a.length : Int) != (b.length : Int)) = false := by simp [hl]
  have HL := Hd hl
  clear hl
  go_enter Tryz.func133, Tryz.ntmps133
  go_wp2
  go_loopw [5] (fun i wr => ∃ k : Nat, k ≤ a.length ∧ i = .int .i64 k ∧ a.take k = b.take k ∧ Ext w wr) (fun i _ => a.length - (intOf i).toNat)
  case atStart => exact ⟨0, Nat.zero_le _, rfl, by simp, ext_refl _⟩
  case round =>
   obtain ⟨k, hk, rfl, ht, hx⟩ := hrel
   have HT := Hd ht
   clear ht
   by_cases hlt : k < a.length
   ·have hltb : k < b.length := by have := HL.out; omega
    obtain ⟨ab, ao, rfl, hab, a0, a1⟩ := (ha.keep hx).atCel hlt
    obtain ⟨bb, bo, rfl, hbb, b0, b1⟩ := (hb.keep hx).atCel hltb
    by_cases he : a[k] = b[k]
    ·have he' : eqB (⟨a[k].key, a[k].value⟩ : Cel) ⟨b[k].key, b[k].value⟩ = true := eqB_true he
     have HE := Hd he
     clear he
     go_wp2
     (refine wp_region_mix' (fun _ _ _ _ _ hq => hq) 10 (by kernel_rfl) (by kernel_rfl) (fun hg => ?_); simp only [headOps, Tc, Tz, List.filter_cons, List.filter_nil, isAlloc, Bool.not_false, Bf, if_true, if_false, List.append_nil, Dc, Dz])
     (repeat (refine wpMix_plain rfl rfl ?_; go_big_quiet_step (fail); refine wpQuiet_nil ?_))
     (refine wpMix_det rfl rfl rfl (enters Tryz.func148 (by kernel_rfl) rfl) (fun W hW => c_eqCell' _ _ _ _ W) rfl ?_; simp only [Act.put, Sa, Sz, Ss])
     (repeat (refine wpMix_plain rfl rfl ?_; go_big_quiet_step (fail); refine wpQuiet_nil ?_))
     refine wpMix_nil ?_
     intro w2 hx2
     go_wp2
     go_roundw
     case rel => exact ⟨k + 1, by omega, by go_num, take_eq_next hlt hltb HT.out HE.out, Ext.trans hx hx2⟩
     case measure => simp [intOf]; omega
    ·have he' : eqB (⟨a[k].key, a[k].value⟩ : Cel) ⟨b[k].key, b[k].value⟩ = false := eqB_false he
     have hne : eqB a b = false := eqB_false (by rintro rfl; exact he rfl)
     have HN := Hd hne
     clear he hne
     go_wp2
     (refine wp_region_mix' (fun _ _ _ _ _ hq => hq) 10 (by kernel_rfl) (by kernel_rfl) (fun hg => ?_); simp only [headOps, Tc, Tz, List.filter_cons, List.filter_nil, isAlloc, Bool.not_false, Bf, if_true, if_false, List.append_nil, Dc, Dz])
     (repeat (refine wpMix_plain rfl rfl ?_; go_big_quiet_step (fail); refine wpQuiet_nil ?_))
     (refine wpMix_det rfl rfl rfl (enters Tryz.func148 (by kernel_rfl) rfl) (fun W hW => c_eqCell' _ _ _ _ W) rfl ?_; simp only [Act.put, Sa, Sz, Ss])
     (repeat (refine wpMix_plain rfl rfl ?_; go_big_quiet_step (fail); refine wpQuiet_nil ?_))
     refine wpMix_nil ?_
     intro w2 hx2
     go_wp2
     go_ret
     exact ⟨ret_bool (by rw [HN.out]), Ext.trans hx hx2⟩
   ·have hkl : k = a.length := by omega
    go_wp2
    go_ret
    refine ⟨ret_bool ?_, hx⟩
    have h1 := HT.out
    rw [hkl, List.take_length, HL.out, List.take_length] at h1
    exact (eqB_true h1).symm
 ·have hl' : ((a.length : Int) != (b.length : Int)) = true := by simp; omega
  have hne : eqB a b = false := eqB_false (by rintro rfl; exact hl rfl)
  have HN := Hd hne
  clear hl hne
  go_enter Tryz.func133, Tryz.ntmps133
  go_wp2
  go_ret
  exact ⟨ret_bool (by rw [HN.out]), ext_refl _⟩
def Cel.mark (k : Int) (i : Nat) : Cel := ⟨k + 2 * i, k + 2 * i + 1⟩
def marksCel (k : Int) (n : Nat) : List Cel := (List.range n).map (Cel.mark k)
theorem marksCel_length (k : Int) (n : Nat) : (marksCel k n).length = n := by simp [marksCel]
theorem Sea.enc_len (r : Sea) : r.enc.length = 3 := rfl
theorem Rd.atSea {w : World} {A : Option Addr} {c : Nat} {l : List Sea} (h : Rd Sea.enc 3 w A c l) {k : Nat} (hk : k < l.length) : ∃ b o, A = some ⟨b, o, none⟩ ∧ b < w.heap.size ∧
  w.cell? ⟨b, o + k * 3, none⟩ = some (.int .i64 l[k].client) ∧ w.cell? ⟨b, o + k * 3 + 1, none⟩ = some (.int .i64 l[k].req) ∧ w.cell? ⟨b, o + k * 3 + 2, none⟩ = some (.int .i64 l[k].answer) := by
 obtain ⟨b, o, e, hlt, hc⟩ := h.2.2 (by omega)
 exact ⟨b, o, e, hlt, hc k hk 0 _ rfl, hc k hk 1 _ rfl, hc k hk 2 _ rfl⟩
theorem c_toSeat (client req answer : Int) (w : World) : Calls Tryz.prog 146 #[.agg #[.int .i64 client, .int .i64 req, .int .i64 answer]] w fun e w' => e = .returned (.agg #[.int .i64 client, .int .i64 req, .int .i64 answer]) ∧ Ext w w' := by
 go_enter Tryz.func146, Tryz.ntmps146
 go_wp2
 exact bodyPost_ret (v := .agg #[.int .i64 client, .int .i64 req, .int .i64 answer]) (by simp [results, Tryz.results146, go_sem]) rfl ⟨rfl, ext_to (ext_to (ext_alloc _ _) _) _⟩
theorem c_eqSeat' (client req answer client' req' answer' : Int) (w : World) : Calls Tryz.prog 149 #[.agg #[.int .i64 client, .int .i64 req, .int .i64 answer], .agg #[.int .i64 client', .int .i64 req', .int .i64 answer']] w fun e w' => e = .returned (.bool (eqB (⟨client, req, answer⟩ : Sea) ⟨client', req', answer'⟩)) ∧ Ext w w' := by
 go_enter Tryz.func149, Tryz.ntmps149
 go_wp2
 all_goals
  go_ret
  refine ⟨ret_bool ?_, ?_⟩
  ·simp [eqB, *]
   try (simp at *; simp [*])
  ·(repeat (first | with_reducible exact ext_refl _ | with_reducible refine ext_to ?_ _ | with_reducible refine ext_set ?_ (by first | (simp; done) | (simp; omega) | omega) _ | with_reducible refine ext_drew ?_ | with_reducible refine Ext.trans ?_ (by assumption)))
theorem c_szSeatS_le (A : Option Addr) (n c : Nat) (left : Int) (h0 : 0 ≤ left) (h1 : left ≤ 1048576) (hn : (n : Int) ≤ 9223372036854775807) (h : (n : Int) ≤ left) (w : World) :
  Calls Tryz.prog 126 #[.slice A n c, .int .i64 left] w fun e w' => e = .returned (.int .i64 (left - n)) ∧ Ext w w' := by
 go_enter Tryz.func126, Tryz.ntmps126
 go_wp2
 go_ret
 exact ⟨rfl, ext_refl _⟩
theorem c_szSeatS_gt (A : Option Addr) (n c : Nat) (left : Int) (h0 : 0 ≤ left) (h1 : left ≤ 1048576) (hn : (n : Int) ≤ 9223372036854775807) (h : left < (n : Int)) (w : World) :
  Calls Tryz.prog 126 #[.slice A n c, .int .i64 left] w fun e w' => e = .returned (.int .i64 (-1)) ∧ Ext w w' := by
 go_enter Tryz.func126, Tryz.ntmps126
 go_wp2
 go_ret
 exact ⟨rfl, ext_refl _⟩
theorem Tryz.infoSea : (Tryz.prog.info? 113).map (fun i => (i.zero, i.size, i.bytes)) = some (some (.agg #[.int .i64 0, .int .i64 0, .int .i64 0]), 3, 24) := by kernel_rfl
set_option maxHeartbeats 1000000 in
theorem c_toSeatS (A : Option Addr) (c : Nat) (l : List Sea) (w : World) (ha : Rd Sea.enc 3 w A c l) (hn : l.length ≤ 1048576) :
  Calls Tryz.prog 129 #[.slice A l.length c] w fun e w' => ∃ g, e = .returned (.slice (some ⟨g, 0, none⟩) l.length l.length) ∧ Ow Sea.enc 113 3 w' w.heap.size (.slice (some ⟨g, 0, none⟩) l.length l.length) l ∧ Ext w w' := by
 obtain ⟨i0, hi, hz0, hz1, hz2⟩ := info_parts Tryz.infoSea
 have hcap2 : (l.length : Int) ≤ 9223372036854775807 := by omega
 go_enter Tryz.func129, Tryz.ntmps129
 go_wp2_with (at_make; refine wpList_make_full _ rfl _ _ 48 rfl w.heap.size 113 i0 (.agg #[.int .i64 0, .int .i64 0, .int .i64 0]) 3 Tryz.underlying48 hi hz0 hz1 .i64 .i64 _ _ l.length rfl rfl rfl rfl ?c1 ?c2 ?c3 ?_)
 case c1 => rw [hz2]; omega
 case c2 => unfold maxLen; omega
 case c3 => simp
 intro w1 hown hgr
 have hx1 : Ext w w1 := Below.grown (Below.refl _ _) hgr (Nat.le_refl _) (fun k hk => by cases hk)
 have hgl : w.heap.size < w1.heap.size := (World.ownsRow.lt hown _ rfl).2
 obtain ⟨g, hgv⟩ : ∃ g, g = w.heap.size := ⟨_, rfl⟩
 have hown' : w1.ownsRow w.heap.size 113 3 (.slice (some ⟨g, 0, none⟩) l.length l.length) l.length ((madeCells (.agg #[.int .i64 0, .int .i64 0, .int .i64 0] : Value).cells (l.length * 3)).toList) := by rw [hgv]; exact hown
 have hlen : ((madeCells (.agg #[.int .i64 0, .int .i64 0, .int .i64 0] : Value).cells (l.length * 3)).toList).length = l.length * 3 := by simp [size_madeCells]
 generalize (madeCells (.agg #[.int .i64 0, .int .i64 0, .int .i64 0] : Value).cells (l.length * 3)).toList = zs at hown' hlen
 have hgB : w.heap.size ≤ g := by omega
 have hgl : g < w1.heap.size := by omega
 rw [← hgv]
 clear hown hgv hgr hz0 hz1 hz2 hi
 go_wp2
 go_loopw [4] (fun i wr => ∃ k : Nat, k ≤ l.length ∧ i = .int .i64 k ∧ wr.ownsRow w.heap.size 113 3 (.slice (some ⟨g, 0, none⟩) l.length l.length) l.length ((l.take k).flatMap Sea.enc ++ zs.drop (k * 3)) ∧ Ext w wr ∧ g < wr.heap.size) (fun i _ => l.length - (intOf i).toNat)
 case atStart => exact ⟨0, Nat.zero_le _, rfl, by simpa using hown', hx1, hgl⟩
 case round =>
  obtain ⟨k, hk, rfl, hownk, hxr, hgr⟩ := hrel
  by_cases hlt : k < l.length
  ·obtain ⟨b, o, rfl, hb, a0, a1, a2⟩ := (ha.keep hxr).atSea hlt
   have hlk := hownk.1
   obtain ⟨x0, e0⟩ : ∃ x, wr.cell? ⟨g, k * 3, none⟩ = some x := ⟨_, (World.ownsRow.cellAt hownk (k * 3) (by omega)).trans (List.getElem?_eq_getElem (by omega))⟩
   obtain ⟨x1, e1⟩ : ∃ x, wr.cell? ⟨g, k * 3 + 1, none⟩ = some x := ⟨_, (World.ownsRow.cellAt hownk (k * 3 + 1) (by omega)).trans (List.getElem?_eq_getElem (by omega))⟩
   obtain ⟨x2, e2⟩ : ∃ x, wr.cell? ⟨g, k * 3 + 2, none⟩ = some x := ⟨_, (World.ownsRow.cellAt hownk (k * 3 + 2) (by omega)).trans (List.getElem?_eq_getElem (by omega))⟩
   have hfz := World.ownsRow.frozenAt hownk
   have HO := Hd hownk
   clear hlk hownk
   go_wp2_with (go_at_call 146; refine (c_toSeat _ _ _ _).mono ?_; rintro e w2 ⟨rfl, hx2⟩; obtain ⟨hc1, hf1, hs1⟩ := hx2.rules)
   have s0 := World.ownsRow.stored (ownsRow_ext HO.out hx2) (k * 3) (.int .i64 l[k].client)
   have s1 := World.ownsRow.stored s0.1 (k * 3 + 1) (.int .i64 l[k].req)
   have s2 := World.ownsRow.stored s1.1 (k * 3 + 2) (.int .i64 l[k].answer)
   have hnext := setAll_next Sea.enc_len l zs k hlt hlen
   go_roundw
   case rel => exact ⟨k + 1, by omega, by go_num, ownsRow_congr s2.1 hnext, ext_set (ext_set (ext_set (Ext.trans hxr hx2) hgB _) hgB _) hgB _, by simp; omega⟩
   case measure => simp [intOf]; omega
  ·have hkl : k = l.length := by omega
   go_wp2
   go_ret
   refine ⟨g, rfl, ?_, hxr⟩
   unfold Ow
   refine ownsRow_congr hownk ?_
   rw [hkl, List.take_length, List.drop_eq_nil_of_le (by omega), List.append_nil]
set_option maxHeartbeats 1000000 in
theorem c_eqSeatS (A B : Option Addr) (ca cb : Nat) (a b : List Sea) (w : World) (ha : Rd Sea.enc 3 w A ca a) (hb : Rd Sea.enc 3 w B cb b) (hn : a.length ≤ 1099511627776) (hn2 : b.length ≤ 1099511627776) :
  Calls Tryz.prog 134 #[.slice A a.length ca, .slice B b.length cb] w fun e w' => e = .returned (.bool (eqB a b)) ∧ Ext w w' := by
 by_cases hl : a.length = b.length
 ·have hl' : ((a.length : Int) != (b.length : Int)) = false := by simp [hl]
  have HL := Hd hl
  clear hl
  go_enter Tryz.func134, Tryz.ntmps134
  go_wp2
  go_loopw [5] (fun i wr => ∃ k : Nat, k ≤ a.length ∧ i = .int .i64 k ∧ a.take k = b.take k ∧ Ext w wr) (fun i _ => a.length - (intOf i).toNat)
  case atStart => exact ⟨0, Nat.zero_le _, rfl, by simp, ext_refl _⟩
  case round =>
   obtain ⟨k, hk, rfl, ht, hx⟩ := hrel
   have HT := Hd ht
   clear ht
   by_cases hlt : k < a.length
   ·have hltb : k < b.length := by have := HL.out; omega
    obtain ⟨ab, ao, rfl, hab, a0, a1, a2⟩ := (ha.keep hx).atSea hlt
    obtain ⟨bb, bo, rfl, hbb, b0, b1, b2⟩ := (hb.keep hx).atSea hltb
    by_cases he : a[k] = b[k]
    ·have he' : eqB (⟨a[k].client, a[k].req, a[k].answer⟩ : Sea) ⟨b[k].client, b[k].req, b[k].answer⟩ = true := eqB_true he
     have HE := Hd he
     clear he
     go_wp2
     (refine wp_region_mix' (fun _ _ _ _ _ hq => hq) 10 (by kernel_rfl) (by kernel_rfl) (fun hg => ?_); simp only [headOps, Tc, Tz, List.filter_cons, List.filter_nil, isAlloc, Bool.not_false, Bf, if_true, if_false, List.append_nil, Dc, Dz])
     (repeat (refine wpMix_plain rfl rfl ?_; go_big_quiet_step (fail); refine wpQuiet_nil ?_))
     (refine wpMix_det rfl rfl rfl (enters Tryz.func149 (by kernel_rfl) rfl) (fun W hW => c_eqSeat' _ _ _ _ _ _ W) rfl ?_; simp only [Act.put, Sa, Sz, Ss])
     (repeat (refine wpMix_plain rfl rfl ?_; go_big_quiet_step (fail); refine wpQuiet_nil ?_))
     refine wpMix_nil ?_
     intro w2 hx2
     go_wp2
     go_roundw
     case rel => exact ⟨k + 1, by omega, by go_num, take_eq_next hlt hltb HT.out HE.out, Ext.trans hx hx2⟩
     case measure => simp [intOf]; omega
    ·have he' : eqB (⟨a[k].client, a[k].req, a[k].answer⟩ : Sea) ⟨b[k].client, b[k].req, b[k].answer⟩ = false := eqB_false he
     have hne : eqB a b = false := eqB_false (by rintro rfl; exact he rfl)
     have HN := Hd hne
     clear he hne
     go_wp2
     (refine wp_region_mix' (fun _ _ _ _ _ hq => hq) 10 (by kernel_rfl) (by kernel_rfl) (fun hg => ?_); simp only [headOps, Tc, Tz, List.filter_cons, List.filter_nil, isAlloc, Bool.not_false, Bf, if_true, if_false, List.append_nil, Dc, Dz])
     (repeat (refine wpMix_plain rfl rfl ?_; go_big_quiet_step (fail); refine wpQuiet_nil ?_))
     (refine wpMix_det rfl rfl rfl (enters Tryz.func149 (by kernel_rfl) rfl) (fun W hW => c_eqSeat' _ _ _ _ _ _ W) rfl ?_; simp only [Act.put, Sa, Sz, Ss])
     (repeat (refine wpMix_plain rfl rfl ?_; go_big_quiet_step (fail); refine wpQuiet_nil ?_))
     refine wpMix_nil ?_
     intro w2 hx2
     go_wp2
     go_ret
     exact ⟨ret_bool (by rw [HN.out]), Ext.trans hx hx2⟩
   ·have hkl : k = a.length := by omega
    go_wp2
    go_ret
    refine ⟨ret_bool ?_, hx⟩
    have h1 := HT.out
    rw [hkl, List.take_length, HL.out, List.take_length] at h1
    exact (eqB_true h1).symm
 ·have hl' : ((a.length : Int) != (b.length : Int)) = true := by simp; omega
  have hne : eqB a b = false := eqB_false (by rintro rfl; exact hl rfl)
  have HN := Hd hne
  clear hl hne
  go_enter Tryz.func134, Tryz.ntmps134
  go_wp2
  go_ret
  exact ⟨ret_bool (by rw [HN.out]), ext_refl _⟩
def Sea.mark (k : Int) (i : Nat) : Sea := ⟨k + 3 * i, k + 3 * i + 1, k + 3 * i + 1 + 1⟩
def marksSea (k : Int) (n : Nat) : List Sea := (List.range n).map (Sea.mark k)
theorem marksSea_length (k : Int) (n : Nat) : (marksSea k n).length = n := by simp [marksSea]
theorem c_toCmd (k x v : Int) (w : World) : Calls Tryz.prog 147 #[.agg #[.int .i64 k, .int .i64 x, .int .i64 v]] w fun e w' => e = .returned (.agg #[.int .i64 k, .int .i64 x, .int .i64 v]) ∧ Ext w w' := by
 go_enter Tryz.func147, Tryz.ntmps147
 go_wp2
 exact bodyPost_ret (v := .agg #[.int .i64 k, .int .i64 x, .int .i64 v]) (by simp [results, Tryz.results147, go_sem]) rfl ⟨rfl, by (repeat (first | with_reducible exact ext_refl _ | with_reducible refine ext_to ?_ _ | with_reducible refine ext_set ?_ (by first | (simp; done) | (simp; omega) | omega) _ | with_reducible refine ext_drew ?_ | with_reducible refine Ext.trans ?_ (by assumption)))⟩
theorem c_toEntry (client req kind key value : Int) (w : World) : Calls Tryz.prog 130 #[.agg #[.int .i64 client, .int .i64 req, .int .i64 kind, .int .i64 key, .int .i64 value]] w fun e w' => e = .returned (.agg #[.int .i64 client, .int .i64 req, .int .i64 kind, .int .i64 key, .int .i64 value]) ∧ Ext w w' := by
 go_enter Tryz.func130, Tryz.ntmps130
 go_wp2_with (go_at_call 147; refine (c_toCmd _ _ _ _).mono ?_; rintro e w1 ⟨rfl, hx⟩; have B1 := hx.cell (k := w.heap.size + 1) (hOld (hNew (by simp))); have B2 := hx.cell (k := w.heap.size + 1 + 1) (hNew (by simp)); obtain ⟨hc1, hf1, hs1⟩ := hx.rules; clear hc1; (try simp at hs1); have z0 : w.heap.size < w1.heap.size := (by omega); have z1 : w.heap.size + 1 < w1.heap.size := (by omega); have z2 : w.heap.size + 1 + 1 < w1.heap.size := (by omega))
 exact bodyPost_ret (v := .agg #[.int .i64 client, .int .i64 req, .int .i64 kind, .int .i64 key, .int .i64 value]) (by simp [results, Tryz.results130, go_sem, *]) rfl ⟨rfl, by (repeat (first | with_reducible exact ext_refl _ | with_reducible refine ext_to ?_ _ | with_reducible refine ext_set ?_ (by first | (simp; done) | (simp; omega) | omega) _ | with_reducible refine ext_drew ?_ | with_reducible refine Ext.trans ?_ (by assumption)))⟩
theorem c_eqCmd (k x v k' x' v' : Int) (w : World) : Calls Tryz.prog 150 #[.agg #[.int .i64 k, .int .i64 x, .int .i64 v], .agg #[.int .i64 k', .int .i64 x', .int .i64 v']] w fun e w' => e = .returned (.bool (decide (k = k' ∧ x = x' ∧ v = v'))) ∧ Ext w w' := by
 go_enter Tryz.func150, Tryz.ntmps150
 go_wp2
 all_goals
  go_ret
  refine ⟨ret_bool ?_, ?_⟩
  ·simp [*]
   try (simp at *; simp [*])
  ·(repeat (first | with_reducible exact ext_refl _ | with_reducible refine ext_to ?_ _ | with_reducible refine ext_set ?_ (by first | (simp; done) | (simp; omega) | omega) _ | with_reducible refine ext_drew ?_ | with_reducible refine Ext.trans ?_ (by assumption)))
theorem Ent.enc_len (r : Ent) : r.enc.length = 5 := rfl
theorem Rd.atEnt {w : World} {A : Option Addr} {c : Nat} {l : List Ent} (h : Rd Ent.enc 5 w A c l) {k : Nat} (hk : k < l.length) : ∃ b o, A = some ⟨b, o, none⟩ ∧ b < w.heap.size ∧
  w.cell? ⟨b, o + k * 5, none⟩ = some (.int .i64 l[k].client) ∧ w.cell? ⟨b, o + k * 5 + 1, none⟩ = some (.int .i64 l[k].req) ∧ w.cell? ⟨b, o + k * 5 + 2, none⟩ = some (.int .i64 l[k].kind) ∧ w.cell? ⟨b, o + k * 5 + 3, none⟩ = some (.int .i64 l[k].key) ∧ w.cell? ⟨b, o + k * 5 + 4, none⟩ = some (.int .i64 l[k].value) := by
 obtain ⟨b, o, e, hlt, hc⟩ := h.2.2 (by omega)
 exact ⟨b, o, e, hlt, hc k hk 0 _ rfl, hc k hk 1 _ rfl, hc k hk 2 _ rfl, hc k hk 3 _ rfl, hc k hk 4 _ rfl⟩
theorem c_szEntryS_le (A : Option Addr) (n c : Nat) (left : Int) (h0 : 0 ≤ left) (h1 : left ≤ 1048576) (hn : (n : Int) ≤ 9223372036854775807) (h : (n : Int) ≤ left) (w : World) :
  Calls Tryz.prog 102 #[.slice A n c, .int .i64 left] w fun e w' => e = .returned (.int .i64 (left - n)) ∧ Ext w w' := by
 go_enter Tryz.func102, Tryz.ntmps102
 go_wp2
 go_ret
 exact ⟨rfl, ext_refl _⟩
theorem c_szEntryS_gt (A : Option Addr) (n c : Nat) (left : Int) (h0 : 0 ≤ left) (h1 : left ≤ 1048576) (hn : (n : Int) ≤ 9223372036854775807) (h : left < (n : Int)) (w : World) :
  Calls Tryz.prog 102 #[.slice A n c, .int .i64 left] w fun e w' => e = .returned (.int .i64 (-1)) ∧ Ext w w' := by
 go_enter Tryz.func102, Tryz.ntmps102
 go_wp2
 go_ret
 exact ⟨rfl, ext_refl _⟩
theorem Tryz.infoEnt : (Tryz.prog.info? 124).map (fun i => (i.zero, i.size, i.bytes)) = some (some (.agg #[.int .i64 0, .int .i64 0, .int .i64 0, .int .i64 0, .int .i64 0]), 5, 40) := by kernel_rfl
set_option maxHeartbeats 1000000 in
theorem c_toEntryS (A : Option Addr) (c : Nat) (l : List Ent) (w : World) (ha : Rd Ent.enc 5 w A c l) (hn : l.length ≤ 1048576) :
  Calls Tryz.prog 107 #[.slice A l.length c] w fun e w' => ∃ g, e = .returned (.slice (some ⟨g, 0, none⟩) l.length l.length) ∧ Ow Ent.enc 124 5 w' w.heap.size (.slice (some ⟨g, 0, none⟩) l.length l.length) l ∧ Ext w w' := by
 obtain ⟨i0, hi, hz0, hz1, hz2⟩ := info_parts Tryz.infoEnt
 have hcap2 : (l.length : Int) ≤ 9223372036854775807 := by omega
 go_enter Tryz.func107, Tryz.ntmps107
 go_wp2_with (at_make; refine wpList_make_full _ rfl _ _ 51 rfl w.heap.size 124 i0 (.agg #[.int .i64 0, .int .i64 0, .int .i64 0, .int .i64 0, .int .i64 0]) 5 Tryz.underlying51 hi hz0 hz1 .i64 .i64 _ _ l.length rfl rfl rfl rfl ?c1 ?c2 ?c3 ?_)
 case c1 => rw [hz2]; omega
 case c2 => unfold maxLen; omega
 case c3 => simp
 intro w1 hown hgr
 have hx1 : Ext w w1 := Below.grown (Below.refl _ _) hgr (Nat.le_refl _) (fun k hk => by cases hk)
 have hgl : w.heap.size < w1.heap.size := (World.ownsRow.lt hown _ rfl).2
 obtain ⟨g, hgv⟩ : ∃ g, g = w.heap.size := ⟨_, rfl⟩
 have hown' : w1.ownsRow w.heap.size 124 5 (.slice (some ⟨g, 0, none⟩) l.length l.length) l.length ((madeCells (.agg #[.int .i64 0, .int .i64 0, .int .i64 0, .int .i64 0, .int .i64 0] : Value).cells (l.length * 5)).toList) := by rw [hgv]; exact hown
 have hlen : ((madeCells (.agg #[.int .i64 0, .int .i64 0, .int .i64 0, .int .i64 0, .int .i64 0] : Value).cells (l.length * 5)).toList).length = l.length * 5 := by simp [size_madeCells]
 generalize (madeCells (.agg #[.int .i64 0, .int .i64 0, .int .i64 0, .int .i64 0, .int .i64 0] : Value).cells (l.length * 5)).toList = zs at hown' hlen
 have hgB : w.heap.size ≤ g := by omega
 have hgl : g < w1.heap.size := by omega
 rw [← hgv]
 clear hown hgv hgr hz0 hz1 hz2 hi
 go_wp2
 go_loopw [4] (fun i wr => ∃ k : Nat, k ≤ l.length ∧ i = .int .i64 k ∧ wr.ownsRow w.heap.size 124 5 (.slice (some ⟨g, 0, none⟩) l.length l.length) l.length ((l.take k).flatMap Ent.enc ++ zs.drop (k * 5)) ∧ Ext w wr ∧ g < wr.heap.size) (fun i _ => l.length - (intOf i).toNat)
 case atStart => exact ⟨0, Nat.zero_le _, rfl, by simpa using hown', hx1, hgl⟩
 case round =>
  obtain ⟨k, hk, rfl, hownk, hxr, hgr⟩ := hrel
  by_cases hlt : k < l.length
  ·obtain ⟨b, o, rfl, hb, a0, a1, a2, a3, a4⟩ := (ha.keep hxr).atEnt hlt
   have hlk := hownk.1
   obtain ⟨x0, e0⟩ : ∃ x, wr.cell? ⟨g, k * 5, none⟩ = some x := ⟨_, (World.ownsRow.cellAt hownk (k * 5) (by omega)).trans (List.getElem?_eq_getElem (by omega))⟩
   obtain ⟨x1, e1⟩ : ∃ x, wr.cell? ⟨g, k * 5 + 1, none⟩ = some x := ⟨_, (World.ownsRow.cellAt hownk (k * 5 + 1) (by omega)).trans (List.getElem?_eq_getElem (by omega))⟩
   obtain ⟨x2, e2⟩ : ∃ x, wr.cell? ⟨g, k * 5 + 2, none⟩ = some x := ⟨_, (World.ownsRow.cellAt hownk (k * 5 + 2) (by omega)).trans (List.getElem?_eq_getElem (by omega))⟩
   obtain ⟨x3, e3⟩ : ∃ x, wr.cell? ⟨g, k * 5 + 3, none⟩ = some x := ⟨_, (World.ownsRow.cellAt hownk (k * 5 + 3) (by omega)).trans (List.getElem?_eq_getElem (by omega))⟩
   obtain ⟨x4, e4⟩ : ∃ x, wr.cell? ⟨g, k * 5 + 4, none⟩ = some x := ⟨_, (World.ownsRow.cellAt hownk (k * 5 + 4) (by omega)).trans (List.getElem?_eq_getElem (by omega))⟩
   have hfz := World.ownsRow.frozenAt hownk
   have HO := Hd hownk
   clear hlk hownk
   go_wp2_with (go_at_call 130; refine (c_toEntry _ _ _ _ _ _).mono ?_; rintro e w2 ⟨rfl, hx2⟩; obtain ⟨hc1, hf1, hs1⟩ := hx2.rules)
   have s0 := World.ownsRow.stored (ownsRow_ext HO.out hx2) (k * 5) (.int .i64 l[k].client)
   have s1 := World.ownsRow.stored s0.1 (k * 5 + 1) (.int .i64 l[k].req)
   have s2 := World.ownsRow.stored s1.1 (k * 5 + 2) (.int .i64 l[k].kind)
   have s3 := World.ownsRow.stored s2.1 (k * 5 + 3) (.int .i64 l[k].key)
   have s4 := World.ownsRow.stored s3.1 (k * 5 + 4) (.int .i64 l[k].value)
   have hnext := setAll_next Ent.enc_len l zs k hlt hlen
   go_roundw
   case rel => exact ⟨k + 1, by omega, by go_num, ownsRow_congr s4.1 hnext, ext_set (ext_set (ext_set (ext_set (ext_set (Ext.trans hxr hx2) hgB _) hgB _) hgB _) hgB _) hgB _, by simp; omega⟩
   case measure => simp [intOf]; omega
  ·have hkl : k = l.length := by omega
   go_wp2
   go_ret
   refine ⟨g, rfl, ?_, hxr⟩
   unfold Ow
   refine ownsRow_congr hownk ?_
   rw [hkl, List.take_length, List.drop_eq_nil_of_le (by omega), List.append_nil]
def Ent.mark (k : Int) (i : Nat) : Ent := ⟨k + 5 * i, k + 5 * i + 1, k + 5 * i + 1 + 1, k + 5 * i + 1 + 1 + 1, k + 5 * i + 1 + 1 + 1 + 1⟩
def marksEnt (k : Int) (n : Nat) : List Ent := (List.range n).map (Ent.mark k)
theorem marksEnt_length (k : Int) (n : Nat) : (marksEnt k n).length = n := by simp [marksEnt]
theorem c_eqEntry' (client req kind key value client' req' kind' key' value' : Int) (w : World) : Calls Tryz.prog 135 #[.agg #[.int .i64 client, .int .i64 req, .int .i64 kind, .int .i64 key, .int .i64 value], .agg #[.int .i64 client', .int .i64 req', .int .i64 kind', .int .i64 key', .int .i64 value']] w fun e w' => e = .returned (.bool (eqB (⟨client, req, kind, key, value⟩ : Ent) ⟨client', req', kind', key', value'⟩)) ∧ Ext w w' := by
 go_enter Tryz.func135, Tryz.ntmps135
 go_wp2_with (go_at_call 150; refine (c_eqCmd _ _ _ _ _ _ _).mono ?_; rintro e w1 ⟨rfl, hx⟩; obtain ⟨hc1, hf1, hs1⟩ := hx.rules; (try simp at hs1); have z0 : w.heap.size < w1.heap.size := (by omega); have z1 : w.heap.size + 1 < w1.heap.size := (by omega))
 all_goals
  go_ret
  refine ⟨ret_bool ?_, ?_⟩
  ·rw [Bool.eq_iff_iff]
   simp only [eqB, decide_eq_true_eq, Ent.mk.injEq, Bf, Bool.not_eq_true', bne_iff_ne, bne_eq_false_iff_eq, ne_eq, decide_eq_false_iff_not, iff_true, iff_false, true_iff, false_iff, Bool.not_eq_true] at *
   first
    | (simp only [*, and_self, not_and]; done)
    | (intro h; simp_all; done)
    | (simp_all; done)
  ·(repeat (first | with_reducible exact ext_refl _ | with_reducible refine ext_to ?_ _ | with_reducible refine ext_set ?_ (by first | (simp; done) | (simp; omega) | omega) _ | with_reducible refine ext_drew ?_ | with_reducible refine Ext.trans ?_ (by assumption)))
set_option maxHeartbeats 1000000 in
theorem c_eqEntryS (A B : Option Addr) (ca cb : Nat) (a b : List Ent) (w : World) (ha : Rd Ent.enc 5 w A ca a) (hb : Rd Ent.enc 5 w B cb b) (hn : a.length ≤ 1099511627776) (hn2 : b.length ≤ 1099511627776) :
  Calls Tryz.prog 115 #[.slice A a.length ca, .slice B b.length cb] w fun e w' => e = .returned (.bool (eqB a b)) ∧ Ext w w' := by
 by_cases hl : a.length = b.length
 ·have hl' : ((a.length : Int) != (b.length : Int)) = false := by simp [hl]
  have HL := Hd hl
  clear hl
  go_enter Tryz.func115, Tryz.ntmps115
  go_wp2
  go_loopw [5] (fun i wr => ∃ k : Nat, k ≤ a.length ∧ i = .int .i64 k ∧ a.take k = b.take k ∧ Ext w wr) (fun i _ => a.length - (intOf i).toNat)
  case atStart => exact ⟨0, Nat.zero_le _, rfl, by simp, ext_refl _⟩
  case round =>
   obtain ⟨k, hk, rfl, ht, hx⟩ := hrel
   have HT := Hd ht
   clear ht
   by_cases hlt : k < a.length
   ·have hltb : k < b.length := by have := HL.out; omega
    obtain ⟨ab, ao, rfl, hab, a0, a1, a2, a3, a4⟩ := (ha.keep hx).atEnt hlt
    obtain ⟨bb, bo, rfl, hbb, b0, b1, b2, b3, b4⟩ := (hb.keep hx).atEnt hltb
    by_cases he : a[k] = b[k]
    ·have he' : eqB (⟨a[k].client, a[k].req, a[k].kind, a[k].key, a[k].value⟩ : Ent) ⟨b[k].client, b[k].req, b[k].kind, b[k].key, b[k].value⟩ = true := eqB_true he
     have HE := Hd he
     clear he
     go_wp2
     (refine wp_region_mix' (fun _ _ _ _ _ hq => hq) 10 (by kernel_rfl) (by kernel_rfl) (fun hg => ?_); simp only [headOps, Tc, Tz, List.filter_cons, List.filter_nil, isAlloc, Bool.not_false, Bf, if_true, if_false, List.append_nil, Dc, Dz])
     (repeat (refine wpMix_plain rfl rfl ?_; go_big_quiet_step (fail); refine wpQuiet_nil ?_))
     (refine wpMix_det rfl rfl rfl (enters Tryz.func135 (by kernel_rfl) rfl) (fun W hW => c_eqEntry' _ _ _ _ _ _ _ _ _ _ W) rfl ?_; simp only [Act.put, Sa, Sz, Ss])
     (repeat (refine wpMix_plain rfl rfl ?_; go_big_quiet_step (fail); refine wpQuiet_nil ?_))
     refine wpMix_nil ?_
     intro w2 hx2
     go_wp2
     go_roundw
     case rel => exact ⟨k + 1, by omega, by go_num, take_eq_next hlt hltb HT.out HE.out, Ext.trans hx hx2⟩
     case measure => simp [intOf]; omega
    ·have he' : eqB (⟨a[k].client, a[k].req, a[k].kind, a[k].key, a[k].value⟩ : Ent) ⟨b[k].client, b[k].req, b[k].kind, b[k].key, b[k].value⟩ = false := eqB_false he
     have hne : eqB a b = false := eqB_false (by rintro rfl; exact he rfl)
     have HN := Hd hne
     clear he hne
     go_wp2
     (refine wp_region_mix' (fun _ _ _ _ _ hq => hq) 10 (by kernel_rfl) (by kernel_rfl) (fun hg => ?_); simp only [headOps, Tc, Tz, List.filter_cons, List.filter_nil, isAlloc, Bool.not_false, Bf, if_true, if_false, List.append_nil, Dc, Dz])
     (repeat (refine wpMix_plain rfl rfl ?_; go_big_quiet_step (fail); refine wpQuiet_nil ?_))
     (refine wpMix_det rfl rfl rfl (enters Tryz.func135 (by kernel_rfl) rfl) (fun W hW => c_eqEntry' _ _ _ _ _ _ _ _ _ _ W) rfl ?_; simp only [Act.put, Sa, Sz, Ss])
     (repeat (refine wpMix_plain rfl rfl ?_; go_big_quiet_step (fail); refine wpQuiet_nil ?_))
     refine wpMix_nil ?_
     intro w2 hx2
     go_wp2
     go_ret
     exact ⟨ret_bool (by rw [HN.out]), Ext.trans hx hx2⟩
   ·have hkl : k = a.length := by omega
    go_wp2
    go_ret
    refine ⟨ret_bool ?_, hx⟩
    have h1 := HT.out
    rw [hkl, List.take_length, HL.out, List.take_length] at h1
    exact (eqB_true h1).symm
 ·have hl' : ((a.length : Int) != (b.length : Int)) = true := by simp; omega
  have hne : eqB a b = false := eqB_false (by rintro rfl; exact hl rfl)
  have HN := Hd hne
  clear hl hne
  go_enter Tryz.func115, Tryz.ntmps115
  go_wp2
  go_ret
  exact ⟨ret_bool (by rw [HN.out]), ext_refl _⟩
end Go.Proofs.YtmphedkbdlckhaaGreat
