/- Flights, replies, rows of replicas, groups: what they are, how they lie in memory, and the laws' own functions on them. -/
import Derived.Test.YtmphedkbdlckhaaGreatPk13
import Derived.Test.YtmphedkbdlckhaaGreatPk14
namespace Go.Proofs.YtmphedkbdlckhaaGreat
open Go.ChangeShapes Go.WideShapes Go.ChangeAt Go.RowKit Go.Sort
set_option linter.unusedVariables false
set_option linter.unusedSimpArgs false
structure Fl where
 id : Int
 to : Int
 bytes : ByteArray
deriving DecidableEq
def Fl.enc (r : Fl) : List Value := [.int .i64 r.id, .int .i64 r.to, .string r.bytes]
theorem ba_eq {a b : ByteArray} : a.toList = b.toList ↔ a = b := ⟨fun h => Go.WideShapes.bytes_inj (by rwa [ByteArray.toList_eq, ByteArray.toList_eq] at h), fun h => by rw [h]⟩
theorem Fl.enc_len (r : Fl) : r.enc.length = 3 := rfl
theorem Rd.atFl {w : World} {A : Option Addr} {c : Nat} {l : List Fl} (h : Rd Fl.enc 3 w A c l) {k : Nat} (hk : k < l.length) : ∃ b o, A = some ⟨b, o, none⟩ ∧ b < w.heap.size ∧
  w.cell? ⟨b, o + k * 3, none⟩ = some (.int .i64 l[k].id) ∧ w.cell? ⟨b, o + k * 3 + 1, none⟩ = some (.int .i64 l[k].to) ∧ w.cell? ⟨b, o + k * 3 + 2, none⟩ = some (.string l[k].bytes) := by
 obtain ⟨b, o, e, hlt, hc⟩ := h.2.2 (by omega)
 exact ⟨b, o, e, hlt, hc k hk 0 _ rfl, hc k hk 1 _ rfl, hc k hk 2 _ rfl⟩
theorem c_toFlight (id to : Int) (bytes : ByteArray) (w : World) : Calls Tryz.prog 89 #[.agg #[.int .i64 id, .int .i64 to, .string bytes]] w fun e w' => e = .returned (.agg #[.int .i64 id, .int .i64 to, .string bytes]) ∧ Ext w w' := by
 go_enter Tryz.func89, Tryz.ntmps89
 go_wp2
 exact bodyPost_ret (v := .agg #[.int .i64 id, .int .i64 to, .string bytes]) (by simp [results, Tryz.results89, go_sem]) rfl ⟨rfl, ext_to (ext_to (ext_alloc _ _) _) _⟩
theorem c_eqFlight' (id to : Int) (bytes : ByteArray) (id' to' : Int) (bytes' : ByteArray) (w : World) : Calls Tryz.prog 96 #[.agg #[.int .i64 id, .int .i64 to, .string bytes], .agg #[.int .i64 id', .int .i64 to', .string bytes']] w fun e w' => e = .returned (.bool (eqB (⟨id, to, bytes⟩ : Fl) ⟨id', to', bytes'⟩)) ∧ Ext w w' := by
 go_enter Tryz.func96, Tryz.ntmps96
 go_wp2
 all_goals
  go_ret
  refine ⟨ret_bool ?_, ?_⟩
  ·simp [eqB, *]
   try (simp at *; simp [*])
   try (rw [← ba_eq]; assumption)
  ·(repeat (first | with_reducible exact ext_refl _ | with_reducible refine ext_to ?_ _ | with_reducible refine ext_set ?_ (by first | (simp; done) | (simp; omega) | omega) _ | with_reducible refine ext_drew ?_ | with_reducible refine Ext.trans ?_ (by assumption)))
theorem Tryz.infoFl : (Tryz.prog.info? 59).map (fun i => (i.zero, i.size, i.bytes)) = some (some (.agg #[.int .i64 0, .int .i64 0, .string ⟨#[]⟩]), 3, 32) := by kernel_rfl
set_option maxHeartbeats 1000000 in
theorem c_toFlightS (A : Option Addr) (c : Nat) (l : List Fl) (w : World) (ha : Rd Fl.enc 3 w A c l) (hn : l.length ≤ 1048576) :
  Calls Tryz.prog 62 #[.slice A l.length c] w fun e w' => ∃ g, e = .returned (.slice (some ⟨g, 0, none⟩) l.length l.length) ∧ Ow Fl.enc 59 3 w' w.heap.size (.slice (some ⟨g, 0, none⟩) l.length l.length) l ∧ Ext w w' := by
 obtain ⟨i0, hi, hz0, hz1, hz2⟩ := info_parts Tryz.infoFl
 have hcap2 : (l.length : Int) ≤ 9223372036854775807 := by omega
 go_enter Tryz.func62, Tryz.ntmps62
 go_wp2_with (at_make; refine wpList_make_full _ rfl _ _ 32 rfl w.heap.size 59 i0 (.agg #[.int .i64 0, .int .i64 0, .string ⟨#[]⟩]) 3 Tryz.underlying32 hi hz0 hz1 .i64 .i64 _ _ l.length rfl rfl rfl rfl ?c1 ?c2 ?c3 ?_)
 case c1 => rw [hz2]; omega
 case c2 => unfold maxLen; omega
 case c3 => simp
 intro w1 hown hgr
 have hx1 : Ext w w1 := Below.grown (Below.refl _ _) hgr (Nat.le_refl _) (fun k hk => by cases hk)
 have hgl : w.heap.size < w1.heap.size := (World.ownsRow.lt hown _ rfl).2
 obtain ⟨g, hgv⟩ : ∃ g, g = w.heap.size := ⟨_, rfl⟩
 have hown' : w1.ownsRow w.heap.size 59 3 (.slice (some ⟨g, 0, none⟩) l.length l.length) l.length ((madeCells (.agg #[.int .i64 0, .int .i64 0, .string ⟨#[]⟩] : Value).cells (l.length * 3)).toList) := by rw [hgv]; exact hown
 have hlen : ((madeCells (.agg #[.int .i64 0, .int .i64 0, .string ⟨#[]⟩] : Value).cells (l.length * 3)).toList).length = l.length * 3 := by simp [size_madeCells]
 generalize (madeCells (.agg #[.int .i64 0, .int .i64 0, .string ⟨#[]⟩] : Value).cells (l.length * 3)).toList = zs at hown' hlen
 have hgB : w.heap.size ≤ g := by omega
 have hgl : g < w1.heap.size := by omega
 rw [← hgv]
 clear hown hgv hgr hz0 hz1 hz2 hi
 go_wp2
 go_loopw [4] (fun i wr => ∃ k : Nat, k ≤ l.length ∧ i = .int .i64 k ∧ wr.ownsRow w.heap.size 59 3 (.slice (some ⟨g, 0, none⟩) l.length l.length) l.length ((l.take k).flatMap Fl.enc ++ zs.drop (k * 3)) ∧ Ext w wr ∧ g < wr.heap.size) (fun i _ => l.length - (intOf i).toNat)
 case atStart => exact ⟨0, Nat.zero_le _, rfl, by simpa using hown', hx1, hgl⟩
 case round =>
  obtain ⟨k, hk, rfl, hownk, hxr, hgr⟩ := hrel
  by_cases hlt : k < l.length
  ·obtain ⟨b, o, rfl, hb, a0, a1, a2⟩ := (ha.keep hxr).atFl hlt
   have hlk := hownk.1
   obtain ⟨x0, e0⟩ : ∃ x, wr.cell? ⟨g, k * 3, none⟩ = some x := ⟨_, (World.ownsRow.cellAt hownk (k * 3) (by omega)).trans (List.getElem?_eq_getElem (by omega))⟩
   obtain ⟨x1, e1⟩ : ∃ x, wr.cell? ⟨g, k * 3 + 1, none⟩ = some x := ⟨_, (World.ownsRow.cellAt hownk (k * 3 + 1) (by omega)).trans (List.getElem?_eq_getElem (by omega))⟩
   obtain ⟨x2, e2⟩ : ∃ x, wr.cell? ⟨g, k * 3 + 2, none⟩ = some x := ⟨_, (World.ownsRow.cellAt hownk (k * 3 + 2) (by omega)).trans (List.getElem?_eq_getElem (by omega))⟩
   have hfz := World.ownsRow.frozenAt hownk
   have HO := Hd hownk
   clear hlk hownk
   go_wp2_with (go_at_call 89; refine (c_toFlight _ _ _ _).mono ?_; rintro e w2 ⟨rfl, hx2⟩; obtain ⟨hc1, hf1, hs1⟩ := hx2.rules)
   have s0 := World.ownsRow.stored (ownsRow_ext HO.out hx2) (k * 3) (.int .i64 l[k].id)
   have s1 := World.ownsRow.stored s0.1 (k * 3 + 1) (.int .i64 l[k].to)
   have s2 := World.ownsRow.stored s1.1 (k * 3 + 2) (.string l[k].bytes)
   have hnext := setAll_next Fl.enc_len l zs k hlt hlen
   go_roundw
   case rel => exact ⟨k + 1, by omega, by go_num, ownsRow_congr s2.1 hnext, ext_set (ext_set (ext_set (Ext.trans hxr hx2) hgB _) hgB _) hgB _, by simp; omega⟩
   case measure => simp [intOf]; omega
  ·have hkl : k = l.length := by omega
   go_wp2
   go_ret
   refine ⟨g, rfl, ?_, hxr⟩
   unfold Ow
   refine ownsRow_congr hownk ?_
   rw [hkl, List.take_length, List.drop_eq_nil_of_le (by omega), List.append_nil]
set_option maxHeartbeats 1000000 in
theorem c_eqFlightS (A B : Option Addr) (ca cb : Nat) (a b : List Fl) (w : World) (ha : Rd Fl.enc 3 w A ca a) (hb : Rd Fl.enc 3 w B cb b) (hn : a.length ≤ 1099511627776) (hn2 : b.length ≤ 1099511627776) :
  Calls Tryz.prog 75 #[.slice A a.length ca, .slice B b.length cb] w fun e w' => e = .returned (.bool (eqB a b)) ∧ Ext w w' := by
 by_cases hl : a.length = b.length
 ·have hl' : ((a.length : Int) != (b.length : Int)) = false := by simp [hl]
  have HL := Hd hl
  clear hl
  go_enter Tryz.func75, Tryz.ntmps75
  go_wp2
  go_loopw [5] (fun i wr => ∃ k : Nat, k ≤ a.length ∧ i = .int .i64 k ∧ a.take k = b.take k ∧ Ext w wr) (fun i _ => a.length - (intOf i).toNat)
  case atStart => exact ⟨0, Nat.zero_le _, rfl, by simp, ext_refl _⟩
  case round =>
   obtain ⟨k, hk, rfl, ht, hx⟩ := hrel
   have HT := Hd ht
   clear ht
   by_cases hlt : k < a.length
   ·have hltb : k < b.length := by have := HL.out; omega
    obtain ⟨ab, ao, rfl, hab, a0, a1, a2⟩ := (ha.keep hx).atFl hlt
    obtain ⟨bb, bo, rfl, hbb, b0, b1, b2⟩ := (hb.keep hx).atFl hltb
    by_cases he : a[k] = b[k]
    ·have he' : eqB (⟨a[k].id, a[k].to, a[k].bytes⟩ : Fl) ⟨b[k].id, b[k].to, b[k].bytes⟩ = true := eqB_true he
     have HE := Hd he
     clear he
     go_wp2
     (refine wp_region_mix' (fun _ _ _ _ _ hq => hq) 10 (by kernel_rfl) (by kernel_rfl) (fun hg => ?_); simp only [headOps, Tc, Tz, List.filter_cons, List.filter_nil, isAlloc, Bool.not_false, Bf, if_true, if_false, List.append_nil, Dc, Dz])
     (repeat (refine wpMix_plain rfl rfl ?_; go_big_quiet_step (fail); refine wpQuiet_nil ?_))
     (refine wpMix_det rfl rfl rfl (enters Tryz.func96 (by kernel_rfl) rfl) (fun W hW => c_eqFlight' _ _ _ _ _ _ W) rfl ?_; simp only [Act.put, Sa, Sz, Ss])
     (repeat (refine wpMix_plain rfl rfl ?_; go_big_quiet_step (fail); refine wpQuiet_nil ?_))
     refine wpMix_nil ?_
     intro w2 hx2
     go_wp2
     go_roundw
     case rel => exact ⟨k + 1, by omega, by go_num, take_eq_next hlt hltb HT.out HE.out, Ext.trans hx hx2⟩
     case measure => simp [intOf]; omega
    ·have he' : eqB (⟨a[k].id, a[k].to, a[k].bytes⟩ : Fl) ⟨b[k].id, b[k].to, b[k].bytes⟩ = false := eqB_false he
     have hne : eqB a b = false := eqB_false (by rintro rfl; exact he rfl)
     have HN := Hd hne
     clear he hne
     go_wp2
     (refine wp_region_mix' (fun _ _ _ _ _ hq => hq) 10 (by kernel_rfl) (by kernel_rfl) (fun hg => ?_); simp only [headOps, Tc, Tz, List.filter_cons, List.filter_nil, isAlloc, Bool.not_false, Bf, if_true, if_false, List.append_nil, Dc, Dz])
     (repeat (refine wpMix_plain rfl rfl ?_; go_big_quiet_step (fail); refine wpQuiet_nil ?_))
     (refine wpMix_det rfl rfl rfl (enters Tryz.func96 (by kernel_rfl) rfl) (fun W hW => c_eqFlight' _ _ _ _ _ _ W) rfl ?_; simp only [Act.put, Sa, Sz, Ss])
     (repeat (refine wpMix_plain rfl rfl ?_; go_big_quiet_step (fail); refine wpQuiet_nil ?_))
     refine wpMix_nil ?_
     intro w2 hx2
     go_wp2
     go_ret
     exact ⟨ret_bool (by rw [HN.out]), Ext.trans hx hx2⟩
   ·have hkl : k = a.length := by omega
    go_wp2
    go_ret
    refine ⟨ret_bool ?_, hx⟩
    have h1 := HT.out
    rw [hkl, List.take_length, HL.out, List.take_length] at h1
    exact (eqB_true h1).symm
 ·have hl' : ((a.length : Int) != (b.length : Int)) = true := by simp; omega
  have hne : eqB a b = false := eqB_false (by rintro rfl; exact hl rfl)
  have HN := Hd hne
  clear hl hne
  go_enter Tryz.func75, Tryz.ntmps75
  go_wp2
  go_ret
  exact ⟨ret_bool (by rw [HN.out]), ext_refl _⟩
structure Ry where
 client : Int
 req : Int
 answer : Int
deriving DecidableEq
def Ry.enc (r : Ry) : List Value := [.int .i64 r.client, .int .i64 r.req, .int .i64 r.answer]
theorem Ry.enc_len (r : Ry) : r.enc.length = 3 := rfl
theorem Rd.atRy {w : World} {A : Option Addr} {c : Nat} {l : List Ry} (h : Rd Ry.enc 3 w A c l) {k : Nat} (hk : k < l.length) : ∃ b o, A = some ⟨b, o, none⟩ ∧ b < w.heap.size ∧
  w.cell? ⟨b, o + k * 3, none⟩ = some (.int .i64 l[k].client) ∧ w.cell? ⟨b, o + k * 3 + 1, none⟩ = some (.int .i64 l[k].req) ∧ w.cell? ⟨b, o + k * 3 + 2, none⟩ = some (.int .i64 l[k].answer) := by
 obtain ⟨b, o, e, hlt, hc⟩ := h.2.2 (by omega)
 exact ⟨b, o, e, hlt, hc k hk 0 _ rfl, hc k hk 1 _ rfl, hc k hk 2 _ rfl⟩
theorem c_toReply (client req answer : Int) (w : World) : Calls Tryz.prog 63 #[.agg #[.int .i64 client, .int .i64 req, .int .i64 answer]] w fun e w' => e = .returned (.agg #[.int .i64 client, .int .i64 req, .int .i64 answer]) ∧ Ext w w' := by
 go_enter Tryz.func63, Tryz.ntmps63
 go_wp2
 exact bodyPost_ret (v := .agg #[.int .i64 client, .int .i64 req, .int .i64 answer]) (by simp [results, Tryz.results63, go_sem]) rfl ⟨rfl, ext_to (ext_to (ext_alloc _ _) _) _⟩
theorem c_eqReply' (client req answer client' req' answer' : Int) (w : World) : Calls Tryz.prog 76 #[.agg #[.int .i64 client, .int .i64 req, .int .i64 answer], .agg #[.int .i64 client', .int .i64 req', .int .i64 answer']] w fun e w' => e = .returned (.bool (eqB (⟨client, req, answer⟩ : Ry) ⟨client', req', answer'⟩)) ∧ Ext w w' := by
 go_enter Tryz.func76, Tryz.ntmps76
 go_wp2
 all_goals
  go_ret
  refine ⟨ret_bool ?_, ?_⟩
  ·simp [eqB, *]
   try (simp at *; simp [*])
  ·(repeat (first | with_reducible exact ext_refl _ | with_reducible refine ext_to ?_ _ | with_reducible refine ext_set ?_ (by first | (simp; done) | (simp; omega) | omega) _ | with_reducible refine ext_drew ?_ | with_reducible refine Ext.trans ?_ (by assumption)))
theorem c_szReplyS_le (A : Option Addr) (n c : Nat) (left : Int) (h0 : 0 ≤ left) (h1 : left ≤ 1048576) (hn : (n : Int) ≤ 9223372036854775807) (h : (n : Int) ≤ left) (w : World) :
  Calls Tryz.prog 23 #[.slice A n c, .int .i64 left] w fun e w' => e = .returned (.int .i64 (left - n)) ∧ Ext w w' := by
 go_enter Tryz.func23, Tryz.ntmps23
 go_wp2
 go_ret
 exact ⟨rfl, ext_refl _⟩
theorem c_szReplyS_gt (A : Option Addr) (n c : Nat) (left : Int) (h0 : 0 ≤ left) (h1 : left ≤ 1048576) (hn : (n : Int) ≤ 9223372036854775807) (h : left < (n : Int)) (w : World) :
  Calls Tryz.prog 23 #[.slice A n c, .int .i64 left] w fun e w' => e = .returned (.int .i64 (-1)) ∧ Ext w w' := by
 go_enter Tryz.func23, Tryz.ntmps23
 go_wp2
 go_ret
 exact ⟨rfl, ext_refl _⟩
theorem Tryz.infoRy : (Tryz.prog.info? 61).map (fun i => (i.zero, i.size, i.bytes)) = some (some (.agg #[.int .i64 0, .int .i64 0, .int .i64 0]), 3, 24) := by kernel_rfl
set_option maxHeartbeats 1000000 in
theorem c_toReplyS (A : Option Addr) (c : Nat) (l : List Ry) (w : World) (ha : Rd Ry.enc 3 w A c l) (hn : l.length ≤ 1048576) :
  Calls Tryz.prog 31 #[.slice A l.length c] w fun e w' => ∃ g, e = .returned (.slice (some ⟨g, 0, none⟩) l.length l.length) ∧ Ow Ry.enc 61 3 w' w.heap.size (.slice (some ⟨g, 0, none⟩) l.length l.length) l ∧ Ext w w' := by
 obtain ⟨i0, hi, hz0, hz1, hz2⟩ := info_parts Tryz.infoRy
 have hcap2 : (l.length : Int) ≤ 9223372036854775807 := by omega
 go_enter Tryz.func31, Tryz.ntmps31
 go_wp2_with (at_make; refine wpList_make_full _ rfl _ _ 35 rfl w.heap.size 61 i0 (.agg #[.int .i64 0, .int .i64 0, .int .i64 0]) 3 Tryz.underlying35 hi hz0 hz1 .i64 .i64 _ _ l.length rfl rfl rfl rfl ?c1 ?c2 ?c3 ?_)
 case c1 => rw [hz2]; omega
 case c2 => unfold maxLen; omega
 case c3 => simp
 intro w1 hown hgr
 have hx1 : Ext w w1 := Below.grown (Below.refl _ _) hgr (Nat.le_refl _) (fun k hk => by cases hk)
 have hgl : w.heap.size < w1.heap.size := (World.ownsRow.lt hown _ rfl).2
 obtain ⟨g, hgv⟩ : ∃ g, g = w.heap.size := ⟨_, rfl⟩
 have hown' : w1.ownsRow w.heap.size 61 3 (.slice (some ⟨g, 0, none⟩) l.length l.length) l.length ((madeCells (.agg #[.int .i64 0, .int .i64 0, .int .i64 0] : Value).cells (l.length * 3)).toList) := by rw [hgv]; exact hown
 have hlen : ((madeCells (.agg #[.int .i64 0, .int .i64 0, .int .i64 0] : Value).cells (l.length * 3)).toList).length = l.length * 3 := by simp [size_madeCells]
 generalize (madeCells (.agg #[.int .i64 0, .int .i64 0, .int .i64 0] : Value).cells (l.length * 3)).toList = zs at hown' hlen
 have hgB : w.heap.size ≤ g := by omega
 have hgl : g < w1.heap.size := by omega
 rw [← hgv]
 clear hown hgv hgr hz0 hz1 hz2 hi
 go_wp2
 go_loopw [4] (fun i wr => ∃ k : Nat, k ≤ l.length ∧ i = .int .i64 k ∧ wr.ownsRow w.heap.size 61 3 (.slice (some ⟨g, 0, none⟩) l.length l.length) l.length ((l.take k).flatMap Ry.enc ++ zs.drop (k * 3)) ∧ Ext w wr ∧ g < wr.heap.size) (fun i _ => l.length - (intOf i).toNat)
 case atStart => exact ⟨0, Nat.zero_le _, rfl, by simpa using hown', hx1, hgl⟩
 case round =>
  obtain ⟨k, hk, rfl, hownk, hxr, hgr⟩ := hrel
  by_cases hlt : k < l.length
  ·obtain ⟨b, o, rfl, hb, a0, a1, a2⟩ := (ha.keep hxr).atRy hlt
   have hlk := hownk.1
   obtain ⟨x0, e0⟩ : ∃ x, wr.cell? ⟨g, k * 3, none⟩ = some x := ⟨_, (World.ownsRow.cellAt hownk (k * 3) (by omega)).trans (List.getElem?_eq_getElem (by omega))⟩
   obtain ⟨x1, e1⟩ : ∃ x, wr.cell? ⟨g, k * 3 + 1, none⟩ = some x := ⟨_, (World.ownsRow.cellAt hownk (k * 3 + 1) (by omega)).trans (List.getElem?_eq_getElem (by omega))⟩
   obtain ⟨x2, e2⟩ : ∃ x, wr.cell? ⟨g, k * 3 + 2, none⟩ = some x := ⟨_, (World.ownsRow.cellAt hownk (k * 3 + 2) (by omega)).trans (List.getElem?_eq_getElem (by omega))⟩
   have hfz := World.ownsRow.frozenAt hownk
   have HO := Hd hownk
   clear hlk hownk
   go_wp2_with (go_at_call 63; refine (c_toReply _ _ _ _).mono ?_; rintro e w2 ⟨rfl, hx2⟩; obtain ⟨hc1, hf1, hs1⟩ := hx2.rules)
   have s0 := World.ownsRow.stored (ownsRow_ext HO.out hx2) (k * 3) (.int .i64 l[k].client)
   have s1 := World.ownsRow.stored s0.1 (k * 3 + 1) (.int .i64 l[k].req)
   have s2 := World.ownsRow.stored s1.1 (k * 3 + 2) (.int .i64 l[k].answer)
   have hnext := setAll_next Ry.enc_len l zs k hlt hlen
   go_roundw
   case rel => exact ⟨k + 1, by omega, by go_num, ownsRow_congr s2.1 hnext, ext_set (ext_set (ext_set (Ext.trans hxr hx2) hgB _) hgB _) hgB _, by simp; omega⟩
   case measure => simp [intOf]; omega
  ·have hkl : k = l.length := by omega
   go_wp2
   go_ret
   refine ⟨g, rfl, ?_, hxr⟩
   unfold Ow
   refine ownsRow_congr hownk ?_
   rw [hkl, List.take_length, List.drop_eq_nil_of_le (by omega), List.append_nil]
set_option maxHeartbeats 1000000 in
theorem c_eqReplyS (A B : Option Addr) (ca cb : Nat) (a b : List Ry) (w : World) (ha : Rd Ry.enc 3 w A ca a) (hb : Rd Ry.enc 3 w B cb b) (hn : a.length ≤ 1099511627776) (hn2 : b.length ≤ 1099511627776) :
  Calls Tryz.prog 44 #[.slice A a.length ca, .slice B b.length cb] w fun e w' => e = .returned (.bool (eqB a b)) ∧ Ext w w' := by
 by_cases hl : a.length = b.length
 ·have hl' : ((a.length : Int) != (b.length : Int)) = false := by simp [hl]
  have HL := Hd hl
  clear hl
  go_enter Tryz.func44, Tryz.ntmps44
  go_wp2
  go_loopw [5] (fun i wr => ∃ k : Nat, k ≤ a.length ∧ i = .int .i64 k ∧ a.take k = b.take k ∧ Ext w wr) (fun i _ => a.length - (intOf i).toNat)
  case atStart => exact ⟨0, Nat.zero_le _, rfl, by simp, ext_refl _⟩
  case round =>
   obtain ⟨k, hk, rfl, ht, hx⟩ := hrel
   have HT := Hd ht
   clear ht
   by_cases hlt : k < a.length
   ·have hltb : k < b.length := by have := HL.out; omega
    obtain ⟨ab, ao, rfl, hab, a0, a1, a2⟩ := (ha.keep hx).atRy hlt
    obtain ⟨bb, bo, rfl, hbb, b0, b1, b2⟩ := (hb.keep hx).atRy hltb
    by_cases he : a[k] = b[k]
    ·have he' : eqB (⟨a[k].client, a[k].req, a[k].answer⟩ : Ry) ⟨b[k].client, b[k].req, b[k].answer⟩ = true := eqB_true he
     have HE := Hd he
     clear he
     go_wp2
     (refine wp_region_mix' (fun _ _ _ _ _ hq => hq) 10 (by kernel_rfl) (by kernel_rfl) (fun hg => ?_); simp only [headOps, Tc, Tz, List.filter_cons, List.filter_nil, isAlloc, Bool.not_false, Bf, if_true, if_false, List.append_nil, Dc, Dz])
     (repeat (refine wpMix_plain rfl rfl ?_; go_big_quiet_step (fail); refine wpQuiet_nil ?_))
     (refine wpMix_det rfl rfl rfl (enters Tryz.func76 (by kernel_rfl) rfl) (fun W hW => c_eqReply' _ _ _ _ _ _ W) rfl ?_; simp only [Act.put, Sa, Sz, Ss])
     (repeat (refine wpMix_plain rfl rfl ?_; go_big_quiet_step (fail); refine wpQuiet_nil ?_))
     refine wpMix_nil ?_
     intro w2 hx2
     go_wp2
     go_roundw
     case rel => exact ⟨k + 1, by omega, by go_num, take_eq_next hlt hltb HT.out HE.out, Ext.trans hx hx2⟩
     case measure => simp [intOf]; omega
    ·have he' : eqB (⟨a[k].client, a[k].req, a[k].answer⟩ : Ry) ⟨b[k].client, b[k].req, b[k].answer⟩ = false := eqB_false he
     have hne : eqB a b = false := eqB_false (by rintro rfl; exact he rfl)
     have HN := Hd hne
     clear he hne
     go_wp2
     (refine wp_region_mix' (fun _ _ _ _ _ hq => hq) 10 (by kernel_rfl) (by kernel_rfl) (fun hg => ?_); simp only [headOps, Tc, Tz, List.filter_cons, List.filter_nil, isAlloc, Bool.not_false, Bf, if_true, if_false, List.append_nil, Dc, Dz])
     (repeat (refine wpMix_plain rfl rfl ?_; go_big_quiet_step (fail); refine wpQuiet_nil ?_))
     (refine wpMix_det rfl rfl rfl (enters Tryz.func76 (by kernel_rfl) rfl) (fun W hW => c_eqReply' _ _ _ _ _ _ W) rfl ?_; simp only [Act.put, Sa, Sz, Ss])
     (repeat (refine wpMix_plain rfl rfl ?_; go_big_quiet_step (fail); refine wpQuiet_nil ?_))
     refine wpMix_nil ?_
     intro w2 hx2
     go_wp2
     go_ret
     exact ⟨ret_bool (by rw [HN.out]), Ext.trans hx hx2⟩
   ·have hkl : k = a.length := by omega
    go_wp2
    go_ret
    refine ⟨ret_bool ?_, hx⟩
    have h1 := HT.out
    rw [hkl, List.take_length, HL.out, List.take_length] at h1
    exact (eqB_true h1).symm
 ·have hl' : ((a.length : Int) != (b.length : Int)) = true := by simp; omega
  have hne : eqB a b = false := eqB_false (by rintro rfl; exact hl rfl)
  have HN := Hd hne
  clear hl hne
  go_enter Tryz.func44, Tryz.ntmps44
  go_wp2
  go_ret
  exact ⟨ret_bool (by rw [HN.out]), ext_refl _⟩
structure RpE where
 a : LAd
 A : Option Addr
 c : Nat
 ps : List VtE
 r : Rp
abbrev RpE.enc (q : RpE) : List Value := [.int .i64 q.r.me, .int .i64 q.r.of, .int .i64 q.r.mode, .int .i64 q.r.view, .int .i64 q.r.normal, .int .i64 q.r.commit, .int .i64 q.r.log.base, .slice q.a.cA q.r.log.cells.length q.a.cc, .slice q.a.sA q.r.log.seats.length q.a.sc, .slice q.a.eA q.r.log.ents.length q.a.ec, .slice q.A q.ps.length q.c, .int .i64 q.r.cell, .int .i64 q.r.nonce]
theorem RpE.len (q : RpE) : (RpE.enc q).length = 13 := rfl
abbrev RpE.val (q : RpE) : Value := Rp.val q.a q.A q.ps.length q.c q.r
def RpE.rd (w : World) (q : RpE) : Prop := RpR w q.a q.A q.c q.ps q.r
def RpsR (w : World) (A : Option Addr) (c : Nat) (qs : List RpE) : Prop := Rd RpE.enc 13 w A c qs ∧ ∀ q ∈ qs, q.rd w
theorem RpsR.keep {w w' : World} {A : Option Addr} {c : Nat} {qs : List RpE} (h : RpsR w A c qs) (hx : Ext w w') : RpsR w' A c qs := ⟨h.1.keep hx, fun p hp => (h.2 p hp).keep hx⟩
def RpE.small (q : RpE) : Prop := q.r.log.small ∧ q.ps.length ≤ 1048576 ∧ LgS q.ps
def RpsS (qs : List RpE) : Prop := ∀ q ∈ qs, q.small
theorem Rd.atRpE {w : World} {A : Option Addr} {c : Nat} {l : List RpE} (h : Rd RpE.enc 13 w A c l) {k : Nat} (hk : k < l.length) : ∃ b o, A = some ⟨b, o, none⟩ ∧ b < w.heap.size ∧
  w.cell? ⟨b, o + k * 13, none⟩ = some (.int .i64 l[k].r.me) ∧ w.cell? ⟨b, o + k * 13 + 1, none⟩ = some (.int .i64 l[k].r.of) ∧ w.cell? ⟨b, o + k * 13 + 2, none⟩ = some (.int .i64 l[k].r.mode) ∧ w.cell? ⟨b, o + k * 13 + 3, none⟩ = some (.int .i64 l[k].r.view) ∧ w.cell? ⟨b, o + k * 13 + 4, none⟩ = some (.int .i64 l[k].r.normal) ∧ w.cell? ⟨b, o + k * 13 + 5, none⟩ = some (.int .i64 l[k].r.commit) ∧ w.cell? ⟨b, o + k * 13 + 6, none⟩ = some (.int .i64 l[k].r.log.base) ∧ w.cell? ⟨b, o + k * 13 + 7, none⟩ = some (.slice l[k].a.cA l[k].r.log.cells.length l[k].a.cc) ∧ w.cell? ⟨b, o + k * 13 + 8, none⟩ = some (.slice l[k].a.sA l[k].r.log.seats.length l[k].a.sc) ∧ w.cell? ⟨b, o + k * 13 + 9, none⟩ = some (.slice l[k].a.eA l[k].r.log.ents.length l[k].a.ec) ∧ w.cell? ⟨b, o + k * 13 + 10, none⟩ = some (.slice l[k].A l[k].ps.length l[k].c) ∧ w.cell? ⟨b, o + k * 13 + 11, none⟩ = some (.int .i64 l[k].r.cell) ∧ w.cell? ⟨b, o + k * 13 + 12, none⟩ = some (.int .i64 l[k].r.nonce) := by
 obtain ⟨b, o, e, hlt, hc⟩ := h.2.2 (by omega)
 exact ⟨b, o, e, hlt, hc k hk 0 _ rfl, hc k hk 1 _ rfl, hc k hk 2 _ rfl, hc k hk 3 _ rfl, hc k hk 4 _ rfl, hc k hk 5 _ rfl, hc k hk 6 _ rfl, hc k hk 7 _ rfl, hc k hk 8 _ rfl, hc k hk 9 _ rfl, hc k hk 10 _ rfl, hc k hk 11 _ rfl, hc k hk 12 _ rfl⟩
structure GAd where
 RA : Option Addr
 Rc : Nat
 FA : Option Addr
 Fc : Nat
 YA : Option Addr
 Yc : Nat
structure Gp where
 of : Int
 reps : List Rp
 next : Int
 fls : List Fl
 rys : List Ry
abbrev Gp.cs (a : GAd) (n : Nat) (g : Gp) : Array Value := #[.int .i64 g.of, .slice a.RA n a.Rc, .int .i64 g.next, .slice a.FA g.fls.length a.Fc, .slice a.YA g.rys.length a.Yc]
abbrev Gp.val (a : GAd) (n : Nat) (g : Gp) : Value := .agg (Gp.cs a n g)
abbrev Gp.obj (a : GAd) (n : Nat) (g : Gp) : Obj := .cells (Gp.cs a n g) 37
abbrev Gp.objL (a : GAd) (n : Nat) (g : Gp) : Obj := .cells (Gp.cs a n g) 28
abbrev Gp.zobj : Obj := .cells #[.int .i64 0, .slice none 0 0, .int .i64 0, .slice none 0 0, .slice none 0 0] 37
abbrev Gp.hobj (g : Gp) : Obj := .cells #[.int .i64 g.of, .slice none 0 0, .int .i64 0, .slice none 0 0, .slice none 0 0] 37
structure GpR (w : World) (a : GAd) (qs : List RpE) (g : Gp) : Prop where
 r : RpsR w a.RA a.Rc qs
 f : Rd Fl.enc 3 w a.FA a.Fc g.fls
 y : Rd Ry.enc 3 w a.YA a.Yc g.rys
 e : qs.map RpE.r = g.reps
theorem GpR.keep {w w' : World} {a : GAd} {qs : List RpE} {g : Gp} (h : GpR w a qs g) (hx : Ext w w') : GpR w' a qs g := ⟨h.r.keep hx, h.f.keep hx, h.y.keep hx, h.e⟩
theorem GpR.len {w : World} {a : GAd} {qs : List RpE} {g : Gp} (h : GpR w a qs g) : qs.length = g.reps.length := by rw [← h.e, List.length_map]
def rpsN (qs : List RpE) : Nat → Nat
 | 0 => 0
 | k + 1 => rpsN qs k + match qs[k]? with | some q => rpN q.ps q.r | none => 0
theorem rpsN_next {qs : List RpE} {k : Nat} (h : k < qs.length) : rpsN qs (k + 1) = rpsN qs k + rpN qs[k].ps qs[k].r := by simp [rpsN, h]
theorem rpsN_up (qs : List RpE) (k : Nat) : ∀ d, rpsN qs k ≤ rpsN qs (k + d)
 | 0 => Nat.le_refl _
 | d + 1 => by
  have ih := rpsN_up qs k d
  show _ ≤ rpsN qs (k + d) + _
  omega
theorem rpsN_small (qs : List RpE) (n : Nat) (h : qs.length + rpsN qs qs.length ≤ n) (hn : n ≤ 1048576) : RpsS qs := fun q hq => by
 obtain ⟨k, hk, rfl⟩ := List.mem_iff_getElem.1 hq
 have h1 := rpsN_next hk
 have h2 := rpsN_up qs (k + 1) (qs.length - (k + 1))
 rw [show k + 1 + (qs.length - (k + 1)) = qs.length by omega] at h2
 have h3 : rpN qs[k].ps qs[k].r ≤ 1048576 := by omega
 unfold rpN at h3
 exact ⟨lgN_small (n := 1048576) (by omega) (by omega), by omega, vsN_small _ 1048576 (by omega) (by omega)⟩
def flsN (l : List Fl) : Nat → Nat
 | 0 => 0
 | k + 1 => flsN l k + match l[k]? with | some f => f.bytes.size | none => 0
theorem flsN_next {l : List Fl} {k : Nat} (h : k < l.length) : flsN l (k + 1) = flsN l k + l[k].bytes.size := by simp [flsN, h]
theorem flsN_up (l : List Fl) (k : Nat) : ∀ d, flsN l k ≤ flsN l (k + d)
 | 0 => Nat.le_refl _
 | d + 1 => by
  have ih := flsN_up l k d
  show _ ≤ flsN l (k + d) + _
  omega
def FlsM (l : List Fl) : Prop := ∀ f ∈ l, f.bytes.size ≤ 9223372036854775807
set_option maxHeartbeats 1000000 in
theorem c_szFlight (id to : Int) (bytes : ByteArray) (left : Int) (h0 : 0 ≤ left) (h1 : left ≤ 1048576) (hb : bytes.size ≤ 9223372036854775807) (w : World) :
  Calls Tryz.prog 84 #[.agg #[.int .i64 id, .int .i64 to, .string bytes], .int .i64 left] w fun e w' => e = .returned (.int .i64 (szV bytes.size left)) ∧ Ext w w' := by
 by_cases h : (bytes.size : Int) ≤ left
 ·have HV := Hd (show left - bytes.size = szV bytes.size left by rw [szV_le h])
  go_enter Tryz.func84, Tryz.ntmps84
  go_wp2
  go_ret
  exact ⟨ret_int HV.out, ext_alloc _ _⟩
 ·have HV := Hd (show -1 = szV bytes.size left by rw [szV_gt h])
  go_enter Tryz.func84, Tryz.ntmps84
  go_wp2
  go_ret
  exact ⟨ret_int HV.out, ext_alloc _ _⟩
set_option maxHeartbeats 1000000 in
theorem c_szFlightS (A : Option Addr) (c : Nat) (l : List Fl) (left : Int) (h0 : 0 ≤ left) (h1 : left ≤ 1048576) (w : World) (hr : Rd Fl.enc 3 w A c l) (hm : FlsM l) :
  Calls Tryz.prog 56 #[.slice A l.length c, .int .i64 left] w fun e w' => e = .returned (.int .i64 (szV (l.length + flsN l l.length) left)) ∧ Ext w w' := by
 have hL := rd_len hr
 by_cases ha : (l.length : Int) ≤ left
 ·go_enter Tryz.func56, Tryz.ntmps56
  go_wp2
  go_loopw [1, 5] (fun q i wr => ∃ k : Nat, k ≤ l.length ∧ i = .int .i64 k ∧ q = .int .i64 (left - l.length - flsN l k) ∧ (l.length : Int) + flsN l k ≤ left ∧ Ext w wr) (fun _ i _ => l.length - (intOf i).toNat)
  case atStart => exact ⟨0, Nat.zero_le _, rfl, by simp [flsN], by simpa [flsN] using ha, ext_refl _⟩
  case round =>
   obtain ⟨k, hk, rfl, rfl, hle, X⟩ := hrel
   by_cases hlt : k < l.length
   ·obtain ⟨ab, ao, rfl, hab, a0, a1, a2⟩ := (hr.keep X).atFl hlt
    have hnx := flsN_next hlt
    have hup := flsN_up l (k + 1) (l.length - (k + 1))
    rw [show k + 1 + (l.length - (k + 1)) = l.length by omega] at hup
    obtain ⟨q, hq, q0, q1⟩ : ∃ q, left - (l.length : Int) - flsN l k = q ∧ 0 ≤ q ∧ q ≤ 1048576 := ⟨_, rfl, by omega, by omega⟩
    have hcon := c_szFlight l[k].id l[k].to l[k].bytes q q0 q1 (hm _ (List.getElem_mem hlt)) wr
    rw [hq]
    by_cases hb : ((l[k].bytes.size : Nat) : Int) ≤ q
    ·rw [szV_le hb] at hcon
     have HV := Hd (show q - l[k].bytes.size = left - l.length - flsN l (k + 1) by omega)
     have HL := Hd (show (l.length : Int) + flsN l (k + 1) ≤ left by omega)
     clear hq hnx hup hle hm
     go_wp2_with fail
     refine hcon.mono ?_
     rintro e w1 ⟨rfl, x1⟩
     clear hcon
     go_wp2
     go_roundw
     case rel => exact ⟨k + 1, by omega, by go_num, by rw [HV.out], HL.out, Ext.trans X x1⟩
     case measure => simp [intOf] <;> omega
    ·rw [szV_gt hb] at hcon
     have HV := Hd (show -1 = szV (l.length + flsN l l.length) left by rw [szV_gt (by omega)])
     clear hq hnx hup hle hm
     go_wp2_with fail
     refine hcon.mono ?_
     rintro e w1 ⟨rfl, x1⟩
     clear hcon
     go_wp2
     go_ret
     exact ⟨ret_int HV.out, Ext.trans X x1⟩
   ·obtain rfl : k = l.length := by omega
    have HV := Hd (show left - l.length - flsN l l.length = szV (l.length + flsN l l.length) left by rw [szV_le (by omega)]; omega)
    clear hm
    go_wp2
    go_ret
    exact ⟨ret_int HV.out, X⟩
 ·have HV := Hd (show -1 = szV (l.length + flsN l l.length) left by rw [szV_gt (by omega)])
  clear hm
  go_enter Tryz.func56, Tryz.ntmps56
  go_wp2
  go_ret
  exact ⟨ret_int HV.out, ext_refl _⟩
set_option maxHeartbeats 1000000 in
theorem c_szReplicaS (A : Option Addr) (c : Nat) (ps : List RpE) (left : Int) (h0 : 0 ≤ left) (h1 : left ≤ 1048576) (w : World) (hr : RpsR w A c ps) :
  Calls Tryz.prog 21 #[.slice A ps.length c, .int .i64 left] w fun e w' => e = .returned (.int .i64 (szV (ps.length + rpsN ps ps.length) left)) ∧ Ext w w' := by
 have hL := rd_len hr.1
 have HR := Hd hr
 clear hr
 by_cases ha : (ps.length : Int) ≤ left
 ·go_enter Tryz.func21, Tryz.ntmps21
  go_wp2
  go_loopw [1, 5] (fun q i wr => ∃ k : Nat, k ≤ ps.length ∧ i = .int .i64 k ∧ q = .int .i64 (left - ps.length - rpsN ps k) ∧ (ps.length : Int) + rpsN ps k ≤ left ∧ Ext w wr) (fun _ i _ => ps.length - (intOf i).toNat)
  case atStart => exact ⟨0, Nat.zero_le _, rfl, by simp [rpsN], by simpa [rpsN] using ha, ext_refl _⟩
  case round =>
   obtain ⟨k, hk, rfl, rfl, hle, X⟩ := hrel
   by_cases hlt : k < ps.length
   ·obtain ⟨ab, ao, rfl, hab, a0, a1, a2, a3, a4, a5, a6, a7, a8, a9, a10, a11, a12⟩ := (HR.out.1.keep X).atRpE hlt
    have hnx := rpsN_next hlt
    have hup := rpsN_up ps (k + 1) (ps.length - (k + 1))
    rw [show k + 1 + (ps.length - (k + 1)) = ps.length by omega] at hup
    obtain ⟨q, hq, q0, q1⟩ : ∃ q, left - (ps.length : Int) - rpsN ps k = q ∧ 0 ≤ q ∧ q ≤ 1048576 := ⟨_, rfl, by omega, by omega⟩
    have hcon := c_szReplica ps[k].a ps[k].A ps[k].c ps[k].ps ps[k].r q q0 q1 wr ((HR.out.keep X).2 ps[k] (List.getElem_mem hlt))
    rw [hq]
    by_cases hb : ((rpN ps[k].ps ps[k].r : Nat) : Int) ≤ q
    ·rw [szV_le hb] at hcon
     have HV := Hd (show q - rpN ps[k].ps ps[k].r = left - ps.length - rpsN ps (k + 1) by omega)
     have HL := Hd (show (ps.length : Int) + rpsN ps (k + 1) ≤ left by omega)
     clear hq hnx hup hle
     go_wp2_with fail
     refine hcon.mono ?_
     rintro e w1 ⟨rfl, x1⟩
     clear hcon
     go_wp2
     go_roundw
     case rel => exact ⟨k + 1, by omega, by go_num, by rw [HV.out], HL.out, Ext.trans X x1⟩
     case measure => simp [intOf] <;> omega
    ·rw [szV_gt hb] at hcon
     have HV := Hd (show -1 = szV (ps.length + rpsN ps ps.length) left by rw [szV_gt (by omega)])
     clear hq hnx hup hle
     go_wp2_with fail
     refine hcon.mono ?_
     rintro e w1 ⟨rfl, x1⟩
     clear hcon
     go_wp2
     go_ret
     exact ⟨ret_int HV.out, Ext.trans X x1⟩
   ·obtain rfl : k = ps.length := by omega
    have HV := Hd (show left - ps.length - rpsN ps ps.length = szV (ps.length + rpsN ps ps.length) left by rw [szV_le (by omega)]; omega)
    go_wp2
    go_ret
    exact ⟨ret_int HV.out, X⟩
 ·have HV := Hd (show -1 = szV (ps.length + rpsN ps ps.length) left by rw [szV_gt (by omega)])
  go_enter Tryz.func21, Tryz.ntmps21
  go_wp2
  go_ret
  exact ⟨ret_int HV.out, ext_refl _⟩
theorem c_szReplyN (A : Option Addr) (n c : Nat) (left : Int) (h0 : 0 ≤ left) (h1 : left ≤ 1048576) (hn : (n : Int) ≤ 9223372036854775807) (w : World) : Calls Tryz.prog 23 #[.slice A n c, .int .i64 left] w fun e w' => e = .returned (.int .i64 (szV n left)) ∧ Ext w w' := by
 by_cases h : (n : Int) ≤ left
 ·rw [szV_le h]; exact c_szReplyS_le A n c left h0 h1 hn h w
 ·rw [szV_gt h]; exact c_szReplyS_gt A n c left h0 h1 hn (by omega) w
theorem szV_or (n : Nat) (left : Int) : szV n left = -1 ∨ 0 ≤ szV n left := by
 by_cases h : (n : Int) ≤ left
 ·rw [szV_le h]; omega
 ·rw [szV_gt h]; omega
theorem szV_no (b : Nat) {a : Nat} {left : Int} (h : ¬ (a : Int) ≤ left) : szV (a + b) left = -1 := szV_gt (by omega)
theorem c_szNet (next : Int) (A : Option Addr) (c : Nat) (l : List Fl) (left : Int) (h0 : 0 ≤ left) (h1 : left ≤ 1048576) (w : World) (hr : Rd Fl.enc 3 w A c l) (hm : FlsM l) :
  Calls Tryz.prog 22 #[.agg #[.int .i64 next, .slice A l.length c], .int .i64 left] w fun e w' => e = .returned (.int .i64 (szV (l.length + flsN l l.length) left)) ∧ Ext w w' := by
 have X0 := ext_alloc w (.cells #[.int .i64 next, .slice A l.length c] 25)
 have hcon := c_szFlightS A c l left h0 h1 _ (hr.keep X0) hm
 obtain ⟨z, hz, hz2⟩ : ∃ z, szV (l.length + flsN l l.length) left = z ∧ (z = -1 ∨ 0 ≤ z) := ⟨_, rfl, szV_or _ _⟩
 rw [hz] at hcon ⊢
 have HC := Hd hcon
 clear hcon hz hm hr
 rcases hz2 with rfl | hz2
 ·go_enter Tryz.func22, Tryz.ntmps22
  go_wp2_with fail
  refine HC.out.mono ?_
  rintro e w1 ⟨rfl, x1⟩
  go_wp2
  go_ret
  exact ⟨rfl, Ext.trans X0 x1⟩
 ·go_enter Tryz.func22, Tryz.ntmps22
  go_wp2_with fail
  refine HC.out.mono ?_
  rintro e w1 ⟨rfl, x1⟩
  go_wp2
  go_ret
  exact ⟨rfl, Ext.trans X0 x1⟩
def gpN (qs : List RpE) (g : Gp) : Nat := (qs.length + rpsN qs qs.length) + (g.fls.length + flsN g.fls g.fls.length) + g.rys.length
set_option maxHeartbeats 1000000 in
theorem c_szGroup (a : GAd) (qs : List RpE) (g : Gp) (left : Int) (h0 : 0 ≤ left) (h1 : left ≤ 1048576) (w : World) (hr : GpR w a qs g) (hm : FlsM g.fls) :
  Calls Tryz.prog 8 #[Gp.val a qs.length g, .int .i64 left] w fun e w' => e = .returned (.int .i64 (szV (gpN qs g) left)) ∧ Ext w w' := by
 have X0 := ext_alloc w (Gp.objL a qs.length g)
 have hy := rd_len hr.y
 have hcon := c_szReplicaS a.RA a.Rc qs left h0 h1 _ (hr.r.keep X0)
 by_cases ha : ((qs.length + rpsN qs qs.length : Nat) : Int) ≤ left
 ·rw [szV_le ha] at hcon
  have hadd := szV_add (b := (g.fls.length + flsN g.fls g.fls.length) + g.rys.length) ha
  obtain ⟨q, hq, hq0, hq1⟩ : ∃ q, left - ((qs.length + rpsN qs qs.length : Nat) : Int) = q ∧ 0 ≤ q ∧ q ≤ 1048576 := ⟨_, rfl, by omega, by omega⟩
  rw [hq] at hcon hadd
  have hcon2 := fun W (h : Ext (w.alloc (Gp.objL a qs.length g)) W) => c_szNet g.next a.FA a.Fc g.fls q hq0 hq1 W (hr.f.keep (Ext.trans X0 h)) hm
  have hg : gpN qs g = (qs.length + rpsN qs qs.length) + ((g.fls.length + flsN g.fls g.fls.length) + g.rys.length) := by unfold gpN; omega
  rw [hg, ← hadd]
  clear hg hadd hq ha
  by_cases hb : ((g.fls.length + flsN g.fls g.fls.length : Nat) : Int) ≤ q
  ·have HC2 := hcon2
   have hadd := szV_add (b := g.rys.length) hb
   obtain ⟨p, hp, hp0, hp1⟩ : ∃ p, q - ((g.fls.length + flsN g.fls g.fls.length : Nat) : Int) = p ∧ 0 ≤ p ∧ p ≤ 1048576 := ⟨_, rfl, by omega, by omega⟩
   simp only [szV_le hb, hp] at HC2
   rw [hp] at hadd
   rw [← hadd]
   have hcon3 := c_szReplyN a.YA g.rys.length a.Yc p hp0 hp1 hy
   obtain ⟨z, hz, hz2⟩ : ∃ z, szV g.rys.length p = z ∧ (z = -1 ∨ 0 ≤ z) := ⟨_, rfl, szV_or _ _⟩
   rw [hz] at hcon3 ⊢
   have H1 := Hd hcon
   have H2 := Hd HC2
   have H3 := Hd hcon3
   clear hcon hcon2 hcon3 HC2 hz hadd hp hb hr hm
   rcases hz2 with rfl | hz2
   all_goals
    go_enter Tryz.func8, Tryz.ntmps8
    go_wp2_with fail
    refine H1.out.mono ?_
    rintro e w1 ⟨rfl, x1⟩
    have b1 := bx_cell (x1.box (hNew (w := w) (o := Gp.objL a qs.length g) rfl))
    go_wp2_with fail
    refine (H2.out _ x1).mono ?_
    rintro e w2 ⟨rfl, x2⟩
    have b2 := bx_cell ((Ext.trans x1 x2).box (hNew (w := w) (o := Gp.objL a qs.length g) rfl))
    clear b1
    go_wp2_with fail
    refine (H3.out _).mono ?_
    rintro e w3 ⟨rfl, x3⟩
    go_wp2
    go_ret
    exact ⟨rfl, Ext.trans X0 (Ext.trans x1 (Ext.trans x2 x3))⟩
  ·rw [szV_no _ hb]
   simp only [szV_gt hb] at hcon2
   have H1 := Hd hcon
   have H2 := Hd hcon2
   clear hcon hcon2 hb hr hm
   go_enter Tryz.func8, Tryz.ntmps8
   go_wp2_with fail
   refine H1.out.mono ?_
   rintro e w1 ⟨rfl, x1⟩
   have b1 := bx_cell (x1.box (hNew (w := w) (o := Gp.objL a qs.length g) rfl))
   go_wp2_with fail
   refine (H2.out _ x1).mono ?_
   rintro e w2 ⟨rfl, x2⟩
   go_wp2
   go_ret
   exact ⟨rfl, Ext.trans X0 (Ext.trans x1 x2)⟩
 ·rw [szV_gt ha] at hcon
  rw [szV_gt (by unfold gpN; omega)]
  have H1 := Hd hcon
  clear hcon ha hr hm
  go_enter Tryz.func8, Tryz.ntmps8
  go_wp2_with fail
  refine H1.out.mono ?_
  rintro e w1 ⟨rfl, x1⟩
  go_wp2
  go_ret
  exact ⟨rfl, Ext.trans X0 x1⟩
end Go.Proofs.YtmphedkbdlckhaaGreat
