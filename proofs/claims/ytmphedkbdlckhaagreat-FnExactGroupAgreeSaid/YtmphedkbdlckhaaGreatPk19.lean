/- GroupUp and GroupAhead of the reference and of the program. -/
import Derived.Test.YtmphedkbdlckhaaGreatPk18
import Derived.Test.YtmphedkbdlckhaaGreatPk4
namespace Go.Proofs.YtmphedkbdlckhaaGreat
open Go.ChangeShapes Go.WideShapes Go.ChangeAt Go.RowKit Go.Sort
set_option linter.unusedVariables false
set_option linter.unusedSimpArgs false
def upB (r : Rp) : Bool := r.mode == 1 || r.mode == 2
def asE (l : List Rp) : List RpE := l.map (fun r => ⟨LAd.none, none, 0, [], r⟩)
theorem asE_r (l : List Rp) : (asE l).map RpE.r = l := by simp [asE, Function.comp_def]
theorem gpOk_len {qs : List RpE} {g : Gp} (he : qs.map RpE.r = g.reps) (h : gpOk g = true) : g.of = (qs.length : Int) ∧ qs.length ≤ 5 := by
 have hl : g.reps.length = qs.length := by rw [← he, List.length_map]
 obtain ⟨h1, h2, _⟩ := gpOk_p h
 have := ofB_b h1
 omega
theorem c_sLive (a : LAd) (A : Option Addr) (n c : Nat) (r : Rp) (w : World) : Calls Tryz.prog 46 #[Rp.val a A n c r] w fun e w' => e = .returned (.bool (upB r)) ∧ Ext w w' := by
 go_enter Tryz.func46, Tryz.ntmps46
 go_wp2
 all_goals
  go_ret
  exact ⟨ret_bool (by simp [upB, *]), ext_alloc _ _⟩
theorem c_isUp (a : LAd) (A : Option Addr) (n c : Nat) (r : Rp) (w : World) : Calls Tryz.prog 47 #[Rp.val a A n c r] w fun e w' => e = .returned (.bool (upB r)) ∧ Ext w w' := by
 go_enter Tryz.func47, Tryz.ntmps47
 go_wp2
 all_goals
  go_ret
  exact ⟨ret_bool (by simp [upB, *]), ext_alloc _ _⟩
set_option maxHeartbeats 2000000 in
theorem c_equalCel (A B : Option Addr) (ca cb : Nat) (a b : List Cel) (w : World) (ha : Rd Cel.enc 2 w A ca a) (hb : Rd Cel.enc 2 w B cb b) (hn : a.length ≤ 1048576) (hn2 : b.length ≤ 1048576) :
  Calls Tryz.prog 79 #[.slice A a.length ca, .slice B b.length cb] w fun e w' => e = .returned (.bool (eqB a b)) ∧ Ext w w' := by
 by_cases hl : a.length = b.length
 ·have hl' : ((a.length : Int) != (b.length : Int)) = false := by simp [hl]
  have HL := Hd hl
  clear hl
  go_enter Tryz.func79, Tryz.ntmps79
  go_wp2
  go_loopw [13] (fun i wr => ∃ k : Nat, k ≤ a.length ∧ i = .int .i64 k ∧ a.take k = b.take k ∧ Ext w wr) (fun i _ => a.length - (intOf i).toNat)
  case atStart => exact ⟨0, Nat.zero_le _, rfl, by simp, ext_refl _⟩
  case round =>
   obtain ⟨k, hk, rfl, ht, hx⟩ := hrel
   have HT := Hd ht
   clear ht
   by_cases hlt : k < a.length
   ·have hltb : k < b.length := by have := HL.out; omega
    obtain ⟨ab, ao, rfl, hab, a0, a1⟩ := (ha.keep hx).atCel hlt
    obtain ⟨bb, bo, rfl, hbb, b0, b1⟩ := (hb.keep hx).atCel hltb
    by_cases he : a[k] = b[k]
    ·rw [← he] at b0 b1
     have HE := Hd he
     clear he
     go_wp2
     (refine wp_region_mix' (fun _ _ _ _ _ hq => hq) 9 (by kernel_rfl) (by kernel_rfl) (fun hg => ?_); simp only [headOps, Tc, Tz, List.filter_cons, List.filter_nil, isAlloc, Bool.not_false, Bf, if_true, if_false, List.append_nil, Dc, Dz])
     (repeat (refine wpMix_plain rfl rfl ?_; go_big_quiet_step (fail); refine wpQuiet_nil ?_))
     refine wpMix_nil ?_
     intro w2 hx2
     go_wp2
     go_roundw
     case rel => exact ⟨k + 1, by omega, by go_num, take_eq_next hlt hltb HT.out HE.out, Ext.trans hx hx2⟩
     case measure => simp [intOf]; omega
    ·have HN := Hd (show eqB a b = false from eqB_false (by rintro rfl; exact he rfl))
     have HE := Hd he
     clear he
     cases q0 : (a[k].key == b[k].key)
     ·have p0 : ¬ a[k].key = b[k].key := by simpa using q0
      go_wp2
      (refine wp_region_mix' (fun _ _ _ _ _ hq => hq) 9 (by kernel_rfl) (by kernel_rfl) (fun hg => ?_); simp only [headOps, Tc, Tz, List.filter_cons, List.filter_nil, isAlloc, Bool.not_false, Bf, if_true, if_false, List.append_nil, Dc, Dz])
      (repeat (refine wpMix_plain rfl rfl ?_; go_big_quiet_step (fail); refine wpQuiet_nil ?_))
      refine wpMix_nil ?_
      intro w2 hx2
      go_wp2
      go_ret
      exact ⟨ret_bool (by rw [HN.out]), Ext.trans hx hx2⟩
     ·have p0 : a[k].key = b[k].key := by simpa using q0
      cases q1 : (a[k].value == b[k].value)
      ·have p1 : ¬ a[k].value = b[k].value := by simpa using q1
       go_wp2
       (refine wp_region_mix' (fun _ _ _ _ _ hq => hq) 9 (by kernel_rfl) (by kernel_rfl) (fun hg => ?_); simp only [headOps, Tc, Tz, List.filter_cons, List.filter_nil, isAlloc, Bool.not_false, Bf, if_true, if_false, List.append_nil, Dc, Dz])
       (repeat (refine wpMix_plain rfl rfl ?_; go_big_quiet_step (fail); refine wpQuiet_nil ?_))
       refine wpMix_nil ?_
       intro w2 hx2
       go_wp2
       go_ret
       exact ⟨ret_bool (by rw [HN.out]), Ext.trans hx hx2⟩
      ·have p1 : a[k].value = b[k].value := by simpa using q1
       exact absurd (by cases hx1 : a[k]; cases hx2 : b[k]; simp_all) HE.out
   ·have hkl : k = a.length := by omega
    go_wp2
    go_ret
    refine ⟨ret_bool ?_, hx⟩
    have h1 := HT.out
    rw [hkl, List.take_length, HL.out, List.take_length] at h1
    exact (eqB_true h1).symm
 ·have hl' : ((a.length : Int) != (b.length : Int)) = true := by simp; omega
  have HN := Hd (show eqB a b = false from eqB_false (by rintro rfl; exact hl rfl))
  clear hl
  go_enter Tryz.func79, Tryz.ntmps79
  go_wp2
  go_ret
  exact ⟨ret_bool (by rw [HN.out]), ext_refl _⟩
set_option maxHeartbeats 2000000 in
theorem c_equalSea (A B : Option Addr) (ca cb : Nat) (a b : List Sea) (w : World) (ha : Rd Sea.enc 3 w A ca a) (hb : Rd Sea.enc 3 w B cb b) (hn : a.length ≤ 1048576) (hn2 : b.length ≤ 1048576) :
  Calls Tryz.prog 80 #[.slice A a.length ca, .slice B b.length cb] w fun e w' => e = .returned (.bool (eqB a b)) ∧ Ext w w' := by
 by_cases hl : a.length = b.length
 ·have hl' : ((a.length : Int) != (b.length : Int)) = false := by simp [hl]
  have HL := Hd hl
  clear hl
  go_enter Tryz.func80, Tryz.ntmps80
  go_wp2
  go_loopw [13] (fun i wr => ∃ k : Nat, k ≤ a.length ∧ i = .int .i64 k ∧ a.take k = b.take k ∧ Ext w wr) (fun i _ => a.length - (intOf i).toNat)
  case atStart => exact ⟨0, Nat.zero_le _, rfl, by simp, ext_refl _⟩
  case round =>
   obtain ⟨k, hk, rfl, ht, hx⟩ := hrel
   have HT := Hd ht
   clear ht
   by_cases hlt : k < a.length
   ·have hltb : k < b.length := by have := HL.out; omega
    obtain ⟨ab, ao, rfl, hab, a0, a1, a2⟩ := (ha.keep hx).atSea hlt
    obtain ⟨bb, bo, rfl, hbb, b0, b1, b2⟩ := (hb.keep hx).atSea hltb
    by_cases he : a[k] = b[k]
    ·rw [← he] at b0 b1 b2
     have HE := Hd he
     clear he
     go_wp2
     (refine wp_region_mix' (fun _ _ _ _ _ hq => hq) 9 (by kernel_rfl) (by kernel_rfl) (fun hg => ?_); simp only [headOps, Tc, Tz, List.filter_cons, List.filter_nil, isAlloc, Bool.not_false, Bf, if_true, if_false, List.append_nil, Dc, Dz])
     (repeat (refine wpMix_plain rfl rfl ?_; go_big_quiet_step (fail); refine wpQuiet_nil ?_))
     refine wpMix_nil ?_
     intro w2 hx2
     go_wp2
     go_roundw
     case rel => exact ⟨k + 1, by omega, by go_num, take_eq_next hlt hltb HT.out HE.out, Ext.trans hx hx2⟩
     case measure => simp [intOf]; omega
    ·have HN := Hd (show eqB a b = false from eqB_false (by rintro rfl; exact he rfl))
     have HE := Hd he
     clear he
     cases q0 : (a[k].client == b[k].client)
     ·have p0 : ¬ a[k].client = b[k].client := by simpa using q0
      go_wp2
      (refine wp_region_mix' (fun _ _ _ _ _ hq => hq) 9 (by kernel_rfl) (by kernel_rfl) (fun hg => ?_); simp only [headOps, Tc, Tz, List.filter_cons, List.filter_nil, isAlloc, Bool.not_false, Bf, if_true, if_false, List.append_nil, Dc, Dz])
      (repeat (refine wpMix_plain rfl rfl ?_; go_big_quiet_step (fail); refine wpQuiet_nil ?_))
      refine wpMix_nil ?_
      intro w2 hx2
      go_wp2
      go_ret
      exact ⟨ret_bool (by rw [HN.out]), Ext.trans hx hx2⟩
     ·have p0 : a[k].client = b[k].client := by simpa using q0
      cases q1 : (a[k].req == b[k].req)
      ·have p1 : ¬ a[k].req = b[k].req := by simpa using q1
       go_wp2
       (refine wp_region_mix' (fun _ _ _ _ _ hq => hq) 9 (by kernel_rfl) (by kernel_rfl) (fun hg => ?_); simp only [headOps, Tc, Tz, List.filter_cons, List.filter_nil, isAlloc, Bool.not_false, Bf, if_true, if_false, List.append_nil, Dc, Dz])
       (repeat (refine wpMix_plain rfl rfl ?_; go_big_quiet_step (fail); refine wpQuiet_nil ?_))
       refine wpMix_nil ?_
       intro w2 hx2
       go_wp2
       go_ret
       exact ⟨ret_bool (by rw [HN.out]), Ext.trans hx hx2⟩
      ·have p1 : a[k].req = b[k].req := by simpa using q1
       cases q2 : (a[k].answer == b[k].answer)
       ·have p2 : ¬ a[k].answer = b[k].answer := by simpa using q2
        go_wp2
        (refine wp_region_mix' (fun _ _ _ _ _ hq => hq) 9 (by kernel_rfl) (by kernel_rfl) (fun hg => ?_); simp only [headOps, Tc, Tz, List.filter_cons, List.filter_nil, isAlloc, Bool.not_false, Bf, if_true, if_false, List.append_nil, Dc, Dz])
        (repeat (refine wpMix_plain rfl rfl ?_; go_big_quiet_step (fail); refine wpQuiet_nil ?_))
        refine wpMix_nil ?_
        intro w2 hx2
        go_wp2
        go_ret
        exact ⟨ret_bool (by rw [HN.out]), Ext.trans hx hx2⟩
       ·have p2 : a[k].answer = b[k].answer := by simpa using q2
        exact absurd (by cases hx1 : a[k]; cases hx2 : b[k]; simp_all) HE.out
   ·have hkl : k = a.length := by omega
    go_wp2
    go_ret
    refine ⟨ret_bool ?_, hx⟩
    have h1 := HT.out
    rw [hkl, List.take_length, HL.out, List.take_length] at h1
    exact (eqB_true h1).symm
 ·have hl' : ((a.length : Int) != (b.length : Int)) = true := by simp; omega
  have HN := Hd (show eqB a b = false from eqB_false (by rintro rfl; exact hl rfl))
  clear hl
  go_enter Tryz.func80, Tryz.ntmps80
  go_wp2
  go_ret
  exact ⟨ret_bool (by rw [HN.out]), ext_refl _⟩
abbrev Ig.obj (A : Option Addr) (n c : Nat) (B : Option Addr) (m d : Nat) : Obj := .cells #[.slice A n c, .slice B m d] 50
theorem c_iSameImage (A B A' B' : Option Addr) (ca cb ca' cb' : Nat) (l l' : List Cel) (s s' : List Sea) (w : World) (h1 : Rd Cel.enc 2 w A ca l) (h2 : Rd Sea.enc 3 w B cb s) (h3 : Rd Cel.enc 2 w A' ca' l') (h4 : Rd Sea.enc 3 w B' cb' s') (n1 : l.length ≤ 1048576) (n2 : s.length ≤ 1048576) (n3 : l'.length ≤ 1048576) (n4 : s'.length ≤ 1048576) :
  Calls Tryz.prog 53 #[.agg #[.slice A l.length ca, .slice B s.length cb], .agg #[.slice A' l'.length ca', .slice B' s'.length cb']] w fun e w' => e = .returned (.bool (eqB l l' && eqB s s')) ∧ Ext w w' := by
 have X0 : Ext w ((w.alloc (Ig.obj A l.length ca B s.length cb)).alloc (Ig.obj A' l'.length ca' B' s'.length cb')) := ext_to (ext_alloc _ _) _
 have hc := c_equalCel A A' ca ca' l l' _ (h1.keep X0) (h3.keep X0) n1 n3
 have HS := Hd (fun W (h : Ext ((w.alloc (Ig.obj A l.length ca B s.length cb)).alloc (Ig.obj A' l'.length ca' B' s'.length cb')) W) => c_equalSea B B' cb cb' s s' W (h2.keep (Ext.trans X0 h)) (h4.keep (Ext.trans X0 h)) n2 n4)
 cases q : eqB l l'
 ·rw [q] at hc
  have HC := Hd hc
  clear hc h1 h2 h3 h4
  go_enter Tryz.func53, Tryz.ntmps53
  go_wp2_with fail
  refine HC.out.mono ?_
  rintro e w1 ⟨rfl, x1⟩
  go_wp2
  go_ret
  exact ⟨rfl, Ext.trans X0 x1⟩
 ·rw [q] at hc
  have HC := Hd hc
  clear hc h1 h2 h3 h4
  go_enter Tryz.func53, Tryz.ntmps53
  go_wp2_with fail
  refine HC.out.mono ?_
  rintro e w1 ⟨rfl, x1⟩
  have B1 := x1.box (hOld (o := Ig.obj A' l'.length ca' B' s'.length cb') (hNew (w := w) (o := Ig.obj A l.length ca B s.length cb) rfl))
  have B2 := x1.box (hNew (w := w.alloc (Ig.obj A l.length ca B s.length cb)) (o := Ig.obj A' l'.length ca' B' s'.length cb') rfl)
  rw [sz_alloc] at B2
  have b1 := bx_cell B1
  have b2 := bx_cell B2
  go_wp2_with fail
  refine (HS.out _ x1).mono ?_
  rintro e w2 ⟨rfl, x2⟩
  go_wp2
  go_ret
  exact ⟨rfl, Ext.trans X0 (Ext.trans x1 x2)⟩
set_option maxRecDepth 100000 in
set_option maxHeartbeats 8000000 in
theorem c_sSameImage (A B A' B' : Option Addr) (ca cb ca' cb' : Nat) (l l' : List Cel) (s s' : List Sea) (w : World) (h1 : Rd Cel.enc 2 w A ca l) (h2 : Rd Sea.enc 3 w B cb s) (h3 : Rd Cel.enc 2 w A' ca' l') (h4 : Rd Sea.enc 3 w B' cb' s') (n1 : l.length ≤ 1048576) (n2 : s.length ≤ 1048576) (n3 : l'.length ≤ 1048576) (n4 : s'.length ≤ 1048576) :
  Calls Tryz.prog 52 #[.agg #[.slice A l.length ca, .slice B s.length cb], .agg #[.slice A' l'.length ca', .slice B' s'.length cb']] w fun e w' => e = .returned (.bool (eqB l l' && eqB s s')) ∧ Ext w w' := by
 have X0 : Ext w ((w.alloc (Ig.obj A l.length ca B s.length cb)).alloc (Ig.obj A' l'.length ca' B' s'.length cb')) := ext_to (ext_alloc _ _) _
 have H1 := Hd h1
 have H2 := Hd h2
 have H3 := Hd h3
 have H4 := Hd h4
 clear h1 h2 h3 h4
 by_cases hl : l.length = l'.length
 ·have hl1 : ((l.length : Int) != (l'.length : Int)) = false := by simp; omega
  have HL := Hd hl
  clear hl
  by_cases hm : s.length = s'.length
  ·have hm1 : ((s.length : Int) != (s'.length : Int)) = false := by simp; omega
   have HM := Hd hm
   clear hm
   go_enter Tryz.func52, Tryz.ntmps52
   go_wp2
   go_loopw [5] (fun i wr => ∃ k : Nat, k ≤ l.length ∧ i = .int .i64 k ∧ l.take k = l'.take k ∧ Ext ((w.alloc (Ig.obj A l.length ca B s.length cb)).alloc (Ig.obj A' l'.length ca' B' s'.length cb')) wr) (fun i _ => l.length - (intOf i).toNat)
   case atStart => exact ⟨0, Nat.zero_le _, rfl, by simp, ext_refl _⟩
   case round =>
    obtain ⟨k, hk, rfl, ht, hx⟩ := hrel
    have HT1 := Hd ht
    clear ht
    have B1 := hx.box (hOld (o := Ig.obj A' l'.length ca' B' s'.length cb') (hNew (w := w) (o := Ig.obj A l.length ca B s.length cb) rfl))
    have B2 := hx.box (hNew (w := w.alloc (Ig.obj A l.length ca B s.length cb)) (o := Ig.obj A' l'.length ca' B' s'.length cb') rfl)
    rw [sz_alloc] at B2
    have b1 := bx_cell B1
    have b2 := bx_cell B2
    have z1 := bx_lt B1
    have z2 := bx_lt B2
    have X1 := Ext.trans X0 hx
    by_cases hlt : k < l.length
    ·have hltb : k < l'.length := by have := HL.out; omega
     obtain ⟨ab, ao, hA, hab, a0, a1⟩ := (H1.out.keep X1).atCel hlt
     obtain ⟨bb, bo, hB, hbb, c0, c1⟩ := (H3.out.keep X1).atCel hltb
     rw [hA] at b1
     rw [hB] at b2
     have HA := Hd hA
     have HB := Hd hB
     clear hA hB
     by_cases he : l[k] = l'[k]
     ·rw [← he] at c0 c1
      have HE := Hd he
      clear he
      go_wp2
      (refine wp_region_mix' (fun _ _ _ _ _ hq => hq) 11 (by kernel_rfl) (by kernel_rfl) (fun hg => ?_); simp only [headOps, Tc, Tz, List.filter_cons, List.filter_nil, isAlloc, Bool.not_false, Bf, if_true, if_false, List.append_nil, Dc, Dz])
      (repeat (refine wpMix_plain rfl rfl ?_; go_big_quiet_step (fail); refine wpQuiet_nil ?_))
      refine wpMix_nil ?_
      intro w2 hx2
      go_wp2
      go_roundw
      case rel => exact ⟨k + 1, by omega, by go_num, take_eq_next hlt hltb HT1.out HE.out, Ext.trans hx hx2⟩
      case measure => simp [intOf] <;> omega
     ·have HN := Hd (show false = (eqB l l' && eqB s s') by rw [eqB_false (a := l) (b := l') (by rintro rfl; exact he rfl)]; simp)
      have HE := Hd he
      clear he
      cases q0 : (l[k].key == l'[k].key)
      ·have p0 : ¬ l[k].key = l'[k].key := by simpa using q0
       go_wp2
       (refine wp_region_mix' (fun _ _ _ _ _ hq => hq) 11 (by kernel_rfl) (by kernel_rfl) (fun hg => ?_); simp only [headOps, Tc, Tz, List.filter_cons, List.filter_nil, isAlloc, Bool.not_false, Bf, if_true, if_false, List.append_nil, Dc, Dz])
       (repeat (refine wpMix_plain rfl rfl ?_; go_big_quiet_step (fail); refine wpQuiet_nil ?_))
       refine wpMix_nil ?_
       intro w2 hx2
       go_wp2
       go_ret
       exact ⟨ret_bool HN.out, Ext.trans X1 hx2⟩
      ·have p0 : l[k].key = l'[k].key := by simpa using q0
       cases q1 : (l[k].value == l'[k].value)
       ·have p1 : ¬ l[k].value = l'[k].value := by simpa using q1
        go_wp2
        (refine wp_region_mix' (fun _ _ _ _ _ hq => hq) 11 (by kernel_rfl) (by kernel_rfl) (fun hg => ?_); simp only [headOps, Tc, Tz, List.filter_cons, List.filter_nil, isAlloc, Bool.not_false, Bf, if_true, if_false, List.append_nil, Dc, Dz])
        (repeat (refine wpMix_plain rfl rfl ?_; go_big_quiet_step (fail); refine wpQuiet_nil ?_))
        refine wpMix_nil ?_
        intro w2 hx2
        go_wp2
        go_ret
        exact ⟨ret_bool HN.out, Ext.trans X1 hx2⟩
       ·have p1 : l[k].value = l'[k].value := by simpa using q1
        exact absurd (by cases hx1 : l[k]; cases hx2 : l'[k]; simp_all) HE.out
    ·obtain rfl : k = l.length := by omega
     have HEq := Hd (show l = l' by
      have h1 := HT1.out
      rw [List.take_length, HL.out, List.take_length] at h1
      exact h1)
     have HX1 := Hd hx
     go_wp2
     clear b1 b2 z1 z2 B1 B2 X1 hx
     obtain ⟨wo, hwo⟩ : ∃ wo : World, wo = wr := ⟨_, rfl⟩
     go_loopw [6] (fun i wr2 => ∃ k : Nat, k ≤ s.length ∧ i = .int .i64 k ∧ s.take k = s'.take k ∧ Ext ((w.alloc (Ig.obj A l.length ca B s.length cb)).alloc (Ig.obj A' l'.length ca' B' s'.length cb')) wr2) (fun i _ => s.length - (intOf i).toNat)
     case atStart => exact ⟨0, Nat.zero_le _, rfl, by simp, HX1.out⟩
     case round =>
      obtain ⟨k, hk, rfl, ht, hx⟩ := hrel
      have HT2 := Hd ht
      clear ht
      have B1 := hx.box (hOld (o := Ig.obj A' l'.length ca' B' s'.length cb') (hNew (w := w) (o := Ig.obj A l.length ca B s.length cb) rfl))
      have B2 := hx.box (hNew (w := w.alloc (Ig.obj A l.length ca B s.length cb)) (o := Ig.obj A' l'.length ca' B' s'.length cb') rfl)
      rw [sz_alloc] at B2
      have b1 := bx_cell B1
      have b2 := bx_cell B2
      have z1 := bx_lt B1
      have z2 := bx_lt B2
      have X1 := Ext.trans X0 hx
      by_cases hlt : k < s.length
      ·have hltb : k < s'.length := by have := HM.out; omega
       obtain ⟨ab, ao, hA, hab, a0, a1, a2⟩ := (H2.out.keep X1).atSea hlt
       obtain ⟨bb, bo, hB, hbb, c0, c1, c2⟩ := (H4.out.keep X1).atSea hltb
       rw [hA] at b1
       rw [hB] at b2
       have HA := Hd hA
       have HB := Hd hB
       clear hA hB
       by_cases he : s[k] = s'[k]
       ·rw [← he] at c0 c1 c2
        have HE := Hd he
        clear he
        go_wp2
        (refine wp_region_mix' (fun _ _ _ _ _ hq => hq) 11 (by kernel_rfl) (by kernel_rfl) (fun hg => ?_); simp only [headOps, Tc, Tz, List.filter_cons, List.filter_nil, isAlloc, Bool.not_false, Bf, if_true, if_false, List.append_nil, Dc, Dz])
        (repeat (refine wpMix_plain rfl rfl ?_; go_big_quiet_step (fail); refine wpQuiet_nil ?_))
        refine wpMix_nil ?_
        intro w2 hx2
        go_wp2
        go_roundw
        case rel => exact ⟨k + 1, by omega, by go_num, take_eq_next hlt hltb HT2.out HE.out, Ext.trans hx hx2⟩
        case measure => simp [intOf] <;> omega
       ·have HN := Hd (show false = (eqB l l' && eqB s s') by rw [eqB_false (a := s) (b := s') (by rintro rfl; exact he rfl)]; simp)
        have HE := Hd he
        clear he
        cases q0 : (s[k].client == s'[k].client)
        ·have p0 : ¬ s[k].client = s'[k].client := by simpa using q0
         go_wp2
         (refine wp_region_mix' (fun _ _ _ _ _ hq => hq) 11 (by kernel_rfl) (by kernel_rfl) (fun hg => ?_); simp only [headOps, Tc, Tz, List.filter_cons, List.filter_nil, isAlloc, Bool.not_false, Bf, if_true, if_false, List.append_nil, Dc, Dz])
         (repeat (refine wpMix_plain rfl rfl ?_; go_big_quiet_step (fail); refine wpQuiet_nil ?_))
         refine wpMix_nil ?_
         intro w2 hx2
         go_wp2
         go_ret
         exact ⟨ret_bool HN.out, Ext.trans X1 hx2⟩
        ·have p0 : s[k].client = s'[k].client := by simpa using q0
         cases q1 : (s[k].req == s'[k].req)
         ·have p1 : ¬ s[k].req = s'[k].req := by simpa using q1
          go_wp2
          (refine wp_region_mix' (fun _ _ _ _ _ hq => hq) 11 (by kernel_rfl) (by kernel_rfl) (fun hg => ?_); simp only [headOps, Tc, Tz, List.filter_cons, List.filter_nil, isAlloc, Bool.not_false, Bf, if_true, if_false, List.append_nil, Dc, Dz])
          (repeat (refine wpMix_plain rfl rfl ?_; go_big_quiet_step (fail); refine wpQuiet_nil ?_))
          refine wpMix_nil ?_
          intro w2 hx2
          go_wp2
          go_ret
          exact ⟨ret_bool HN.out, Ext.trans X1 hx2⟩
         ·have p1 : s[k].req = s'[k].req := by simpa using q1
          cases q2 : (s[k].answer == s'[k].answer)
          ·have p2 : ¬ s[k].answer = s'[k].answer := by simpa using q2
           go_wp2
           (refine wp_region_mix' (fun _ _ _ _ _ hq => hq) 11 (by kernel_rfl) (by kernel_rfl) (fun hg => ?_); simp only [headOps, Tc, Tz, List.filter_cons, List.filter_nil, isAlloc, Bool.not_false, Bf, if_true, if_false, List.append_nil, Dc, Dz])
           (repeat (refine wpMix_plain rfl rfl ?_; go_big_quiet_step (fail); refine wpQuiet_nil ?_))
           refine wpMix_nil ?_
           intro w2 hx2
           go_wp2
           go_ret
           exact ⟨ret_bool HN.out, Ext.trans X1 hx2⟩
          ·have p2 : s[k].answer = s'[k].answer := by simpa using q2
           exact absurd (by cases hx1 : s[k]; cases hx2 : s'[k]; simp_all) HE.out
      ·obtain rfl : k = s.length := by omega
       have HV := Hd (show true = (eqB l l' && eqB s s') by
        have h2 := HT2.out
        rw [List.take_length, HM.out, List.take_length] at h2
        rw [eqB_true HEq.out, eqB_true h2]; rfl)
       go_wp2
       go_ret
       exact ⟨ret_bool HV.out, X1⟩
  ·have hm1 : ((s.length : Int) != (s'.length : Int)) = true := by simp; omega
   have HN := Hd (show false = (eqB l l' && eqB s s') by rw [eqB_false (a := s) (by rintro rfl; exact hm rfl), Bool.and_false])
   clear hm
   go_enter Tryz.func52, Tryz.ntmps52
   go_wp2
   go_ret
   exact ⟨ret_bool HN.out, X0⟩
 ·have hl1 : ((l.length : Int) != (l'.length : Int)) = true := by simp; omega
  have HN := Hd (show false = (eqB l l' && eqB s s') by rw [eqB_false (by rintro rfl; exact hl rfl)]; rfl)
  clear hl
  go_enter Tryz.func52, Tryz.ntmps52
  go_wp2
  go_ret
  exact ⟨ret_bool HN.out, X0⟩
end Go.Proofs.YtmphedkbdlckhaaGreat
