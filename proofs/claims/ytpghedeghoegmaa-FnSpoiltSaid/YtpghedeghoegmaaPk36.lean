/- SameMsg of the program at two readings of one message. -/
import Derived.Test.YtpghedeghoegmaaPk22
import Derived.Test.YtpghedeghoegmaaPk8
import Derived.Test.YtpghedeghoegmaaPk33
namespace Go.Proofs.Ytpghedeghoegmaa
open Go.ChangeShapes Go.WideShapes Go.ChangeAt Go.RowKit Go.Sort
set_option linter.unusedVariables false
set_option linter.unusedSimpArgs false
set_option maxHeartbeats 2000000 in
theorem c_equalSCel (A B : Option Addr) (ca cb : Nat) (a : List Cel) (w : World) (ha : Rd Cel.enc 2 w A ca a) (hb : Rd Cel.enc 2 w B cb a) (hn : a.length ≤ 1048576) :
  Calls Try.prog 126 #[.slice A a.length ca, .slice B a.length cb] w fun e w' => e = .returned (.bool true) ∧ Ext w w' := by
 go_enter Try.func126, Try.ntmps126
 go_wp2
 go_loopw [13] (fun i wr => ∃ k : Nat, k ≤ a.length ∧ i = .int .i64 k ∧ Ext w wr) (fun i _ => a.length - (intOf i).toNat)
 case atStart => exact ⟨0, Nat.zero_le _, rfl, ext_refl _⟩
 case round =>
  obtain ⟨k, hk, rfl, hx⟩ := hrel
  by_cases hlt : k < a.length
  ·obtain ⟨ab, ao, rfl, hab, a0, a1⟩ := (ha.keep hx).atCel hlt
   obtain ⟨bb, bo, rfl, hbb, b0, b1⟩ := (hb.keep hx).atCel hlt
   go_wp2
   (refine wp_region_mix' (fun _ _ _ _ _ hq => hq) 9 (by kernel_rfl) (by kernel_rfl) (fun hg => ?_); simp only [headOps, Tc, Tz, List.filter_cons, List.filter_nil, isAlloc, Bool.not_false, Bf, if_true, if_false, List.append_nil, Dc, Dz])
   (repeat (refine wpMix_plain rfl rfl ?_; go_big_quiet_step (fail); refine wpQuiet_nil ?_))
   refine wpMix_nil ?_
   intro w2 hx2
   go_wp2
   go_roundw
   case rel => exact ⟨k + 1, by omega, by go_num, Ext.trans hx hx2⟩
   case measure => simp [intOf]; omega
  ·go_wp2
   go_ret
   exact ⟨rfl, hx⟩
set_option maxHeartbeats 2000000 in
theorem c_equalSSea (A B : Option Addr) (ca cb : Nat) (a : List Sea) (w : World) (ha : Rd Sea.enc 3 w A ca a) (hb : Rd Sea.enc 3 w B cb a) (hn : a.length ≤ 1048576) :
  Calls Try.prog 127 #[.slice A a.length ca, .slice B a.length cb] w fun e w' => e = .returned (.bool true) ∧ Ext w w' := by
 go_enter Try.func127, Try.ntmps127
 go_wp2
 go_loopw [13] (fun i wr => ∃ k : Nat, k ≤ a.length ∧ i = .int .i64 k ∧ Ext w wr) (fun i _ => a.length - (intOf i).toNat)
 case atStart => exact ⟨0, Nat.zero_le _, rfl, ext_refl _⟩
 case round =>
  obtain ⟨k, hk, rfl, hx⟩ := hrel
  by_cases hlt : k < a.length
  ·obtain ⟨ab, ao, rfl, hab, a0, a1, a2⟩ := (ha.keep hx).atSea hlt
   obtain ⟨bb, bo, rfl, hbb, b0, b1, b2⟩ := (hb.keep hx).atSea hlt
   go_wp2
   (refine wp_region_mix' (fun _ _ _ _ _ hq => hq) 9 (by kernel_rfl) (by kernel_rfl) (fun hg => ?_); simp only [headOps, Tc, Tz, List.filter_cons, List.filter_nil, isAlloc, Bool.not_false, Bf, if_true, if_false, List.append_nil, Dc, Dz])
   (repeat (refine wpMix_plain rfl rfl ?_; go_big_quiet_step (fail); refine wpQuiet_nil ?_))
   refine wpMix_nil ?_
   intro w2 hx2
   go_wp2
   go_roundw
   case rel => exact ⟨k + 1, by omega, by go_num, Ext.trans hx hx2⟩
   case measure => simp [intOf]; omega
  ·go_wp2
   go_ret
   exact ⟨rfl, hx⟩
set_option maxHeartbeats 2000000 in
theorem c_equalSEnt (A B : Option Addr) (ca cb : Nat) (a : List Ent) (w : World) (ha : Rd Ent.enc 5 w A ca a) (hb : Rd Ent.enc 5 w B cb a) (hn : a.length ≤ 1048576) :
  Calls Try.prog 101 #[.slice A a.length ca, .slice B a.length cb] w fun e w' => e = .returned (.bool true) ∧ Ext w w' := by
 go_enter Try.func101, Try.ntmps101
 go_wp2
 go_loopw [13] (fun i wr => ∃ k : Nat, k ≤ a.length ∧ i = .int .i64 k ∧ Ext w wr) (fun i _ => a.length - (intOf i).toNat)
 case atStart => exact ⟨0, Nat.zero_le _, rfl, ext_refl _⟩
 case round =>
  obtain ⟨k, hk, rfl, hx⟩ := hrel
  by_cases hlt : k < a.length
  ·obtain ⟨ab, ao, rfl, hab, a0, a1, a2, a3, a4⟩ := (ha.keep hx).atEnt hlt
   obtain ⟨bb, bo, rfl, hbb, b0, b1, b2, b3, b4⟩ := (hb.keep hx).atEnt hlt
   go_wp2
   (refine wp_region_mix' (fun _ _ _ _ _ hq => hq) 9 (by kernel_rfl) (by kernel_rfl) (fun hg => ?_); simp only [headOps, Tc, Tz, List.filter_cons, List.filter_nil, isAlloc, Bool.not_false, Bf, if_true, if_false, List.append_nil, Dc, Dz])
   (repeat (refine wpMix_plain rfl rfl ?_; go_big_quiet_step (fail); refine wpQuiet_nil ?_))
   refine wpMix_nil ?_
   intro w2 hx2
   go_wp2
   go_roundw
   case rel => exact ⟨k + 1, by omega, by go_num, Ext.trans hx hx2⟩
   case measure => simp [intOf]; omega
  ·go_wp2
   go_ret
   exact ⟨rfl, hx⟩
abbrev Ig9 (A : Option Addr) (n c : Nat) (B : Option Addr) (m d : Nat) : Obj := .cells #[.slice A n c, .slice B m d] 41
theorem c_iSameImageS (A B A' B' : Option Addr) (ca cb ca' cb' : Nat) (l : List Cel) (s : List Sea) (w : World) (h1 : Rd Cel.enc 2 w A ca l) (h2 : Rd Sea.enc 3 w B cb s) (h3 : Rd Cel.enc 2 w A' ca' l) (h4 : Rd Sea.enc 3 w B' cb' s) (n1 : l.length ≤ 1048576) (n2 : s.length ≤ 1048576) :
  Calls Try.prog 100 #[.agg #[.slice A l.length ca, .slice B s.length cb], .agg #[.slice A' l.length ca', .slice B' s.length cb']] w fun e w' => e = .returned (.bool true) ∧ Ext w w' := by
 have X0 : Ext w ((w.alloc (Ig9 A l.length ca B s.length cb)).alloc (Ig9 A' l.length ca' B' s.length cb')) := ext_to (ext_alloc _ _) _
 have HC := Hd (c_equalSCel A A' ca ca' l _ (h1.keep X0) (h3.keep X0) n1)
 have HS := Hd (fun W (h : Ext ((w.alloc (Ig9 A l.length ca B s.length cb)).alloc (Ig9 A' l.length ca' B' s.length cb')) W) => c_equalSSea B B' cb cb' s W (h2.keep (Ext.trans X0 h)) (h4.keep (Ext.trans X0 h)) n2)
 clear h1 h2 h3 h4
 go_enter Try.func100, Try.ntmps100
 go_wp2_with fail
 refine HC.out.mono ?_
 rintro e w1 ⟨rfl, x1⟩
 have B1 := x1.box (hOld (o := Ig9 A' l.length ca' B' s.length cb') (hNew (w := w) (o := Ig9 A l.length ca B s.length cb) rfl))
 have B2 := x1.box (hNew (w := w.alloc (Ig9 A l.length ca B s.length cb)) (o := Ig9 A' l.length ca' B' s.length cb') rfl)
 rw [sz_alloc] at B2
 have b1 := bx_cell B1
 have b2 := bx_cell B2
 go_wp2_with fail
 refine (HS.out _ x1).mono ?_
 rintro e w2 ⟨rfl, x2⟩
 go_wp2
 go_ret
 exact ⟨rfl, Ext.trans X0 (Ext.trans x1 x2)⟩
set_option maxHeartbeats 2000000 in
theorem c_iSameLogS (a b : LAd) (l : Lg) (w : World) (h1 : LgR w a l) (h2 : LgR w b l) (hs : l.small) :
  Calls Try.prog 64 #[Lg.val a l, Lg.val b l] w fun e w' => e = .returned (.bool true) ∧ Ext w w' := by
 have X0 : Ext w ((w.alloc (Lg.obj a l)).alloc (Lg.obj b l)) := ext_to (ext_alloc _ _) _
 have HI := Hd (c_iSameImageS a.cA a.sA b.cA b.sA a.cc a.sc b.cc b.sc l.cells l.seats _ (h1.keep X0).1 (h1.keep X0).2.1 (h2.keep X0).1 (h2.keep X0).2.1 hs.1 hs.2.1)
 have HE := Hd (fun W (h : Ext ((w.alloc (Lg.obj a l)).alloc (Lg.obj b l)) W) => c_equalSEnt a.eA b.eA a.ec b.ec l.ents W (h1.keep (Ext.trans X0 h)).2.2 (h2.keep (Ext.trans X0 h)).2.2 hs.2.2)
 clear h1 h2 hs
 go_enter Try.func64, Try.ntmps64
 go_wp2_with fail
 refine HI.out.mono ?_
 rintro e w1 ⟨rfl, x1⟩
 have B1 := x1.box (hOld (o := Lg.obj b l) (hNew (w := w) (o := Lg.obj a l) rfl))
 have B2 := x1.box (hNew (w := w.alloc (Lg.obj a l)) (o := Lg.obj b l) rfl)
 rw [sz_alloc] at B2
 have b1 := bx_cell B1
 have b2 := bx_cell B2
 go_wp2_with fail
 refine (HE.out _ x1).mono ?_
 rintro e w2 ⟨rfl, x2⟩
 go_wp2
 go_ret
 exact ⟨rfl, Ext.trans X0 (Ext.trans x1 x2)⟩
set_option maxRecDepth 100000 in
set_option maxHeartbeats 8000000 in
theorem c_iSameMsgS (a b : LAd) (m : Mg) (w : World) (h1 : LgR w a m.log) (h2 : LgR w b m.log) (hs : m.log.small) :
  Calls Try.prog 25 #[Mg.val a m, Mg.val b m] w fun e w' => e = .returned (.bool true) ∧ Ext w w' := by
 have X0 : Ext w ((w.alloc (Mg.obj a m)).alloc (Mg.obj b m)) := ext_to (ext_alloc _ _) _
 have E1 := Hd (hOld (o := Mg.obj b m) (hNew (w := w) (o := Mg.obj a m) rfl))
 have E2 := Hd (hNew (w := w.alloc (Mg.obj a m)) (o := Mg.obj b m) (k := w.heap.size + 1) (by simp))
 have HL := Hd (fun W (h : Ext w W) => c_iSameLogS a b m.log W (h1.keep h) (h2.keep h) hs)
 have HX0 := Hd X0
 clear h1 h2 hs X0
 go_enter Try.func25, Try.ntmps25
 go_wp2
 go_loopw [5, 6] (fun _ i wr => ∃ k : Nat, k ≤ 9 ∧ i = .int .i64 k ∧ Ext ((w.alloc (Mg.obj a m)).alloc (Mg.obj b m)) wr) (fun _ i _ => 9 - (intOf i).toNat)
 case atStart => exact ⟨0, Nat.zero_le _, rfl, ext_refl _⟩
 case round =>
  obtain ⟨k, hk, rfl, hx0⟩ := hrel
  have B1 := Hd (hx0.box E1.out)
  have B2 := Hd (hx0.box E2.out)
  have X1 := Hd (Ext.trans HX0.out hx0)
  by_cases hlt : k < 9
  ·have hl : (((⟨#[70, 86, 79, 67, 78, 110, 99, 114, 65]⟩ : ByteArray)[k]'hlt).toNat : Int) = iLet k := by rw [iLet, dif_pos hlt]
   have hc1 := Hd (show wr.cell? ⟨w.heap.size, nOff (iLet k), none⟩ = some (.int .i64 (iVal m k)) from (bx_cell B1.out _).trans (iLet_at a m k hlt))
   have hc2 := Hd (show wr.cell? ⟨w.heap.size + 1, nOff (iLet k), none⟩ = some (.int .i64 (iVal m k)) from (bx_cell B2.out _).trans (iLet_at b m k hlt))
   go_wp2
   (refine Rm.wp_region_mix' (R := relE wr.heap.size) (fun _ _ _ => True) (fun _ _ _ _ _ hq => hq) 10 (by first | exact Nat.le_refl _ | omega | (simp; omega)) (by kernel_rfl) (by kernel_rfl) ?_; simp only [Tc, Tz, Dc, Dz])
   (iterate 2 (refine Rm.wpMix_plain rfl rfl ?_; go_big_quiet_step (fail); refine wpQuiet_nil ?_))
   (try simp only [hl])
   (refine Rm.wpMix_det rfl rfl rfl (enters Try.func40 (by kernel_rfl) rfl) (fun W9' h9 => c_numOf w.heap.size (iLet k) W9') rfl ?_; simp only [Act.put, Sa, Sz, Ss])
   (refine Rm.wpMix_nilp rfl rfl rfl ?_; simp only [Act.put, Sa, Sz, Ss])
   (refine Rm.wpMix_load1 (fun W h => (World.cell?_of_block (a := ⟨w.heap.size, nOff (iLet k), none⟩) (h.block _ (bx_lt B1.out))).trans hc1.out) rfl rfl rfl Try.underlying3 rfl ?_; simp only [Act.put, Sa, Sz, Ss])
   (iterate 2 (refine Rm.wpMix_plain rfl rfl ?_; go_big_quiet_step (fail); refine wpQuiet_nil ?_))
   (try simp only [hl])
   (refine Rm.wpMix_det rfl rfl rfl (enters Try.func40 (by kernel_rfl) rfl) (fun W9' h9 => c_numOf (w.heap.size + 1) (iLet k) W9') rfl ?_; simp only [Act.put, Sa, Sz, Ss])
   (refine Rm.wpMix_nilp rfl rfl rfl ?_; simp only [Act.put, Sa, Sz, Ss])
   (refine Rm.wpMix_load1 (fun W h => (World.cell?_of_block (a := ⟨w.heap.size + 1, nOff (iLet k), none⟩) (h.block _ (bx_lt B2.out))).trans hc2.out) rfl rfl rfl Try.underlying3 rfl ?_; simp only [Act.put, Sa, Sz, Ss])
   refine Rm.wpMix_nil ?_
   rintro w5 hW
   have x5 : Ext wr w5 := hW
   go_wp2
   go_roundw
   case rel => exact ⟨k + 1, by omega, by go_num, Ext.trans hx0 x5⟩
   case measure => simp [intOf] <;> omega
  ·obtain rfl : k = 9 := by omega
   have b1 := bx_cell B1.out
   have b2 := bx_cell B2.out
   have z1 := bx_lt B1.out
   have z2 := bx_lt B2.out
   go_wp2_with fail
   refine (HL.out _ X1.out).mono ?_
   rintro e w2 ⟨rfl, x2⟩
   go_wp2
   go_ret
   exact ⟨rfl, Ext.trans X1.out x2⟩
abbrev rdO (A : Option Addr) (n c at_ : Nat) (ok : Bool) : Obj := .cells #[.slice A n c, .int .i64 at_, .bool ok] 84
def rdN (b : List Nat) (at_ : Nat) (ok : Bool) : Int × Nat × Bool := if ok = true then (match getZ b at_ with | none => (0, 0, false) | some p => (p.1, p.2, true)) else (0, at_, false)
def rdF (b : List Nat) (at_ : Nat) (ok : Bool) : Int × Nat × Bool := ((rdN b at_ ok).1, (rdN b at_ ok).2.1, (rdN b at_ ok).2.2 && decide ((rdN b at_ ok).1 ≤ 1000000001))
theorem rdN_off (b : List Nat) (at_ : Nat) : rdN b at_ false = (0, at_, false) := rfl
theorem rdN_none {b : List Nat} {at_ : Nat} (h : getZ b at_ = none) : rdN b at_ true = (0, 0, false) := by unfold rdN; rw [h]; rfl
theorem rdN_some {b : List Nat} {at_ : Nat} {x : Int} {f : Nat} (h : getZ b at_ = some (x, f)) : rdN b at_ true = (x, f, true) := by unfold rdN; rw [h]; rfl
theorem rdN_le {b : List Nat} (hb : Byt b) {at_ : Nat} (ha : at_ ≤ b.length) (ok : Bool) : (rdN b at_ ok).2.1 ≤ b.length ∧ 0 ≤ (rdN b at_ ok).1 ∧ (rdN b at_ ok).1 < 9223372036854775808 := by
 cases ok
 ·rw [rdN_off]; exact ⟨ha, by simp, by simp⟩
 ·cases hz : getZ b at_ with
  | none => rw [rdN_none hz]; exact ⟨Nat.zero_le _, by simp, by simp⟩
  | some p =>
   rw [rdN_some (x := p.1) (f := p.2) hz]
   exact getZ_le hb hz
def RdS (w w' : World) (r : Nat) (A : Option Addr) (n c : Nat) (s : Nat × Bool) : Prop := w'.heap[r]? = some (rdO A n c s.1 s.2) ∧ Chg w w' [r]
set_option maxRecDepth 100000 in
set_option maxHeartbeats 16000000 in
theorem c_num (A : Option Addr) (c : Nat) (b : List Nat) (at_ : Nat) (ok : Bool) (r : Nat) (w : World) (hr : Rd bEnc 1 w A c b) (hb : Byt b) (hn : b.length ≤ 1048576) (ha : at_ ≤ 1048576) (hB : w.heap[r]? = some (rdO A b.length c at_ ok)) :
  Calls Try.prog 50 #[.pointer (some ⟨r, 0, none⟩)] w fun e w' => e = .returned (.int .i64 (rdN b at_ ok).1) ∧ RdS w w' r A b.length c (rdN b at_ ok).2 := by
 have D := Hd hB
 cases ok
 ·rw [rdN_off]
  have dp := bx_cell hB
  have fp := bx_frozen hB
  have zp := bx_lt hB
  clear hB
  go_enter Try.func50, Try.ntmps50
  go_wp2
  exact bodyPost_ret (v := .int .i64 0) (by simp [results, Try.results50, go_sem]) rfl ⟨rfl, D.out, Chg.refl w _⟩
 ·have HC := Hd (fun W (h : Ext w W) => c_iGetNum A c b at_ W (hr.keep h) hb hn ha)
  have dp := bx_cell hB
  have fp := bx_frozen hB
  have zp := bx_lt hB
  clear hr hB
  cases hz : getZ b at_ with
  | none =>
   rw [rdN_none hz]
   rw [hz] at HC
   clear hz
   go_enter Try.func50, Try.ntmps50
   go_wp2
   (refine Rm.wp_region_mix' (R := relE w.heap.size) (fun _ _ _ => True) (fun _ _ _ _ _ hq => hq) 16 (by first | exact Nat.le_refl _ | omega | (simp; omega)) (by kernel_rfl) (by kernel_rfl) ?_; simp only [Tc, Tz, Dc, Dz])
   (iterate 1 (refine Rm.wpMix_plain rfl rfl ?_; go_big_quiet_step (fail); refine wpQuiet_nil ?_))
   (refine Rm.wpMix_nilp rfl rfl rfl ?_; simp only [Act.put, Sa, Sz, Ss])
   (iterate 1 (refine Rm.wpMix_plain rfl rfl ?_; go_big_quiet_step (fail); refine wpQuiet_nil ?_))
   (refine Rm.wpMix_load1 (fun W9' h9 => show W9'.cell? _ = some (.slice A b.length c) from bx_cell (Ext.box h9 D.out) 0) rfl rfl rfl Try.underlying34 rfl ?_; simp only [Act.put, Sa, Sz, Ss])
   (iterate 1 (refine Rm.wpMix_plain rfl rfl ?_; go_big_quiet_step (fail); refine wpQuiet_nil ?_))
   (refine Rm.wpMix_nilp rfl rfl rfl ?_; simp only [Act.put, Sa, Sz, Ss])
   (iterate 1 (refine Rm.wpMix_plain rfl rfl ?_; go_big_quiet_step (fail); refine wpQuiet_nil ?_))
   (refine Rm.wpMix_load1 (fun W9' h9 => show W9'.cell? _ = some (.int .i64 at_) from bx_cell (Ext.box h9 D.out) 1) rfl rfl rfl Try.underlying3 rfl ?_; simp only [Act.put, Sa, Sz, Ss])
   (refine Rm.wpMix_det rfl rfl rfl (enters Try.func88 (by kernel_rfl) rfl) (fun W9' h9 => HC.out W9' h9) rfl ?_; simp only [Act.put, Sa, Sz, Ss])
   simp only [gT]
   (iterate 7 (refine Rm.wpMix_plain rfl rfl ?_; go_big_quiet_step (fail); refine wpQuiet_nil ?_))
   refine Rm.wpMix_nil ?_
   rintro w2 hW
   have x2 : Ext w w2 := hW
   have D2 := Hd (x2.box D.out)
   have dp := bx_cell D2.out
   have fp := bx_frozen D2.out
   have zp := bx_lt D2.out
   have D3 := Hd (box_put D2.out 1 (.int .i64 0))
   have D4 := Hd (box_put D3.out 2 (.bool false))
   have C4 := Hd (chg_set (p := ⟨r, 2, none⟩) (chg_set (p := ⟨r, 1, none⟩) (chg_ext [r] x2) (by simp) (.int .i64 0)) (by simp) (.bool false))
   clear x2 hW HC D D2 D3
   go_wp2
   exact bodyPost_ret (v := .int .i64 0) (by simp [results, Try.results50, go_sem]) rfl ⟨rfl, D4.out, C4.out⟩
  | some pz =>
   obtain ⟨x, f⟩ := pz
   rw [rdN_some hz]
   rw [hz] at HC
   clear hz
   go_enter Try.func50, Try.ntmps50
   go_wp2
   (refine Rm.wp_region_mix' (R := relE w.heap.size) (fun _ _ _ => True) (fun _ _ _ _ _ hq => hq) 16 (by first | exact Nat.le_refl _ | omega | (simp; omega)) (by kernel_rfl) (by kernel_rfl) ?_; simp only [Tc, Tz, Dc, Dz])
   (iterate 1 (refine Rm.wpMix_plain rfl rfl ?_; go_big_quiet_step (fail); refine wpQuiet_nil ?_))
   (refine Rm.wpMix_nilp rfl rfl rfl ?_; simp only [Act.put, Sa, Sz, Ss])
   (iterate 1 (refine Rm.wpMix_plain rfl rfl ?_; go_big_quiet_step (fail); refine wpQuiet_nil ?_))
   (refine Rm.wpMix_load1 (fun W9' h9 => show W9'.cell? _ = some (.slice A b.length c) from bx_cell (Ext.box h9 D.out) 0) rfl rfl rfl Try.underlying34 rfl ?_; simp only [Act.put, Sa, Sz, Ss])
   (iterate 1 (refine Rm.wpMix_plain rfl rfl ?_; go_big_quiet_step (fail); refine wpQuiet_nil ?_))
   (refine Rm.wpMix_nilp rfl rfl rfl ?_; simp only [Act.put, Sa, Sz, Ss])
   (iterate 1 (refine Rm.wpMix_plain rfl rfl ?_; go_big_quiet_step (fail); refine wpQuiet_nil ?_))
   (refine Rm.wpMix_load1 (fun W9' h9 => show W9'.cell? _ = some (.int .i64 at_) from bx_cell (Ext.box h9 D.out) 1) rfl rfl rfl Try.underlying3 rfl ?_; simp only [Act.put, Sa, Sz, Ss])
   (refine Rm.wpMix_det rfl rfl rfl (enters Try.func88 (by kernel_rfl) rfl) (fun W9' h9 => HC.out W9' h9) rfl ?_; simp only [Act.put, Sa, Sz, Ss])
   simp only [gT]
   (iterate 7 (refine Rm.wpMix_plain rfl rfl ?_; go_big_quiet_step (fail); refine wpQuiet_nil ?_))
   refine Rm.wpMix_nil ?_
   rintro w2 hW
   have x2 : Ext w w2 := hW
   have D2 := Hd (x2.box D.out)
   have dp := bx_cell D2.out
   have fp := bx_frozen D2.out
   have zp := bx_lt D2.out
   have D3 := Hd (box_put D2.out 1 (.int .i64 f))
   have D4 := Hd (box_put D3.out 2 (.bool true))
   have C4 := Hd (chg_set (p := ⟨r, 2, none⟩) (chg_set (p := ⟨r, 1, none⟩) (chg_ext [r] x2) (by simp) (.int .i64 f)) (by simp) (.bool true))
   clear x2 hW HC D D2 D3
   go_wp2
   exact bodyPost_ret (v := .int .i64 x) (by simp [results, Try.results50, go_sem]) rfl ⟨rfl, D4.out, C4.out⟩
set_option maxRecDepth 100000 in
set_option maxHeartbeats 16000000 in
theorem c_field (A : Option Addr) (c : Nat) (b : List Nat) (at_ : Nat) (ok : Bool) (r : Nat) (w : World) (hr : Rd bEnc 1 w A c b) (hb : Byt b) (hn : b.length ≤ 1048576) (ha : at_ ≤ b.length) (hB : w.heap[r]? = some (rdO A b.length c at_ ok)) :
  Calls Try.prog 51 #[.pointer (some ⟨r, 0, none⟩)] w fun e w' => e = .returned (.int .i64 (rdF b at_ ok).1) ∧ RdS w w' r A b.length c (rdF b at_ ok).2 := by
 have HC := Hd (c_num A c b at_ ok r w hr hb hn (by omega) hB)
 obtain ⟨h1, h2, h3⟩ := rdN_le hb ha ok
 unfold rdF
 obtain ⟨⟨x, f, k⟩, hx⟩ : ∃ p, rdN b at_ ok = p := ⟨_, rfl⟩
 rw [hx] at h1 h2 h3 HC ⊢
 simp only at h1 h2 h3 HC ⊢
 clear hB hr hx
 go_enter Try.func51, Try.ntmps51
 go_wp2_with fail
 refine HC.out.mono ?_
 rintro e w1 ⟨rfl, hd1, hc1⟩
 have D1 := Hd hd1
 have C1 := Hd hc1
 have dp := bx_cell hd1
 have fp := bx_frozen hd1
 have zp := bx_lt hd1
 clear HC hd1 hc1
 cases k
 ·simp only [Bool.false_and]
  have D2 := Hd (box_put D1.out 2 (.bool false))
  have C2 := Hd (chg_set (p := ⟨r, 2, none⟩) C1.out (by simp) (.bool false))
  clear D1 C1
  go_wp2
  exact bodyPost_ret (v := .int .i64 x) (by simp [results, Try.results51, go_sem]) rfl ⟨rfl, D2.out, C2.out⟩
 ·simp only [Bool.true_and]
  have D2 := Hd (box_put D1.out 2 (.bool (decide (x ≤ 1000000001))))
  have C2 := Hd (chg_set (p := ⟨r, 2, none⟩) C1.out (by simp) (.bool (decide (x ≤ 1000000001))))
  clear D1 C1
  go_wp2
  exact bodyPost_ret (v := .int .i64 x) (by simp [results, Try.results51, go_sem]) rfl ⟨rfl, D2.out, C2.out⟩
abbrev RwE := (Option Addr × Nat) × List Int
def RwE.enc (x : RwE) : List Value := [.slice x.1.1 x.2.length x.1.2]
theorem RwE.len : ∀ x : RwE, (RwE.enc x).length = 1 := fun _ => rfl
theorem RwE.one : ∀ x : RwE, ∀ u ∈ RwE.enc x, u.oneCell' = true := fun x u hu => by simp only [RwE.enc, Mi] at hu; subst hu; rfl
theorem Try.infoRw : (Try.prog.info? 65).map (fun i => (i.zero, i.size, i.bytes)) = some (some (.slice none 0 0), 1, 24) := by kernel_rfl
def rdM (b : List Nat) : Nat → Nat → Bool → List Int × Nat × Bool
 | 0, at_, ok => ([], at_, ok)
 | n + 1, at_, ok => ((rdN b at_ ok).1 :: (rdM b n (rdN b at_ ok).2.1 (rdN b at_ ok).2.2).1, (rdM b n (rdN b at_ ok).2.1 (rdN b at_ ok).2.2).2)
def rdR (b : List Nat) (wide : Nat) : Nat → Nat → Bool → List (List Int) × Nat × Bool
 | 0, at_, ok => ([], at_, ok)
 | n + 1, at_, ok => if ok = true then ((rdM b wide at_ ok).1 :: (rdR b wide n (rdM b wide at_ ok).2.1 (rdM b wide at_ ok).2.2).1, (rdR b wide n (rdM b wide at_ ok).2.1 (rdM b wide at_ ok).2.2).2) else ([], at_, ok)
def rdRw (b : List Nat) (at_ : Nat) (ok : Bool) (most wide : Nat) : List (List Int) × Nat × Bool := rdR b wide (rdN b at_ ok).1.toNat (rdN b at_ ok).2.1 ((rdN b at_ ok).2.2 && decide ((rdN b at_ ok).1 ≤ (most : Int)))
theorem rdM_next (b : List Nat) (n at_ : Nat) (ok : Bool) (l : List Int) : ((l ++ (rdM b (n + 1) at_ ok).1, (rdM b (n + 1) at_ ok).2) : List Int × Nat × Bool) = ((l ++ [(rdN b at_ ok).1]) ++ (rdM b n (rdN b at_ ok).2.1 (rdN b at_ ok).2.2).1, (rdM b n (rdN b at_ ok).2.1 (rdN b at_ ok).2.2).2) := by
 rw [rdM]
 simp
theorem rdR_next (b : List Nat) (wide n at_ : Nat) (L : List (List Int)) {l : List Int} {e : Nat} {k : Bool} (h : rdM b wide at_ true = (l, e, k)) : ((L ++ (rdR b wide (n + 1) at_ true).1, (rdR b wide (n + 1) at_ true).2) : List (List Int) × Nat × Bool) = ((L ++ [l]) ++ (rdR b wide n e k).1, (rdR b wide n e k).2) := by
 rw [rdR, if_pos rfl, h]
 simp
theorem rdR_off (b : List Nat) (wide n at_ : Nat) : rdR b wide n at_ false = ([], at_, false) := by
 cases n
 ·rfl
 ·rw [rdR, if_neg (by simp)]
def RsO (W : World) (B : Nat) (A : Option Addr) (c : Nat) (rs : List RwE) : Prop := Ow RwE.enc 65 1 W B (.slice A rs.length c) rs ∧ ∀ x ∈ rs, Ow zEnc 3 1 W B (.slice x.1.1 x.2.length x.1.2) x.2
theorem RsO.kept {w w' : World} {B : Nat} {A : Option Addr} {c : Nat} {rs : List RwE} (h : RsO w B A c rs) (hx : Ext w w') : RsO w' B A c rs := ⟨h.1.kept hx, fun x hm => (h.2 x hm).kept hx⟩
theorem RsO.less {w : World} {B B' : Nat} {A : Option Addr} {c : Nat} {rs : List RwE} (h : RsO w B A c rs) (hB : B' ≤ B) : RsO w B' A c rs := ⟨h.1.less hB, fun x hm => (h.2 x hm).less hB⟩
theorem RsO.bxk {w w' : World} {B p : Nat} {cs : Array Value} {T : TypeId} {A : Option Addr} {c : Nat} {rs : List RwE} (h : RsO w B A c rs) (hb : w.heap[p]? = some (.cells cs T (0, 0))) (h1 : T ≠ 65) (h2 : T ≠ 3) (hg : Chg w w' [p]) : RsO w' B A c rs :=
 ⟨h.1.bxk hb h1 hg, fun x hm => (h.2 x hm).bxk hb h2 hg⟩
theorem RsO.beside {w w' : World} {B B' : Nat} {A A' : Option Addr} {n c c' : Nat} {rs : List RwE} {α : Type} {enc : α → List Value} {e : TypeId} {sz : Nat} {l : List α} (h : RsO w B A c rs) (k : Ow enc e sz w B' (.slice A' n c') l) (h1 : 65 ≠ e) (h2 : 3 ≠ e) (hg : w.grownBy w' (Value.slice A' n c').ownBlock) : RsO w' B A c rs :=
 ⟨h.1.chg (chg_grown hg) (h.1.apart k h1), fun x hm => (h.2 x hm).chg (chg_grown hg) ((h.2 x hm).apart k h2)⟩
theorem chg_app {w0 w w' : World} {S : List Nat} {B : Nat} {α : Type} {enc : α → List Value} {e : TypeId} {sz : Nat} {A : Option Addr} {n c : Nat} {l : List α} (h : Chg w0 w S) (ho : Ow enc e sz w B (.slice A n c) l) (hg : w.grownBy w' (Value.slice A n c).ownBlock) (hB : w0.heap.size ≤ B) : Chg w0 w' S :=
 ⟨hg.os.trans h.os, hg.tape.trans h.tape, hg.output.trans h.output, Nat.le_trans h.size hg.size, fun k hk hn => (hg.block k (Nat.lt_of_lt_of_le hk h.size) (fun he => by have := ho.lt k he.symm; omega)).trans (h.block k hk hn)⟩
set_option maxRecDepth 100000 in
set_option maxHeartbeats 16000000 in
theorem c_rows (A : Option Addr) (c : Nat) (b : List Nat) (at_ most wide : Nat) (ok : Bool) (r Bb : Nat) (w : World) (hr : Ow bEnc 5 1 w Bb (.slice A b.length c) b) (hb : Byt b) (hn : b.length ≤ 1048576) (ha : at_ ≤ b.length) (hm9 : most ≤ 100) (hw9 : wide ≤ 10) (hB : w.heap[r]? = some (rdO A b.length c at_ ok)) :
  Calls Try.prog 91 #[.pointer (some ⟨r, 0, none⟩), .int .i64 most, .int .i64 wide] w fun e w' => (∃ (Ao : Option Addr) (co : Nat) (rs : List RwE), e = .returned (.slice Ao rs.length co) ∧ rs.length ≤ most ∧ rs.map Prod.snd = (rdRw b at_ ok most wide).1 ∧ RsO w' w.heap.size Ao co rs) ∧ RdS w w' r A b.length c (rdRw b at_ ok most wide).2 := by
 obtain ⟨i0, hi, hz0, hz1, hz2⟩ := info_parts Try.infoZ
 obtain ⟨j0, ji, jz0, jz1, jz2⟩ := info_parts Try.infoRw
 have HB := Hd hb
 have x0 := ext_alloc w (.cells #[] 65)
 have D0 := Hd (x0.box hB)
 have C0 := Hd (chg_ext [r] x0)
 have O0 := Hd (hr.kept x0)
 have R0 := Hd (show RsO (w.alloc (.cells #[] 65)) w.heap.size (some ⟨w.heap.size, 0, none⟩) 0 [] from ⟨own_empty (hNew rfl) (Nat.le_refl _), fun x hx => by cases hx⟩)
 have HC := Hd (c_num A c b at_ ok r _ (O0.out.rd bEnc_len).2 hb hn (by omega) D0.out)
 obtain ⟨h1, h2, h3⟩ := rdN_le hb ha ok
 have HGw := Hd (show rdRw b at_ ok most wide = rdR b wide (rdN b at_ ok).1.toNat (rdN b at_ ok).2.1 ((rdN b at_ ok).2.2 && decide ((rdN b at_ ok).1 ≤ (most : Int))) from rfl)
 obtain ⟨⟨x, f, kk⟩, hx⟩ : ∃ p, rdN b at_ ok = p := ⟨_, rfl⟩
 rw [hx] at h1 h2 h3 HC HGw
 simp only at h1 h2 h3 HC HGw
 obtain ⟨N, rfl⟩ : ∃ n : Nat, x = (n : Int) := ⟨x.toNat, by omega⟩
 rw [show ((N : Int)).toNat = N by omega] at HGw
 clear hB hr hb hx x0
 go_enter Try.func91, Try.ntmps91
 go_wp2_with fail
 refine HC.out.mono ?_
 rintro e w1 ⟨rfl, hd1, hc1⟩
 have O1 := Hd (O0.out.bxk D0.out (by decide) hc1)
 have R1 := Hd (R0.out.bxk D0.out (by decide) (by decide) hc1)
 have D1 := Hd hd1
 have C1 := Hd (C0.out.trans hc1)
 have dp := bx_cell hd1
 have fp := bx_frozen hd1
 have zp := bx_lt hd1
 clear HC hd1 hc1 O0 R0 D0 C0
 cases kk
 ·have HN := Hd (show rdRw b at_ ok most wide = ([], f, false) by rw [HGw.out, Bool.false_and, rdR_off])
  have D2 := Hd (box_put D1.out 2 (.bool false))
  have C2 := Hd (chg_set (p := ⟨r, 2, none⟩) C1.out (by simp) (.bool false))
  have R2 := Hd (R1.out.bxk D1.out (by decide) (by decide) (chg_bx w1 r 2 (.bool false)))
  clear D1 C1 O1 R1 HGw
  go_wp2
  clear dp fp zp
  go_loopw [7, 9, 10, 11] (fun o i _ _ wr => i = .int .i64 0 ∧ o = .slice (some ⟨w.heap.size, 0, none⟩) 0 0 ∧ Hid (wr.heap[r]? = some (rdO A b.length c f false)) ∧ Hid (Chg w wr [r]) ∧ Hid (RsO wr w.heap.size (some ⟨w.heap.size, 0, none⟩) 0 [])) (fun _ _ _ _ _ => 0)
  case atStart => exact ⟨rfl, rfl, D2, C2, R2⟩
  case round =>
   clear D2 C2 R2
   obtain ⟨rfl, rfl, D, C, R⟩ := hrel
   have dp := bx_cell D.out
   have fp := bx_frozen D.out
   have zp := bx_lt D.out
   by_cases hlt : 0 < N
   ·go_wp2
    exact bodyPost_ret (v := .slice (some ⟨w.heap.size, 0, none⟩) 0 0) (by simp [results, Try.results91, go_sem]) rfl ⟨⟨_, _, [], rfl, by simp, by rw [HN.out]; rfl, R.out⟩, by rw [HN.out]; exact D.out, C.out⟩
   ·obtain rfl : N = 0 := by omega
    go_wp2
    exact bodyPost_ret (v := .slice (some ⟨w.heap.size, 0, none⟩) 0 0) (by simp [results, Try.results91, go_sem]) rfl ⟨⟨_, _, [], rfl, by simp, by rw [HN.out]; rfl, R.out⟩, by rw [HN.out]; exact D.out, C.out⟩
 ·have HGw := Hd (show rdRw b at_ ok most wide = rdR b wide N f (decide (N ≤ most)) by rw [HGw.out, Bool.true_and, show decide ((N : Int) ≤ (most : Int)) = decide (N ≤ most) by simp])
  have D2 := Hd (box_put D1.out 2 (.bool (decide (N ≤ most))))
  have C2 := Hd (chg_set (p := ⟨r, 2, none⟩) C1.out (by simp) (.bool (decide (N ≤ most))))
  have O2 := Hd (O1.out.bx D1.out (by decide) (.bool (decide (N ≤ most))) 2)
  have R2 := Hd (R1.out.bxk D1.out (by decide) (by decide) (chg_bx w1 r 2 (.bool (decide (N ≤ most)))))
  have HNm := Hd (show decide (N ≤ most) = true → N ≤ most from fun h => of_decide_eq_true h)
  clear D1 C1 O1 R1
  go_wp2
  clear dp fp zp
  go_loopw [7, 9, 10, 11] (fun o i _ _ wr => ∃ (k at' : Nat) (ok' : Bool) (Ao : Option Addr) (co : Nat) (rs : List RwE), Hid (rs.length = k) ∧ i = .int .i64 k ∧ o = .slice Ao rs.length co ∧ at' ≤ b.length ∧ k ≤ most ∧ k ≤ N ∧ Hid (ok' = true → N ≤ most) ∧ Hid (wr.heap[r]? = some (rdO A b.length c at' ok')) ∧ Hid (Chg w wr [r]) ∧ Hid (RsO wr w.heap.size Ao co rs) ∧ Hid (Ow bEnc 5 1 wr Bb (.slice A b.length c) b) ∧ Hid (rdRw b at_ ok most wide = (rs.map Prod.snd ++ (rdR b wide (N - k) at' ok').1, (rdR b wide (N - k) at' ok').2))) (fun _ i _ _ _ => N - (intOf i).toNat)
  case atStart => exact ⟨0, f, _, _, _, [], Hd rfl, rfl, rfl, h1, Nat.zero_le _, Nat.zero_le _, HNm, D2, C2, R2, O2, Hd (by rw [HGw.out, Nat.sub_zero]; rfl)⟩
  case round =>
   clear D2 C2 R2 O2 HGw HNm
   obtain ⟨k, at', ok', Ao, co, rs, hk, rfl, rfl, hat, hkm, hkN, HNm, D, C, R, O, G⟩ := hrel
   have dp := bx_cell D.out
   have fp := bx_frozen D.out
   have zp := bx_lt D.out
   have hs := C.out.size
   by_cases hlt : k < N
   ·cases ok'
    ·have HN := Hd (show rdRw b at_ ok most wide = (rs.map Prod.snd, at', false) by rw [G.out, rdR_off, List.append_nil])
     go_wp2
     exact bodyPost_ret (v := .slice Ao rs.length co) (by simp [results, Try.results91, go_sem]) rfl ⟨⟨Ao, co, rs, rfl, by have := hk.out; omega, by rw [HN.out], R.out⟩, by rw [HN.out]; exact D.out, C.out⟩
    ·have hNm := Hd (HNm.out rfl)
     rename World => wa
     have xr := ext_alloc wa (.cells #[] 3)
     have D3 := Hd (xr.box D.out)
     have C3 := Hd (chg_ext [r] xr)
     have O3 := Hd (O.out.kept xr)
     have R3 := Hd (show Ow zEnc 3 1 (wa.alloc (.cells #[] 3)) wa.heap.size (.slice (some ⟨wa.heap.size, 0, none⟩) 0 0) ([] : List Int) from own_empty (hNew rfl) (Nat.le_refl _))
     have K := Hd (⟨D.out, C.out, R.out⟩ : wa.heap[r]? = some (rdO A b.length c at' true) ∧ Chg w wa [r] ∧ RsO wa w.heap.size Ao co rs)
     clear xr D C R O
     go_wp2
     clear dp fp zp
     go_loopw [10, 11, 40] (fun o _ i wr => ∃ (j at2 : Nat) (ok2 : Bool) (Ar : Option Addr) (cr : Nat) (l : List Int), Hid (l.length = j) ∧ i = .int .i64 j ∧ o = .slice Ar l.length cr ∧ at2 ≤ b.length ∧ j ≤ wide ∧ Hid (wr.heap[r]? = some (rdO A b.length c at2 ok2)) ∧ Hid (Chg wa wr [r]) ∧ Hid (Ow zEnc 3 1 wr wa.heap.size (.slice Ar l.length cr) l) ∧ Hid (Ow bEnc 5 1 wr Bb (.slice A b.length c) b) ∧ Hid (rdM b wide at' true = (l ++ (rdM b (wide - j) at2 ok2).1, (rdM b (wide - j) at2 ok2).2))) (fun _ _ i _ => wide - (intOf i).toNat)
     case atStart => exact ⟨0, at', true, _, _, [], Hd rfl, rfl, rfl, hat, Nat.zero_le _, D3, C3, R3, O3, Hd (by rw [Nat.sub_zero]; rfl)⟩
     case round =>
      clear D3 C3 R3 O3
      obtain ⟨j, at2, ok2, Ar, cr, l, hl, rfl, rfl, hat2, hj, D, C, R, O, H⟩ := hrel
      have hs2 := C.out.size
      by_cases hlt2 : j < wide
      ·have HC := Hd (c_num A c b at2 ok2 r _ (O.out.rd bEnc_len).2 HB.out hn (by omega) D.out)
       obtain ⟨g1, g2, g3⟩ := rdN_le HB.out hat2 ok2
       obtain ⟨n, hnn⟩ : ∃ n, wide - j = n + 1 := ⟨wide - j - 1, by omega⟩
       have HH := H.out
       rw [hnn, rdM_next] at HH
       obtain ⟨⟨x, f2, k2⟩, hx⟩ : ∃ p, rdN b at2 ok2 = p := ⟨_, rfl⟩
       rw [hx] at g1 g2 g3 HC HH
       simp only at g1 g2 g3 HC HH
       have HH := Hd HH
       clear hx
       go_wp2_with fail
       refine HC.out.mono ?_
       rintro e w2 ⟨rfl, hd2, hc2⟩
       have x4 := ext_alloc w2 (.cells #[.int .i64 x] 3)
       have D4 := Hd (x4.box hd2)
       have C4 := Hd ((C.out.trans hc2).trans (chg_ext [r] x4))
       have R4 := Hd ((R.out.bxk D.out (by decide) hc2).kept x4)
       have O4 := Hd ((O.out.bxk D.out (by decide) hc2).kept x4)
       have hs4 := C4.out.size
       clear HC hd2 hc2 x4 D C R O H
       go_wp2_with (at_builtin; refine wl_app (enc := zEnc) rfl _ _ 65 rfl wa.heap.size 3 i0 (.int .i64 0) 1 8 Try.underlying65 hi hz0 hz1 hz2 rfl (by decide) zEnc_len zEnc_one (.slice Ar l.length cr) l rfl R4.out (some ⟨w2.heap.size, 0, none⟩) 1 [x] 1 rfl rfl (rd_boxZ (hNew rfl) rfl (by unfold maxLen; simp)) (by have := hl.out; unfold maxLen; simp; omega) (by have := hl.out; simp; omega) (by omega) ?_)
       intro v' w5 ho5 hg5
       obtain ⟨A6, c6, hv6⟩ := ho5.form
       have D5 := Hd (box_own D4.out R4.out hg5 (by decide))
       have C5 := Hd (chg_app C4.out R4.out hg5 (Nat.le_refl _))
       have O5 := Hd (O4.out.chg (chg_grown hg5) (O4.out.apart R4.out (by decide)))
       have R5 := Hd (show Ow zEnc 3 1 w5 wa.heap.size (.slice A6 (l ++ [x]).length c6) (l ++ [x]) by rw [← hv6]; exact ho5)
       subst hv6
       have hl5 := Hd (show (l ++ [x]).length = j + 1 by rw [List.length_append, hl.out]; rfl)
       clear hg5 ho5 D4 C4 R4 O4
       go_wp2
       go_roundw
       case rel => exact ⟨j + 1, f2, k2, A6, c6, l ++ [x], hl5, by go_num, rfl, g1, by omega, D5, C5, R5, O5, Hd (by rw [HH.out, show wide - (j + 1) = n by omega])⟩
       case measure => simp [intOf] <;> omega
      ·obtain rfl : j = wide := by omega
       have HM := Hd (show rdM b j at' true = (l, at2, ok2) by rw [H.out, Nat.sub_self, rdM, List.append_nil])
       obtain ⟨n, hnn⟩ : ∃ n, N - k = n + 1 := ⟨N - k - 1, by omega⟩
       have GG := G.out
       rw [hnn, rdR_next b j n at' _ HM.out] at GG
       have GG := Hd GG
       have x4 := ext_alloc wr (.cells #[.slice Ar l.length cr] 65)
       have D4 := Hd (x4.box D.out)
       have C4 := Hd ((K.out.2.1.trans C.out).trans (chg_ext [r] x4))
       have Z4 := Hd ((R.out.kept x4).less (B' := w.heap.size) hs)
       have R4 := Hd ((K.out.2.2.bxk K.out.1 (by decide) (by decide) C.out).kept x4)
       have O4 := Hd (O.out.kept x4)
       have hs4 := C4.out.size
       clear x4 D C R O H G K HM
       go_wp2_with (at_builtin; refine wl_app (enc := RwE.enc) rfl _ _ 118 rfl w.heap.size 65 j0 (.slice none 0 0) 1 24 Try.underlying118 ji jz0 jz1 jz2 rfl (by decide) RwE.len RwE.one (.slice Ao rs.length co) rs rfl R4.out.1 (some ⟨wr.heap.size, 0, none⟩) 1 [((Ar, cr), l)] 1 rfl rfl ((ow_box (hNew rfl) (Nat.zero_le _) RwE.len rfl (by unfold maxLen; simp)).rd RwE.len).2 (by have := hk.out; unfold maxLen; simp; omega) (by have := hk.out; simp; omega) (by omega) ?_)
       intro v' w5 ho5 hg5
       obtain ⟨A6, c6, hv6⟩ := ho5.form
       have D5 := Hd (box_own D4.out R4.out.1 hg5 (by decide))
       have C5 := Hd (chg_app C4.out R4.out.1 hg5 (Nat.le_refl _))
       have O5 := Hd (O4.out.chg (chg_grown hg5) (O4.out.apart R4.out.1 (by decide)))
       have R5 := Hd (show RsO w5 w.heap.size A6 c6 (rs ++ [((Ar, cr), l)]) from ⟨by rw [← hv6]; exact ho5, fun y hy => by
        rw [List.mem_append, Mi] at hy
        rcases hy with hy | rfl
        ·exact (R4.out.2 y hy).chg (chg_grown hg5) ((R4.out.2 y hy).apart R4.out.1 (by decide))
        ·exact Z4.out.chg (chg_grown hg5) (Z4.out.apart R4.out.1 (by decide))⟩)
       subst hv6
       have hl5 := Hd (show (rs ++ [((Ar, cr), l)]).length = k + 1 by rw [List.length_append, hk.out]; rfl)
       clear hg5 ho5 D4 C4 R4 O4 Z4
       go_wp2
       go_roundw
       case rel => exact ⟨k + 1, at2, ok2, A6, c6, rs ++ [((Ar, cr), l)], hl5, by go_num, rfl, hat2, by have := hNm.out; omega, by omega, Hd (fun _ => hNm.out), D5, C5, R5, O5, Hd (by rw [GG.out, show N - (k + 1) = n by omega, List.map_append]; rfl)⟩
       case measure => simp [intOf] <;> omega
   ·obtain rfl : k = N := by omega
    have HN := Hd (show rdRw b at_ ok most wide = (rs.map Prod.snd, at', ok') by rw [G.out, Nat.sub_self, rdR, List.append_nil])
    go_wp2
    exact bodyPost_ret (v := .slice Ao rs.length co) (by simp [results, Try.results91, go_sem]) rfl ⟨⟨Ao, co, rs, rfl, by have := hk.out; omega, by rw [HN.out], R.out⟩, by rw [HN.out]; exact D.out, C.out⟩
theorem getZs_add (b : List Nat) (n : Nat) : ∀ (m at_ : Nat), getZs b at_ (m + n) = match getZs b at_ m with | none => none | some p => (getZs b p.2 n).map (fun q => (p.1 ++ q.1, q.2))
 | 0, at_ => by
  rw [Nat.zero_add]
  show _ = (getZs b at_ n).map (fun q => ([] ++ q.1, q.2))
  cases getZs b at_ n <;> simp
 | m + 1, at_ => by
  rw [show m + 1 + n = (m + n) + 1 by omega, getZs, getZs]
  cases getZ b at_ with
  | none => rfl
  | some p =>
   simp only
   rw [getZs_add b n m p.2]
   cases getZs b p.2 m with
   | none => rfl
   | some q =>
    simp only [Option.map_some]
    cases getZs b q.2 n <;> simp
theorem rdM_off (b : List Nat) : ∀ (n at_ : Nat), (rdM b n at_ false).2 = (at_, false)
 | 0, at_ => rfl
 | n + 1, at_ => by
  rw [rdM, rdN_off]
  exact rdM_off b n at_
theorem rdM_ok (b : List Nat) : ∀ (n at_ : Nat) {l : List Int} {e : Nat}, getZs b at_ n = some (l, e) → rdM b n at_ true = (l, e, true)
 | 0, at_, l, e, h => by
  simp only [getZs, Option.some.injEq, Prod.mk.injEq] at h
  obtain ⟨rfl, rfl⟩ := h
  rfl
 | n + 1, at_, l, e, h => by
  rw [getZs] at h
  cases hz : getZ b at_ with
  | none => rw [hz] at h; cases h
  | some p =>
   rw [hz] at h
   simp only at h
   cases hq : getZs b p.2 n with
   | none => rw [hq] at h; cases h
   | some q =>
    rw [hq] at h
    simp only [Option.map_some, Option.some.injEq, Prod.mk.injEq] at h
    obtain ⟨rfl, rfl⟩ := h
    have := rdM_ok b n p.2 (l := q.1) (e := q.2) hq
    rw [rdM, rdN_some (x := p.1) (f := p.2) hz]
    simp only [this]
theorem rdM_no (b : List Nat) : ∀ (n at_ : Nat), getZs b at_ n = none → (rdM b n at_ true).2.2 = false
 | 0, at_, h => by simp [getZs] at h
 | n + 1, at_, h => by
  rw [getZs] at h
  cases hz : getZ b at_ with
  | none =>
   rw [rdM, rdN_none hz]
   show (rdM b n 0 false).2.2 = false
   rw [rdM_off]
  | some p =>
   rw [hz] at h
   simp only at h
   cases hq : getZs b p.2 n with
   | none =>
    rw [rdM, rdN_some (x := p.1) (f := p.2) hz]
    exact rdM_no b n p.2 hq
   | some q => rw [hq] at h; cases h
theorem rdR_ok (b : List Nat) (wide : Nat) : ∀ (n at_ : Nat) {l : List Int} {e : Nat}, getZs b at_ (n * wide) = some (l, e) → ∃ L, rdR b wide n at_ true = (L, e, true) ∧ L.flatten = l
 | 0, at_, l, e, h => by
  rw [Nat.zero_mul] at h
  simp only [getZs, Option.some.injEq, Prod.mk.injEq] at h
  obtain ⟨rfl, rfl⟩ := h
  exact ⟨[], rfl, rfl⟩
 | n + 1, at_, l, e, h => by
  rw [show (n + 1) * wide = wide + n * wide by rw [Nat.succ_mul]; omega, getZs_add] at h
  cases hz : getZs b at_ wide with
  | none => rw [hz] at h; cases h
  | some p =>
   rw [hz] at h
   simp only at h
   cases hq : getZs b p.2 (n * wide) with
   | none => rw [hq] at h; cases h
   | some q =>
    rw [hq] at h
    simp only [Option.map_some, Option.some.injEq, Prod.mk.injEq] at h
    obtain ⟨rfl, rfl⟩ := h
    obtain ⟨L, h1, h2⟩ := rdR_ok b wide n p.2 (l := q.1) (e := q.2) hq
    refine ⟨p.1 :: L, ?_, by rw [List.flatten_cons, h2]⟩
    rw [rdR, if_pos rfl, rdM_ok b wide at_ (l := p.1) (e := p.2) hz]
    simp only [h1]
theorem rdR_no (b : List Nat) (wide : Nat) : ∀ (n at_ : Nat), getZs b at_ (n * wide) = none → (rdR b wide n at_ true).2.2 = false
 | 0, at_, h => by rw [Nat.zero_mul] at h; simp [getZs] at h
 | n + 1, at_, h => by
  rw [show (n + 1) * wide = wide + n * wide by rw [Nat.succ_mul]; omega, getZs_add] at h
  cases hz : getZs b at_ wide with
  | none =>
   have h1 := rdM_no b wide at_ hz
   rw [rdR, if_pos rfl]
   show (rdR b wide n _ (rdM b wide at_ true).2.2).2.2 = false
   rw [h1, rdR_off]
  | some p =>
   rw [hz] at h
   simp only at h
   cases hq : getZs b p.2 (n * wide) with
   | none =>
    rw [rdR, if_pos rfl, rdM_ok b wide at_ (l := p.1) (e := p.2) hz]
    exact rdR_no b wide n p.2 hq
   | some q => rw [hq] at h; cases h
theorem rdRw_off (b : List Nat) (at_ most wide : Nat) : rdRw b at_ false most wide = ([], at_, false) := by
 unfold rdRw
 rw [rdN_off]
 rfl
theorem rdRw_ok {b : List Nat} {at_ most wide : Nat} {l : List Int} {e : Nat} (h : rdRows b at_ wide most = some (l, e)) : ∃ L, rdRw b at_ true most wide = (L, e, true) ∧ L.flatten = l := by
 unfold rdRows at h
 cases hz : getZ b at_ with
 | none => rw [hz] at h; cases h
 | some p =>
  simp only [hz] at h
  split at h
  ·cases h
  ·rename_i hn
   obtain ⟨L, h1, h2⟩ := rdR_ok b wide p.1.toNat p.2 h
   refine ⟨L, ?_, h2⟩
   unfold rdRw
   rw [rdN_some (x := p.1) (f := p.2) hz]
   simp only [Bool.true_and]
   rw [decide_eq_true (by omega), h1]
theorem rdRw_no {b : List Nat} {at_ most wide : Nat} (h : rdRows b at_ wide most = none) : (rdRw b at_ true most wide).2.2 = false := by
 unfold rdRows at h
 cases hz : getZ b at_ with
 | none =>
  unfold rdRw
  rw [rdN_none hz]
  rfl
 | some p =>
  simp only [hz] at h
  unfold rdRw
  rw [rdN_some (x := p.1) (f := p.2) hz]
  simp only [Bool.true_and]
  split at h
  ·rename_i hn
   rw [decide_eq_false (by omega), rdR_off]
  ·rename_i hn
   rw [decide_eq_true (by omega)]
   exact rdR_no b wide p.1.toNat p.2 h
def RowsN (wide : Nat) (L : List (List Int)) : Prop := ∀ r ∈ L, r.length = wide ∧ ∀ x ∈ r, 0 ≤ x ∧ x < 9223372036854775808
theorem rdM_rows {b : List Nat} (hb : Byt b) : ∀ (n at_ : Nat) (ok : Bool), at_ ≤ b.length → (rdM b n at_ ok).1.length = n ∧ (∀ x ∈ (rdM b n at_ ok).1, 0 ≤ x ∧ x < 9223372036854775808) ∧ (rdM b n at_ ok).2.1 ≤ b.length
 | 0, at_, ok, h => ⟨rfl, (by intro x hx; cases hx), h⟩
 | n + 1, at_, ok, h => by
  obtain ⟨h1, h2, h3⟩ := rdN_le hb h ok
  obtain ⟨k1, k2, k3⟩ := rdM_rows hb n (rdN b at_ ok).2.1 (rdN b at_ ok).2.2 h1
  rw [rdM]
  refine ⟨by rw [List.length_cons, k1], fun x hx => ?_, k3⟩
  rcases List.mem_cons.1 hx with rfl | hx
  ·exact ⟨h2, h3⟩
  ·exact k2 x hx
theorem rdR_rows {b : List Nat} (hb : Byt b) (wide : Nat) : ∀ (n at_ : Nat) (ok : Bool), at_ ≤ b.length → RowsN wide (rdR b wide n at_ ok).1 ∧ (rdR b wide n at_ ok).2.1 ≤ b.length
 | 0, at_, ok, h => ⟨(by intro x hx; cases hx), h⟩
 | n + 1, at_, ok, h => by
  rw [rdR]
  cases ok
  ·rw [if_neg (by simp)]
   exact ⟨(by intro x hx; cases hx), h⟩
  ·rw [if_pos rfl]
   obtain ⟨h1, h2, h3⟩ := rdM_rows hb wide at_ true h
   obtain ⟨k1, k2⟩ := rdR_rows hb wide n (rdM b wide at_ true).2.1 (rdM b wide at_ true).2.2 h3
   refine ⟨fun x hx => ?_, k2⟩
   rcases List.mem_cons.1 hx with rfl | hx
   ·exact ⟨h1, h2⟩
   ·exact k1 x hx
theorem rdRw_rows {b : List Nat} (hb : Byt b) {at_ : Nat} (h : at_ ≤ b.length) (ok : Bool) (most wide : Nat) : RowsN wide (rdRw b at_ ok most wide).1 ∧ (rdRw b at_ ok most wide).2.1 ≤ b.length :=
 rdR_rows hb wide _ _ _ (rdN_le hb h ok).1
def celR (r : List Int) : Cel := match r with
 | [a, b] => ⟨a, b⟩
 | _ => ⟨0, 0⟩
def seaR (r : List Int) : Sea := match r with
 | [a, b, c] => ⟨a, b, c - 1⟩
 | _ => ⟨0, 0, 0⟩
def entR (r : List Int) : Ent := match r with
 | [a, b, c, d, e] => ⟨a, b, c, d, e⟩
 | _ => ⟨0, 0, 0, 0, 0⟩
theorem toCel_rows : ∀ {L : List (List Int)}, RowsN 2 L → toCel L.flatten = L.map celR
 | [], _ => rfl
 | r :: L, h => by
  have hl := (h r List.mem_cons_self).1
  match r, hl with
  | [a, b], _ =>
   show ({ key := a, value := b } : Cel) :: toCel L.flatten = _
   rw [toCel_rows (fun x hx => h x (List.mem_cons_of_mem _ hx))]
   rfl
theorem toSea_rows : ∀ {L : List (List Int)}, RowsN 3 L → toSea L.flatten = L.map seaR
 | [], _ => rfl
 | r :: L, h => by
  have hl := (h r List.mem_cons_self).1
  match r, hl with
  | [a, b, c], _ =>
   show (⟨a, b, c - 1⟩ : Sea) :: toSea L.flatten = _
   rw [toSea_rows (fun x hx => h x (List.mem_cons_of_mem _ hx))]
   rfl
theorem toEnt_rows : ∀ {L : List (List Int)}, RowsN 5 L → toEnt L.flatten = L.map entR
 | [], _ => rfl
 | r :: L, h => by
  have hl := (h r List.mem_cons_self).1
  match r, hl with
  | [a, b, c, d, e], _ =>
   show (⟨a, b, c, d, e⟩ : Ent) :: toEnt L.flatten = _
   rw [toEnt_rows (fun x hx => h x (List.mem_cons_of_mem _ hx))]
   rfl
theorem rdLog_prog {b : List Nat} (hb : Byt b) {at_ f0 f1 f2 f3 : Nat} {base : Int} {k0 k1 k2 k3 : Bool} {L1 L2 L3 : List (List Int)} (ha : at_ ≤ b.length) (h0 : rdN b at_ true = (base, f0, k0)) (h1 : rdRw b f0 k0 40 2 = (L1, f1, k1)) (h2 : rdRw b f1 k1 10 3 = (L2, f2, k2)) (h3 : rdRw b f2 k2 60 5 = (L3, f3, k3)) :
  rdLog b at_ = if k3 = true then (if logOk ⟨base, L1.map celR, L2.map seaR, L3.map entR⟩ = true then some (⟨base, L1.map celR, L2.map seaR, L3.map entR⟩, f3) else none) else none := by
 have a0 := (rdN_le hb ha true).1
 rw [h0] at a0
 obtain ⟨r1, a1⟩ := rdRw_rows hb a0 k0 40 2
 rw [h1] at r1 a1
 obtain ⟨r2, a2⟩ := rdRw_rows hb a1 k1 10 3
 rw [h2] at r2 a2
 obtain ⟨r3, a3⟩ := rdRw_rows hb a2 k2 60 5
 rw [h3] at r3 a3
 simp only at a0 r1 a1 r2 a2 r3 a3
 have hoff : ∀ {f k f' k' most wide} {L : List (List Int)}, k = false → rdRw b f k most wide = (L, f', k') → k' = false := by
  intro f k f' k' most wide L hk h
  subst hk
  rw [rdRw_off] at h
  simp only [Prod.mk.injEq] at h
  exact h.2.2.symm
 have hno : k3 = false → (if k3 = true then (if logOk ⟨base, L1.map celR, L2.map seaR, L3.map entR⟩ = true then some ((⟨base, L1.map celR, L2.map seaR, L3.map entR⟩ : Lg), f3) else none) else none) = none := by
  intro h
  rw [if_neg (by rw [h]; simp)]
 unfold rdLog
 cases hz : getZ b at_ with
 | none =>
  rw [rdN_none hz] at h0
  simp only [Prod.mk.injEq] at h0
  exact (hno (hoff (hoff (hoff h0.2.2.symm h1) h2) h3)).symm
 | some p =>
  rw [rdN_some (x := p.1) (f := p.2) hz] at h0
  simp only [Prod.mk.injEq] at h0
  obtain ⟨rfl, rfl, rfl⟩ := h0
  simp only
  cases q1 : rdRows b p.2 2 40 with
  | none =>
   have := rdRw_no q1
   rw [h1] at this
   exact (hno (hoff (hoff this h2) h3)).symm
  | some p1 =>
   obtain ⟨M1, e1, g1⟩ := rdRw_ok (l := p1.1) (e := p1.2) q1
   rw [h1] at e1
   simp only [Prod.mk.injEq] at e1
   obtain ⟨rfl, rfl, rfl⟩ := e1
   simp only
   cases q2 : rdRows b p1.2 3 10 with
   | none =>
    have := rdRw_no q2
    rw [h2] at this
    exact (hno (hoff this h3)).symm
   | some p2 =>
    obtain ⟨M2, e2, g2⟩ := rdRw_ok (l := p2.1) (e := p2.2) q2
    rw [h2] at e2
    simp only [Prod.mk.injEq] at e2
    obtain ⟨rfl, rfl, rfl⟩ := e2
    simp only
    cases q3 : rdRows b p2.2 5 60 with
    | none =>
     have := rdRw_no q3
     rw [h3] at this
     exact (hno this).symm
    | some p3 =>
     obtain ⟨M3, e3, g3⟩ := rdRw_ok (l := p3.1) (e := p3.2) q3
     rw [h3] at e3
     simp only [Prod.mk.injEq] at e3
     obtain ⟨rfl, rfl, rfl⟩ := e3
     simp only [if_true]
     rw [← g1, ← g2, ← g3, toCel_rows r1, toSea_rows r2, toEnt_rows r3]
end Go.Proofs.Ytpghedeghoegmaa
