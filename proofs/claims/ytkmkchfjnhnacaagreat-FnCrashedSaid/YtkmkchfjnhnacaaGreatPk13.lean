/- A log has a number; a vote is right: of the reference and of the program. -/
import Derived.Test.YtkmkchfjnhnacaaGreatPk8
import Derived.Test.YtkmkchfjnhnacaaGreatPk6
namespace Go.Proofs.YtkmkchfjnhnacaaGreat
open Go.ChangeShapes Go.WideShapes Go.ChangeAt Go.RowKit Go.Sort
set_option linter.unusedVariables false
set_option linter.unusedSimpArgs false
def hasNum (l : Lg) (n : Int) : Bool := logOk l && inB n l.base l.fin
set_option maxRecDepth 100000 in
set_option maxHeartbeats 2000000 in
theorem c_l6Log (a : LAd) (l : Lg) (n : Int) (hs : l.small) (w : World) (hr : LgR w a l) :
  Calls Tryz.prog 17 #[Lg.val a l, .int .i64 n] w fun e w' => e = .returned (.bool (hasNum l n)) ∧ Ext w w' := by
 have X0 := ext_alloc w (Lg.obj a l)
 have hK := fun W (h : Ext (w.alloc (Lg.obj a l)) W) => c_sLogOk a l hs.1 hs.2.1 hs.2.2 W (hr.keep (Ext.trans X0 h))
 cases q : logOk l
 ·rw [q] at hK
  have HK := Hd hK
  have HV := Hd (show false = hasNum l n by simp only [hasNum, q]; rfl)
  clear hK q hr hs
  go_enter Tryz.func17, Tryz.ntmps17
  go_wp2
  (refine wp_region_mix' (fun _ _ _ _ _ hq => hq) 11 (by kernel_rfl) (by kernel_rfl) (fun hg => ?_); simp only [headOps, Tc, Tz, List.filter_cons, List.filter_nil, isAlloc, Bool.not_false, Bf, if_true, if_false, List.append_nil, Dc, Dz])
  (repeat (first | (refine wpMix_plain rfl rfl ?_; go_big_quiet_step (fail); refine wpQuiet_nil ?_) | (refine wpMix_skip rfl rfl ?_; simp only [Act.put, Sa, Sz, Ss]) | (refine wpMix_det rfl rfl rfl (enters Tryz.func35 (by kernel_rfl) rfl) (fun W hW => HK.out W hW) rfl ?_; simp only [Act.put, Sa, Sz, Ss])))
  (refine wpMix_nil ?_; intro w2 hw2)
  go_wp2
  go_ret
  exact ⟨ret_bool HV.out, Ext.trans X0 hw2⟩
 ·have hE := fun W (h : Ext (w.alloc (Lg.obj a l)) W) => c_sLogEnd a l hs.1 hs.2.1 hs.2.2 W (hr.keep (Ext.trans X0 h)) q
  rw [q] at hK
  have HK := Hd hK
  have HE := Hd hE
  have HV := Hd (show inB n l.base l.fin = hasNum l n by simp only [hasNum, q]; rfl)
  clear hK hE q hr hs
  go_enter Tryz.func17, Tryz.ntmps17
  go_wp2
  (refine wp_region_mix' (fun _ _ _ _ _ hq => hq) 11 (by kernel_rfl) (by kernel_rfl) (fun hg => ?_); simp only [headOps, Tc, Tz, List.filter_cons, List.filter_nil, isAlloc, Bool.not_false, Bf, if_true, if_false, List.append_nil, Dc, Dz])
  (repeat (first | (refine wpMix_plain rfl rfl ?_; go_big_quiet_step (fail); refine wpQuiet_nil ?_) | (refine wpMix_skip rfl rfl ?_; simp only [Act.put, Sa, Sz, Ss]) | (refine wpMix_det rfl rfl rfl (enters Tryz.func35 (by kernel_rfl) rfl) (fun W hW => HK.out W hW) rfl ?_; simp only [Act.put, Sa, Sz, Ss]) | (refine wpMix_det rfl rfl rfl (enters Tryz.func36 (by kernel_rfl) rfl) (fun W hW => HE.out W hW) rfl ?_; simp only [Act.put, Sa, Sz, Ss]) | (refine wpMix_det rfl rfl rfl (enters Tryz.func15 (by kernel_rfl) rfl) (fun W hW => c_l1In n l.base l.fin W) rfl ?_; simp only [Act.put, Sa, Sz, Ss])))
  (refine wpMix_nil ?_; intro w2 hw2)
  go_wp2
  go_ret
  exact ⟨ret_bool HV.out, Ext.trans X0 hw2⟩
set_option maxRecDepth 100000 in
set_option maxHeartbeats 2000000 in
theorem c_hasNumber (a : LAd) (l : Lg) (n : Int) (hs : l.small) (w : World) (hr : LgR w a l) :
  Calls Tryz.prog 23 #[Lg.val a l, .int .i64 n] w fun e w' => e = .returned (.bool (hasNum l n)) ∧ Ext w w' := by
 have X0 := ext_alloc w (Lg.obj a l)
 have hK := fun W (h : Ext (w.alloc (Lg.obj a l)) W) => c_iLogOk a l hs.1 hs.2.1 hs.2.2 W (hr.keep (Ext.trans X0 h))
 cases q : logOk l
 ·rw [q] at hK
  have HK := Hd hK
  have HV := Hd (show false = hasNum l n by simp only [hasNum, q]; rfl)
  clear hK q hr hs
  go_enter Tryz.func23, Tryz.ntmps23
  go_wp2
  (refine wp_region_mix' (fun _ _ _ _ _ hq => hq) 11 (by kernel_rfl) (by kernel_rfl) (fun hg => ?_); simp only [headOps, Tc, Tz, List.filter_cons, List.filter_nil, isAlloc, Bool.not_false, Bf, if_true, if_false, List.append_nil, Dc, Dz])
  (repeat (first | (refine wpMix_plain rfl rfl ?_; go_big_quiet_step (fail); refine wpQuiet_nil ?_) | (refine wpMix_skip rfl rfl ?_; simp only [Act.put, Sa, Sz, Ss]) | (refine wpMix_det rfl rfl rfl (enters Tryz.func29 (by kernel_rfl) rfl) (fun W hW => HK.out W hW) rfl ?_; simp only [Act.put, Sa, Sz, Ss])))
  (refine wpMix_nil ?_; intro w2 hw2)
  go_wp2
  go_ret
  exact ⟨ret_bool HV.out, Ext.trans X0 hw2⟩
 ·have hb := logOk_b q
  have hE := fun W => c_end a l W (by omega) (by omega) (by omega)
  rw [q] at hK
  have HK := Hd hK
  have HE := Hd hE
  have HV := Hd (show inB n l.base l.fin = hasNum l n by simp only [hasNum, q]; rfl)
  clear hK hE q hr hs hb
  go_enter Tryz.func23, Tryz.ntmps23
  go_wp2
  (refine wp_region_mix' (fun _ _ _ _ _ hq => hq) 11 (by kernel_rfl) (by kernel_rfl) (fun hg => ?_); simp only [headOps, Tc, Tz, List.filter_cons, List.filter_nil, isAlloc, Bool.not_false, Bf, if_true, if_false, List.append_nil, Dc, Dz])
  (repeat (first | (refine wpMix_plain rfl rfl ?_; go_big_quiet_step (fail); refine wpQuiet_nil ?_) | (refine wpMix_skip rfl rfl ?_; simp only [Act.put, Sa, Sz, Ss]) | (refine wpMix_det rfl rfl rfl (enters Tryz.func29 (by kernel_rfl) rfl) (fun W hW => HK.out W hW) rfl ?_; simp only [Act.put, Sa, Sz, Ss]) | (refine wpMix_det rfl rfl rfl (enters Tryz.func30 (by kernel_rfl) rfl) (fun W hW => HE.out W) rfl ?_; simp only [Act.put, Sa, Sz, Ss]) | (refine wpMix_det rfl rfl rfl (enters Tryz.func21 (by kernel_rfl) rfl) (fun W hW => c_from n l.base l.fin W) rfl ?_; simp only [Act.put, Sa, Sz, Ss])))
  (refine wpMix_nil ?_; intro w2 hw2)
  go_wp2
  go_ret
  exact ⟨ret_bool HV.out, Ext.trans X0 hw2⟩
def vtKind (k : Int) : Bool := k == 3 || k == 5 || k == 6 || k == 9
def vtOk (of : Int) (v : Vt) : Bool := vtKind v.kind && inB v.frm 0 (of - 1) && inB v.view 0 1000000000 && inB v.normal 0 1000000000 && inB v.op 0 1000000000 && hasNum v.log v.commit
set_option maxHeartbeats 4000000 in
theorem c_l6VoteOk (a : LAd) (v : Vt) (of : Int) (h0 : -1000000 ≤ of) (h1 : of ≤ 1000000) (hs : v.log.small) (w : World) (hr : LgR w a v.log) :
  Calls Tryz.prog 18 #[VtE.val a v, .int .i64 of] w fun e w' => e = .returned (.bool (vtOk of v)) ∧ Ext w w' := by
 have HS := Hd hs
 have HR := Hd hr
 clear hs hr
 go_enter Tryz.func18, Tryz.ntmps18
 go_wp2_with (first | (go_at_call 15; refine (c_l1In _ _ _ _).mono ?_; rintro e w1 ⟨rfl, hx⟩; obtain ⟨hc1, hf1, hs1⟩ := hx.rules; (try simp at hs1); have z0 : w.heap.size < w1.heap.size := (by omega)) | (go_at_call 16; refine (c_l1Whole _ _).mono ?_; rintro e w1 ⟨rfl, hx⟩; obtain ⟨hc1, hf1, hs1⟩ := hx.rules; (try simp at hs1); have z0 : w.heap.size < w1.heap.size := (by omega)) | (go_at_call 17; refine (c_l6Log a v.log v.commit HS.out _ (HR.out.keep (by (repeat (first | with_reducible exact ext_refl _ | with_reducible refine ext_to ?_ _ | with_reducible refine ext_set ?_ (by first | (simp; done) | (simp; omega) | omega) _ | with_reducible refine ext_drew ?_ | with_reducible refine Ext.trans ?_ (by assumption)))))).mono ?_; rintro e w1 ⟨rfl, hx⟩; obtain ⟨hc1, hf1, hs1⟩ := hx.rules; (try simp at hs1)))
 all_goals
  go_ret
  refine ⟨ret_bool ?_, ?_⟩
  ·(first | (simp [vtOk, vtKind, *]; done) | (simp_all [vtOk, vtKind]; done))
  ·(repeat (first | with_reducible exact ext_refl _ | with_reducible refine ext_to ?_ _ | with_reducible refine ext_set ?_ (by first | (simp; done) | (simp; omega) | omega) _ | with_reducible refine ext_drew ?_ | with_reducible refine Ext.trans ?_ (by assumption)))
set_option maxHeartbeats 4000000 in
theorem c_voteOk (a : LAd) (v : Vt) (of : Int) (h0 : -1000000 ≤ of) (h1 : of ≤ 1000000) (hs : v.log.small) (w : World) (hr : LgR w a v.log) :
  Calls Tryz.prog 26 #[VtE.val a v, .int .i64 of] w fun e w' => e = .returned (.bool (vtOk of v)) ∧ Ext w w' := by
 have HS := Hd hs
 have HR := Hd hr
 clear hs hr
 go_enter Tryz.func26, Tryz.ntmps26
 go_wp2_with (first | (go_at_call 21; refine (c_from _ _ _ _).mono ?_; rintro e w1 ⟨rfl, hx⟩; obtain ⟨hc1, hf1, hs1⟩ := hx.rules; (try simp at hs1); have z0 : w.heap.size < w1.heap.size := (by omega)) | (go_at_call 22; refine (c_isWhole _ _).mono ?_; rintro e w1 ⟨rfl, hx⟩; obtain ⟨hc1, hf1, hs1⟩ := hx.rules; (try simp at hs1); have z0 : w.heap.size < w1.heap.size := (by omega)) | (go_at_call 23; refine (c_hasNumber a v.log v.commit HS.out _ (HR.out.keep (by (repeat (first | with_reducible exact ext_refl _ | with_reducible refine ext_to ?_ _ | with_reducible refine ext_set ?_ (by first | (simp; done) | (simp; omega) | omega) _ | with_reducible refine ext_drew ?_ | with_reducible refine Ext.trans ?_ (by assumption)))))).mono ?_; rintro e w1 ⟨rfl, hx⟩; obtain ⟨hc1, hf1, hs1⟩ := hx.rules; (try simp at hs1)))
 all_goals
  go_ret
  refine ⟨ret_bool ?_, ?_⟩
  ·(first | (simp [vtOk, vtKind, *]; done) | (simp_all [vtOk, vtKind]; done))
  ·(repeat (first | with_reducible exact ext_refl _ | with_reducible refine ext_to ?_ _ | with_reducible refine ext_set ?_ (by first | (simp; done) | (simp; omega) | omega) _ | with_reducible refine ext_drew ?_ | with_reducible refine Ext.trans ?_ (by assumption)))
def isZ (l : Lg) : Bool := (l.base == 0) && ((l.cells.length == 0) && (l.seats.length == 0)) && (l.ents.length == 0)
theorem isZ_eq {l : Lg} (h : isZ l = true) : l = Lg.none := by
 obtain ⟨b, c, s, e⟩ := l
 simp [isZ] at h
 obtain ⟨⟨rfl, rfl, rfl⟩, rfl⟩ := h
 rfl
abbrev zimg : Value := .agg #[.slice none 0 0, .slice none 0 0]
abbrev zlog : Value := .agg #[.int .i64 0, .slice none 0 0, .slice none 0 0, .slice none 0 0]
set_option maxHeartbeats 2000000 in
theorem c_sSameImage0 (cA : Option Addr) (n cc : Nat) (sA : Option Addr) (m sc : Nat) (w : World) (hn : n ≤ 1048576) (hm : m ≤ 1048576) :
  Calls Tryz.prog 37 #[.agg #[.slice cA n cc, .slice sA m sc], zimg] w fun e w' => e = .returned (.bool ((n == 0) && (m == 0))) ∧ Ext w w' := by
 have X0 : Ext w ((w.alloc (.cells #[.slice cA n cc, .slice sA m sc] 27)).alloc (.cells #[.slice none 0 0, .slice none 0 0] 27)) := ext_to (ext_alloc _ _) _
 by_cases h1 : n = 0
 ·by_cases h2 : m = 0
  ·subst h1 h2
   go_enter Tryz.func37, Tryz.ntmps37
   go_wp2
   go_loopw [5] (fun i wr => i = .int .i64 0 ∧ Ext ((w.alloc (.cells #[.slice cA 0 cc, .slice sA 0 sc] 27)).alloc (.cells #[.slice none 0 0, .slice none 0 0] 27)) wr) (fun _ _ => 0)
   case atStart => exact ⟨rfl, ext_refl _⟩
   case round =>
    obtain ⟨rfl, hx⟩ := hrel
    have b1 := bx_cell (hx.box (hOld (o := .cells #[.slice none 0 0, .slice none 0 0] 27) (hNew (w := w) (o := .cells #[.slice cA 0 cc, .slice sA 0 sc] 27) rfl)))
    go_wp2
    go_loopw [6] (fun i wr => i = .int .i64 0 ∧ Ext ((w.alloc (.cells #[.slice cA 0 cc, .slice sA 0 sc] 27)).alloc (.cells #[.slice none 0 0, .slice none 0 0] 27)) wr) (fun _ _ => 0)
    case atStart => exact ⟨rfl, hx⟩
    case round =>
     clear b1 hx
     obtain ⟨rfl, hx⟩ := hrel
     have b1 := bx_cell (hx.box (hOld (o := .cells #[.slice none 0 0, .slice none 0 0] 27) (hNew (w := w) (o := .cells #[.slice cA 0 cc, .slice sA 0 sc] 27) rfl)))
     go_wp2
     go_ret
     exact ⟨rfl, Ext.trans X0 hx⟩
  ·subst h1
   have g2 : ((m : Int) != 0) = true := by simp [bne]; omega
   have hv : false = ((0 == 0) && (m == 0)) := by simp [h2]
   have HV := Hd hv
   clear h2 hv
   go_enter Tryz.func37, Tryz.ntmps37
   go_wp2
   go_ret
   exact ⟨ret_bool HV.out, X0⟩
 ·have g2 : ((n : Int) != 0) = true := by simp [bne]; omega
  have hv : false = ((n == 0) && (m == 0)) := by simp [h1]
  have HV := Hd hv
  clear h1 hv
  go_enter Tryz.func37, Tryz.ntmps37
  go_wp2
  go_ret
  exact ⟨ret_bool HV.out, X0⟩
set_option maxHeartbeats 2000000 in
theorem c_sSameLog0 (a : LAd) (l : Lg) (w : World) (hs1 : l.cells.length ≤ 1048576) (hs2 : l.seats.length ≤ 1048576) (hs3 : l.ents.length ≤ 1048576) :
  Calls Tryz.prog 19 #[Lg.val a l, zlog] w fun e w' => e = .returned (.bool (isZ l)) ∧ Ext w w' := by
 have X0 : Ext w ((w.alloc (Lg.obj a l)).alloc (.cells #[.int .i64 0, .slice none 0 0, .slice none 0 0, .slice none 0 0] 30)) := ext_to (ext_alloc _ _) _
 by_cases h1 : l.base = 0
 ·by_cases h2 : l.ents.length = 0
  ·have hcon := c_sSameImage0 a.cA l.cells.length a.cc a.sA l.seats.length a.sc ((w.alloc (Lg.obj a l)).alloc (.cells #[.int .i64 0, .slice none 0 0, .slice none 0 0, .slice none 0 0] 30)) hs1 hs2
   have g1 : (l.base != 0) = false := by simp [bne, h1]
   have g2 : ((l.ents.length : Int) != 0) = false := by simp [bne, h2]
   cases q : (l.cells.length == 0) && (l.seats.length == 0)
   ·rw [q] at hcon
    have HV := Hd (show false = isZ l by simp [isZ, h1, h2, q])
    have HC := Hd hcon
    clear q hcon h1 h2
    go_enter Tryz.func19, Tryz.ntmps19
    go_wp2_with fail
    refine HC.out.mono ?_
    rintro e w1 ⟨rfl, x1⟩
    go_wp2
    go_ret
    exact ⟨ret_bool HV.out, Ext.trans X0 x1⟩
   ·rw [q] at hcon
    have HV := Hd (show true = isZ l by simp [isZ, h1, h2, q])
    have HC := Hd hcon
    have g3 : decide ((0 : Int) < (l.ents.length : Int)) = false := by simp [h2]
    have g4 : decide (0 < l.ents.length) = false := by simp [h2]
    have g5 : ¬ 0 < l.ents.length := by omega
    clear q hcon h1 h2
    go_enter Tryz.func19, Tryz.ntmps19
    go_wp2_with fail
    refine HC.out.mono ?_
    rintro e w1 ⟨rfl, x1⟩
    go_wp2
    go_loopw [5] (fun i wr => i = .int .i64 0 ∧ Ext ((w.alloc (Lg.obj a l)).alloc (.cells #[.int .i64 0, .slice none 0 0, .slice none 0 0, .slice none 0 0] 30)) wr) (fun _ _ => 0)
    case atStart => exact ⟨rfl, x1⟩
    case round =>
     obtain ⟨rfl, hx⟩ := hrel
     have b1 := bx_cell (hx.box (hOld (o := .cells #[.int .i64 0, .slice none 0 0, .slice none 0 0, .slice none 0 0] 30) (hNew (w := w) (o := Lg.obj a l) rfl)))
     go_wp2
     go_ret
     exact ⟨ret_bool HV.out, Ext.trans X0 hx⟩
  ·have HV := Hd (show false = isZ l by simp [isZ, h2])
   have g1 : (l.base != 0) = false := by simp [bne, h1]
   have g2 : ((l.ents.length : Int) != 0) = true := by simpa [bne] using h2
   clear h1 h2
   go_enter Tryz.func19, Tryz.ntmps19
   go_wp2
   go_ret
   exact ⟨ret_bool HV.out, X0⟩
 ·have HV := Hd (show false = isZ l by simp [isZ, h1])
  have g1 : (l.base != 0) = true := by simp [bne, h1]
  clear h1
  go_enter Tryz.func19, Tryz.ntmps19
  go_wp2
  go_ret
  exact ⟨ret_bool HV.out, X0⟩
theorem c_equal0C (A : Option Addr) (n c : Nat) (w : World) (hn : n ≤ 1048576) : Calls Tryz.prog 89 #[.slice A n c, .slice none 0 0] w fun e w' => e = .returned (.bool (n == 0)) ∧ Ext w w' := by
 by_cases h1 : n = 0
 ·subst h1
  go_enter Tryz.func89, Tryz.ntmps89
  go_wp2
  go_loopw [13] (fun i wr => i = .int .i64 0 ∧ Ext w wr) (fun _ _ => 0)
  case atStart => exact ⟨rfl, ext_refl _⟩
  case round =>
   obtain ⟨rfl, hx⟩ := hrel
   go_wp2
   go_ret
   exact ⟨rfl, hx⟩
 ·have g2 : ((n : Int) != 0) = true := by simp [bne]; omega
  have HV := Hd (show false = (n == 0) by simp [h1])
  clear h1
  go_enter Tryz.func89, Tryz.ntmps89
  go_wp2
  go_ret
  exact ⟨ret_bool HV.out, ext_refl _⟩
theorem c_equal0S (A : Option Addr) (n c : Nat) (w : World) (hn : n ≤ 1048576) : Calls Tryz.prog 90 #[.slice A n c, .slice none 0 0] w fun e w' => e = .returned (.bool (n == 0)) ∧ Ext w w' := by
 by_cases h1 : n = 0
 ·subst h1
  go_enter Tryz.func90, Tryz.ntmps90
  go_wp2
  go_loopw [13] (fun i wr => i = .int .i64 0 ∧ Ext w wr) (fun _ _ => 0)
  case atStart => exact ⟨rfl, ext_refl _⟩
  case round =>
   obtain ⟨rfl, hx⟩ := hrel
   go_wp2
   go_ret
   exact ⟨rfl, hx⟩
 ·have g2 : ((n : Int) != 0) = true := by simp [bne]; omega
  have HV := Hd (show false = (n == 0) by simp [h1])
  clear h1
  go_enter Tryz.func90, Tryz.ntmps90
  go_wp2
  go_ret
  exact ⟨ret_bool HV.out, ext_refl _⟩
theorem c_equal0E (A : Option Addr) (n c : Nat) (w : World) (hn : n ≤ 1048576) : Calls Tryz.prog 59 #[.slice A n c, .slice none 0 0] w fun e w' => e = .returned (.bool (n == 0)) ∧ Ext w w' := by
 by_cases h1 : n = 0
 ·subst h1
  go_enter Tryz.func59, Tryz.ntmps59
  go_wp2
  go_loopw [13] (fun i wr => i = .int .i64 0 ∧ Ext w wr) (fun _ _ => 0)
  case atStart => exact ⟨rfl, ext_refl _⟩
  case round =>
   obtain ⟨rfl, hx⟩ := hrel
   go_wp2
   go_ret
   exact ⟨rfl, hx⟩
 ·have g2 : ((n : Int) != 0) = true := by simp [bne]; omega
  have HV := Hd (show false = (n == 0) by simp [h1])
  clear h1
  go_enter Tryz.func59, Tryz.ntmps59
  go_wp2
  go_ret
  exact ⟨ret_bool HV.out, ext_refl _⟩
theorem c_iSameImage0 (cA : Option Addr) (n cc : Nat) (sA : Option Addr) (m sc : Nat) (w : World) (hn : n ≤ 1048576) (hm : m ≤ 1048576) :
  Calls Tryz.prog 58 #[.agg #[.slice cA n cc, .slice sA m sc], zimg] w fun e w' => e = .returned (.bool ((n == 0) && (m == 0))) ∧ Ext w w' := by
 go_enter Tryz.func58, Tryz.ntmps58
 go_wp2_with (first | (go_at_call 89; refine (c_equal0C _ _ _ _ hn).mono ?_; rintro e w1 ⟨rfl, hx⟩; obtain ⟨hc1, hf1, hs1⟩ := hx.rules; (try simp at hs1); have z0 : w.heap.size < w1.heap.size := (by omega); have z1 : w.heap.size + 1 < w1.heap.size := (by omega)) | (go_at_call 90; refine (c_equal0S _ _ _ _ hm).mono ?_; rintro e w1 ⟨rfl, hx⟩; obtain ⟨hc1, hf1, hs1⟩ := hx.rules; (try simp at hs1); have z0 : w.heap.size < w1.heap.size := (by omega); have z1 : w.heap.size + 1 < w1.heap.size := (by omega)))
 all_goals
  go_ret
  refine ⟨ret_bool ?_, ?_⟩
  ·(first | (simp [*]; done) | (simp_all; done))
  ·(repeat (first | with_reducible exact ext_refl _ | with_reducible refine ext_to ?_ _ | with_reducible refine ext_set ?_ (by first | (simp; done) | (simp; omega) | omega) _ | with_reducible refine ext_drew ?_ | with_reducible refine Ext.trans ?_ (by assumption)))
theorem c_iSameLog0 (a : LAd) (l : Lg) (w : World) (hs1 : l.cells.length ≤ 1048576) (hs2 : l.seats.length ≤ 1048576) (hs3 : l.ents.length ≤ 1048576) :
  Calls Tryz.prog 39 #[Lg.val a l, zlog] w fun e w' => e = .returned (.bool (isZ l)) ∧ Ext w w' := by
 obtain ⟨y, hy⟩ : ∃ y, (l.cells.length == 0 && l.seats.length == 0) = y := ⟨_, rfl⟩
 obtain ⟨z, hz⟩ : ∃ z, (l.ents.length == 0) = z := ⟨_, rfl⟩
 have HV := Hd (show (l.base == 0 && y && z) = isZ l by unfold isZ; rw [hy, hz])
 have hI := fun W => c_iSameImage0 a.cA l.cells.length a.cc a.sA l.seats.length a.sc W hs1 hs2
 have hE := fun W => c_equal0E a.eA l.ents.length a.ec W hs3
 rw [hy] at hI
 rw [hz] at hE
 have HI := Hd hI
 have HE := Hd hE
 clear hy hz hI hE
 go_enter Tryz.func39, Tryz.ntmps39
 go_wp2_with (first | (go_at_call 58; refine (HI.out _).mono ?_; rintro e w1 ⟨rfl, hx⟩; obtain ⟨hc1, hf1, hs1⟩ := hx.rules; (try simp at hs1); have z0 : w.heap.size < w1.heap.size := (by omega); have z1 : w.heap.size + 1 < w1.heap.size := (by omega)) | (go_at_call 59; refine (HE.out _).mono ?_; rintro e w1 ⟨rfl, hx⟩; obtain ⟨hc1, hf1, hs1⟩ := hx.rules; (try simp at hs1); have z0 : w.heap.size < w1.heap.size := (by omega); have z1 : w.heap.size + 1 < w1.heap.size := (by omega)))
 all_goals
  go_ret
  refine ⟨ret_bool ?_, ?_⟩
  ·rw [← HV.out]
   (first | (simp [*]; done) | (simp_all; done))
  ·(repeat (first | with_reducible exact ext_refl _ | with_reducible refine ext_to ?_ _ | with_reducible refine ext_set ?_ (by first | (simp; done) | (simp; omega) | omega) _ | with_reducible refine ext_drew ?_ | with_reducible refine Ext.trans ?_ (by assumption)))
theorem c_isLogZero (a : LAd) (l : Lg) (w : World) (hs1 : l.cells.length ≤ 1048576) (hs2 : l.seats.length ≤ 1048576) (hs3 : l.ents.length ≤ 1048576) :
  Calls Tryz.prog 27 #[Lg.val a l] w fun e w' => e = .returned (.bool (isZ l)) ∧ Ext w w' := by
 go_enter Tryz.func27, Tryz.ntmps27
 go_wp2_with fail
 refine (c_iSameLog0 a l _ hs1 hs2 hs3).mono ?_
 rintro e w1 ⟨rfl, x1⟩
 go_wp2
 go_ret
 exact ⟨rfl, Ext.trans (ext_alloc _ _) x1⟩
end Go.Proofs.YtkmkchfjnhnacaaGreat
