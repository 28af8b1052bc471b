/- A log has a number; a vote is right: of the reference and of the program. -/
import Derived.Test.YtmphedkbdlckhaaGe
import Derived.Test.YtmphedkbdlckhaaRp
namespace Go.Proofs.Ytmphedkbdlckhaa
open Go.ChangeShapes Go.WideShapes Go.ChangeAt Go.RowKit Go.Sort
set_option linter.unusedVariables false
set_option linter.unusedSimpArgs false

/-- the log is right, and n from its base to its end -/
def hasNum (l : Lg) (n : Int) : Bool := logOk l && inB n l.base l.fin
theorem hasNum_ok {l : Lg} {n : Int} (h : hasNum l n = true) : logOk l = true ∧ l.base ≤ n ∧ n ≤ l.fin := by
  unfold hasNum at h
  rw [Bool.and_eq_true, inB_yes] at h
  exact h

set_option maxRecDepth 100000 in
set_option maxHeartbeats 2000000 in
theorem c_l6Log (a : LAd) (l : Lg) (n : Int) (hs : l.small) (w : World) (hr : LgR w a l) :
    Calls Try.prog 39 #[Lg.val a l, .int .i64 n] w fun e w' => e = .returned (.bool (hasNum l n)) ∧ Ext w w' := by
  have X0 := ext_alloc w (Lg.obj a l)
  have hK := fun W (h : Ext (w.alloc (Lg.obj a l)) W) => c_sLogOk a l hs.1 hs.2.1 hs.2.2 W (hr.keep (Ext.trans X0 h))
  cases q : logOk l
  · rw [q] at hK
    have HK := Lib.hid hK
    have HV := Lib.hid (show false = hasNum l n by simp only [hasNum, q]; rfl)
    clear hK q hr hs
    go_enter Try.func39, Try.ntmps39
    go_wp2
    (refine wp_region_mix' (fun _ _ _ _ _ hq => hq) 11 (by kernel_rfl) (by kernel_rfl) (fun hg => ?_); simp only [headOps, List.take_succ_cons, List.take_zero, List.filter_cons, List.filter_nil, isAlloc, Bool.not_false, Bool.false_eq_true, if_true, if_false, List.append_nil, List.drop_succ_cons, List.drop_zero])
    (repeat (first | (refine wpMix_plain rfl rfl ?_; go_big_quiet_step (fail); refine wpQuiet_nil ?_) | (refine wpMix_skip rfl rfl ?_; simp only [Act.put, List.setIfInBounds_toArray, List.set_cons_zero, List.set_cons_succ]) | (refine wpMix_det rfl rfl rfl (enters Try.func53 (by kernel_rfl) rfl) (fun W hW => HK.out W hW) rfl ?_; simp only [Act.put, List.setIfInBounds_toArray, List.set_cons_zero, List.set_cons_succ])))
    (refine wpMix_nil ?_; intro w2 hw2)
    go_wp2
    go_ret
    exact ⟨ret_bool HV.out, Ext.trans X0 hw2⟩
  · have hE := fun W (h : Ext (w.alloc (Lg.obj a l)) W) => c_sLogEnd a l hs.1 hs.2.1 hs.2.2 W (hr.keep (Ext.trans X0 h)) q
    rw [q] at hK
    have HK := Lib.hid hK
    have HE := Lib.hid hE
    have HV := Lib.hid (show inB n l.base l.fin = hasNum l n by simp only [hasNum, q]; rfl)
    clear hK hE q hr hs
    go_enter Try.func39, Try.ntmps39
    go_wp2
    (refine wp_region_mix' (fun _ _ _ _ _ hq => hq) 11 (by kernel_rfl) (by kernel_rfl) (fun hg => ?_); simp only [headOps, List.take_succ_cons, List.take_zero, List.filter_cons, List.filter_nil, isAlloc, Bool.not_false, Bool.false_eq_true, if_true, if_false, List.append_nil, List.drop_succ_cons, List.drop_zero])
    (repeat (first | (refine wpMix_plain rfl rfl ?_; go_big_quiet_step (fail); refine wpQuiet_nil ?_) | (refine wpMix_skip rfl rfl ?_; simp only [Act.put, List.setIfInBounds_toArray, List.set_cons_zero, List.set_cons_succ]) | (refine wpMix_det rfl rfl rfl (enters Try.func53 (by kernel_rfl) rfl) (fun W hW => HK.out W hW) rfl ?_; simp only [Act.put, List.setIfInBounds_toArray, List.set_cons_zero, List.set_cons_succ]) | (refine wpMix_det rfl rfl rfl (enters Try.func54 (by kernel_rfl) rfl) (fun W hW => HE.out W hW) rfl ?_; simp only [Act.put, List.setIfInBounds_toArray, List.set_cons_zero, List.set_cons_succ]) | (refine wpMix_det rfl rfl rfl (enters Try.func37 (by kernel_rfl) rfl) (fun W hW => c_l1In n l.base l.fin W) rfl ?_; simp only [Act.put, List.setIfInBounds_toArray, List.set_cons_zero, List.set_cons_succ])))
    (refine wpMix_nil ?_; intro w2 hw2)
    go_wp2
    go_ret
    exact ⟨ret_bool HV.out, Ext.trans X0 hw2⟩
set_option maxRecDepth 100000 in
set_option maxHeartbeats 2000000 in
theorem c_hasNumber (a : LAd) (l : Lg) (n : Int) (hs : l.small) (w : World) (hr : LgR w a l) :
    Calls Try.prog 44 #[Lg.val a l, .int .i64 n] w fun e w' => e = .returned (.bool (hasNum l n)) ∧ Ext w w' := by
  have X0 := ext_alloc w (Lg.obj a l)
  have hK := fun W (h : Ext (w.alloc (Lg.obj a l)) W) => c_iLogOk a l hs.1 hs.2.1 hs.2.2 W (hr.keep (Ext.trans X0 h))
  cases q : logOk l
  · rw [q] at hK
    have HK := Lib.hid hK
    have HV := Lib.hid (show false = hasNum l n by simp only [hasNum, q]; rfl)
    clear hK q hr hs
    go_enter Try.func44, Try.ntmps44
    go_wp2
    (refine wp_region_mix' (fun _ _ _ _ _ hq => hq) 11 (by kernel_rfl) (by kernel_rfl) (fun hg => ?_); simp only [headOps, List.take_succ_cons, List.take_zero, List.filter_cons, List.filter_nil, isAlloc, Bool.not_false, Bool.false_eq_true, if_true, if_false, List.append_nil, List.drop_succ_cons, List.drop_zero])
    (repeat (first | (refine wpMix_plain rfl rfl ?_; go_big_quiet_step (fail); refine wpQuiet_nil ?_) | (refine wpMix_skip rfl rfl ?_; simp only [Act.put, List.setIfInBounds_toArray, List.set_cons_zero, List.set_cons_succ]) | (refine wpMix_det rfl rfl rfl (enters Try.func56 (by kernel_rfl) rfl) (fun W hW => HK.out W hW) rfl ?_; simp only [Act.put, List.setIfInBounds_toArray, List.set_cons_zero, List.set_cons_succ])))
    (refine wpMix_nil ?_; intro w2 hw2)
    go_wp2
    go_ret
    exact ⟨ret_bool HV.out, Ext.trans X0 hw2⟩
  · have hb := logOk_b q
    have hE := fun W => c_end a l W (by omega) (by omega) (by omega)
    rw [q] at hK
    have HK := Lib.hid hK
    have HE := Lib.hid hE
    have HV := Lib.hid (show inB n l.base l.fin = hasNum l n by simp only [hasNum, q]; rfl)
    clear hK hE q hr hs hb
    go_enter Try.func44, Try.ntmps44
    go_wp2
    (refine wp_region_mix' (fun _ _ _ _ _ hq => hq) 11 (by kernel_rfl) (by kernel_rfl) (fun hg => ?_); simp only [headOps, List.take_succ_cons, List.take_zero, List.filter_cons, List.filter_nil, isAlloc, Bool.not_false, Bool.false_eq_true, if_true, if_false, List.append_nil, List.drop_succ_cons, List.drop_zero])
    (repeat (first | (refine wpMix_plain rfl rfl ?_; go_big_quiet_step (fail); refine wpQuiet_nil ?_) | (refine wpMix_skip rfl rfl ?_; simp only [Act.put, List.setIfInBounds_toArray, List.set_cons_zero, List.set_cons_succ]) | (refine wpMix_det rfl rfl rfl (enters Try.func56 (by kernel_rfl) rfl) (fun W hW => HK.out W hW) rfl ?_; simp only [Act.put, List.setIfInBounds_toArray, List.set_cons_zero, List.set_cons_succ]) | (refine wpMix_det rfl rfl rfl (enters Try.func57 (by kernel_rfl) rfl) (fun W hW => HE.out W) rfl ?_; simp only [Act.put, List.setIfInBounds_toArray, List.set_cons_zero, List.set_cons_succ]) | (refine wpMix_det rfl rfl rfl (enters Try.func42 (by kernel_rfl) rfl) (fun W hW => c_from n l.base l.fin W) rfl ?_; simp only [Act.put, List.setIfInBounds_toArray, List.set_cons_zero, List.set_cons_succ])))
    (refine wpMix_nil ?_; intro w2 hw2)
    go_wp2
    go_ret
    exact ⟨ret_bool HV.out, Ext.trans X0 hw2⟩

def vtKind (k : Int) : Bool := k == 3 || k == 5 || k == 6 || k == 9
/-- a vote of a replica of so many is right -/
def vtOk (of : Int) (v : Vt) : Bool := vtKind v.kind && inB v.frm 0 (of - 1) && inB v.view 0 1000000000 && inB v.normal 0 1000000000 && inB v.op 0 1000000000 && hasNum v.log v.commit
theorem vtOk_num {of : Int} {v : Vt} (h : vtOk of v = true) : hasNum v.log v.commit = true := by
  unfold vtOk at h
  simp only [Bool.and_eq_true] at h
  exact h.2

set_option maxHeartbeats 4000000 in
theorem c_l6VoteOk (a : LAd) (v : Vt) (of : Int) (h0 : -1000000 ≤ of) (h1 : of ≤ 1000000) (hs : v.log.small) (w : World) (hr : LgR w a v.log) :
    Calls Try.prog 40 #[VtE.val a v, .int .i64 of] w fun e w' => e = .returned (.bool (vtOk of v)) ∧ Ext w w' := by
  have HS := Lib.hid hs
  have HR := Lib.hid hr
  clear hs hr
  go_enter Try.func40, Try.ntmps40
  go_wp2_with (first | (go_at_call 37; refine (c_l1In _ _ _ _).mono ?_; rintro e w1 ⟨rfl, hx⟩; obtain ⟨hc1, hf1, hs1⟩ := hx.rules; (try simp at hs1); have z0 : w.heap.size < w1.heap.size := (by omega)) | (go_at_call 38; refine (c_l1Whole _ _).mono ?_; rintro e w1 ⟨rfl, hx⟩; obtain ⟨hc1, hf1, hs1⟩ := hx.rules; (try simp at hs1); have z0 : w.heap.size < w1.heap.size := (by omega)) | (go_at_call 39; refine (c_l6Log a v.log v.commit HS.out _ (HR.out.keep (by (repeat (first | with_reducible exact ext_refl _ | with_reducible refine ext_to ?_ _ | with_reducible refine ext_set ?_ (by first | (simp; done) | (simp; omega) | omega) _ | with_reducible refine ext_drew ?_ | with_reducible refine Ext.trans ?_ (by assumption)))))).mono ?_; rintro e w1 ⟨rfl, hx⟩; obtain ⟨hc1, hf1, hs1⟩ := hx.rules; (try simp at hs1)))
  all_goals
    go_ret
    refine ⟨ret_bool ?_, ?_⟩
    · (first | (simp [vtOk, vtKind, *]; done) | (simp_all [vtOk, vtKind]; done))
    · (repeat (first | with_reducible exact ext_refl _ | with_reducible refine ext_to ?_ _ | with_reducible refine ext_set ?_ (by first | (simp; done) | (simp; omega) | omega) _ | with_reducible refine ext_drew ?_ | with_reducible refine Ext.trans ?_ (by assumption)))
set_option maxHeartbeats 4000000 in
theorem c_voteOk (a : LAd) (v : Vt) (of : Int) (h0 : -1000000 ≤ of) (h1 : of ≤ 1000000) (hs : v.log.small) (w : World) (hr : LgR w a v.log) :
    Calls Try.prog 47 #[VtE.val a v, .int .i64 of] w fun e w' => e = .returned (.bool (vtOk of v)) ∧ Ext w w' := by
  have HS := Lib.hid hs
  have HR := Lib.hid hr
  clear hs hr
  go_enter Try.func47, Try.ntmps47
  go_wp2_with (first | (go_at_call 42; refine (c_from _ _ _ _).mono ?_; rintro e w1 ⟨rfl, hx⟩; obtain ⟨hc1, hf1, hs1⟩ := hx.rules; (try simp at hs1); have z0 : w.heap.size < w1.heap.size := (by omega)) | (go_at_call 43; refine (c_isWhole _ _).mono ?_; rintro e w1 ⟨rfl, hx⟩; obtain ⟨hc1, hf1, hs1⟩ := hx.rules; (try simp at hs1); have z0 : w.heap.size < w1.heap.size := (by omega)) | (go_at_call 44; refine (c_hasNumber a v.log v.commit HS.out _ (HR.out.keep (by (repeat (first | with_reducible exact ext_refl _ | with_reducible refine ext_to ?_ _ | with_reducible refine ext_set ?_ (by first | (simp; done) | (simp; omega) | omega) _ | with_reducible refine ext_drew ?_ | with_reducible refine Ext.trans ?_ (by assumption)))))).mono ?_; rintro e w1 ⟨rfl, hx⟩; obtain ⟨hc1, hf1, hs1⟩ := hx.rules; (try simp at hs1)))
  all_goals
    go_ret
    refine ⟨ret_bool ?_, ?_⟩
    · (first | (simp [vtOk, vtKind, *]; done) | (simp_all [vtOk, vtKind]; done))
    · (repeat (first | with_reducible exact ext_refl _ | with_reducible refine ext_to ?_ _ | with_reducible refine ext_set ?_ (by first | (simp; done) | (simp; omega) | omega) _ | with_reducible refine ext_drew ?_ | with_reducible refine Ext.trans ?_ (by assumption)))
end Go.Proofs.Ytmphedkbdlckhaa
