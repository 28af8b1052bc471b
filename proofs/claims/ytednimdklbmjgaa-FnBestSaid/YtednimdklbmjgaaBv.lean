/- BestVote of the reference and of the program. -/
import Derived.Test.YtednimdklbmjgaaGe
namespace Go.Proofs.Ytednimdklbmjgaa
open Go.ChangeShapes Go.WideShapes Go.ChangeAt Go.RowKit Go.Sort
set_option linter.unusedVariables false
set_option linter.unusedSimpArgs false

/-- the first vote is better than the second one -/
def btr (u v : Vt) : Bool := decide (v.normal < u.normal) || (u.normal == v.normal && decide (v.log.fin < u.log.fin))

set_option maxHeartbeats 4000000 in
theorem c_better (a b : LAd) (u v : Vt) (w : World) (hu0 : 0 ≤ u.log.base) (hu1 : u.log.base ≤ 1000000000) (hu2 : u.log.ents.length ≤ 60) (hv0 : 0 ≤ v.log.base) (hv1 : v.log.base ≤ 1000000000) (hv2 : v.log.ents.length ≤ 60) :
    Calls Try.prog 15 #[VtE.val a u, VtE.val b v] w fun e w' => e = .returned (.bool (btr u v)) ∧ Ext w w' := by
  have X0 : Ext w ((w.alloc (Vt.obj a u)).alloc (Vt.obj b v)) := ext_to (ext_alloc _ _) _
  cases g1 : decide (v.normal < u.normal)
  · cases g2 : (u.normal == v.normal)
    · have HV := Lib.hid (show false = btr u v by simp only [btr, g1, g2]; rfl)
      go_enter Try.func15, Try.ntmps15
      go_wp2
      (refine wp_region_mix' (fun _ _ _ _ _ hq => hq) 22 (by kernel_rfl) (by kernel_rfl) (fun hg => ?_); simp only [headOps, List.take_succ_cons, List.take_zero, List.filter_cons, List.filter_nil, isAlloc, Bool.not_false, Bool.false_eq_true, if_true, if_false, List.append_nil, List.drop_succ_cons, List.drop_zero])
      (repeat (first | (refine wpMix_plain rfl rfl ?_; go_big_quiet_step (fail); refine wpQuiet_nil ?_) | (refine wpMix_skip rfl rfl ?_; simp only [Act.put, List.setIfInBounds_toArray, List.set_cons_zero, List.set_cons_succ]) | (refine wpMix_det rfl rfl rfl (enters Try.func18 (by kernel_rfl) rfl) (fun W hW => c_end a u.log W (by omega) (by omega) (by omega)) rfl ?_; simp only [Act.put, List.setIfInBounds_toArray, List.set_cons_zero, List.set_cons_succ]) | (refine wpMix_det rfl rfl rfl (enters Try.func18 (by kernel_rfl) rfl) (fun W hW => c_end b v.log W (by omega) (by omega) (by omega)) rfl ?_; simp only [Act.put, List.setIfInBounds_toArray, List.set_cons_zero, List.set_cons_succ])))
      (refine wpMix_nil ?_; intro w2 hw2)
      go_wp2
      go_ret
      exact ⟨ret_bool HV.out, Ext.trans X0 hw2⟩
    · have HV := Lib.hid (show decide (v.log.fin < u.log.fin) = btr u v by simp only [btr, g1, g2]; rfl)
      go_enter Try.func15, Try.ntmps15
      go_wp2
      (refine wp_region_mix' (fun _ _ _ _ _ hq => hq) 22 (by kernel_rfl) (by kernel_rfl) (fun hg => ?_); simp only [headOps, List.take_succ_cons, List.take_zero, List.filter_cons, List.filter_nil, isAlloc, Bool.not_false, Bool.false_eq_true, if_true, if_false, List.append_nil, List.drop_succ_cons, List.drop_zero])
      (repeat (first | (refine wpMix_plain rfl rfl ?_; go_big_quiet_step (fail); refine wpQuiet_nil ?_) | (refine wpMix_skip rfl rfl ?_; simp only [Act.put, List.setIfInBounds_toArray, List.set_cons_zero, List.set_cons_succ]) | (refine wpMix_det rfl rfl rfl (enters Try.func18 (by kernel_rfl) rfl) (fun W hW => c_end a u.log W (by omega) (by omega) (by omega)) rfl ?_; simp only [Act.put, List.setIfInBounds_toArray, List.set_cons_zero, List.set_cons_succ]) | (refine wpMix_det rfl rfl rfl (enters Try.func18 (by kernel_rfl) rfl) (fun W hW => c_end b v.log W (by omega) (by omega) (by omega)) rfl ?_; simp only [Act.put, List.setIfInBounds_toArray, List.set_cons_zero, List.set_cons_succ])))
      (refine wpMix_nil ?_; intro w2 hw2)
      go_wp2
      go_ret
      exact ⟨ret_bool HV.out, Ext.trans X0 hw2⟩
  · have HV := Lib.hid (show true = btr u v by simp only [btr, g1]; rfl)
    go_enter Try.func15, Try.ntmps15
    go_wp2
    (refine wp_region_mix' (fun _ _ _ _ _ hq => hq) 22 (by kernel_rfl) (by kernel_rfl) (fun hg => ?_); simp only [headOps, List.take_succ_cons, List.take_zero, List.filter_cons, List.filter_nil, isAlloc, Bool.not_false, Bool.false_eq_true, if_true, if_false, List.append_nil, List.drop_succ_cons, List.drop_zero])
    (repeat (first | (refine wpMix_plain rfl rfl ?_; go_big_quiet_step (fail); refine wpQuiet_nil ?_) | (refine wpMix_skip rfl rfl ?_; simp only [Act.put, List.setIfInBounds_toArray, List.set_cons_zero, List.set_cons_succ]) | (refine wpMix_det rfl rfl rfl (enters Try.func18 (by kernel_rfl) rfl) (fun W hW => c_end a u.log W (by omega) (by omega) (by omega)) rfl ?_; simp only [Act.put, List.setIfInBounds_toArray, List.set_cons_zero, List.set_cons_succ]) | (refine wpMix_det rfl rfl rfl (enters Try.func18 (by kernel_rfl) rfl) (fun W hW => c_end b v.log W (by omega) (by omega) (by omega)) rfl ?_; simp only [Act.put, List.setIfInBounds_toArray, List.set_cons_zero, List.set_cons_succ])))
    (refine wpMix_nil ?_; intro w2 hw2)
    go_wp2
    go_ret
    exact ⟨ret_bool HV.out, Ext.trans X0 hw2⟩

/-- is the k-th one better than the best one before it -/
def bStep (ps : List VtE) (k : Nat) (b : Option Nat) : Bool := match ps[k]? with
  | none => false
  | some v => v.2.kind == 6 && match b with
    | none => true
    | some j => match ps[j]? with
      | some u => btr v.2 u.2
      | none => true
def bTo (ps : List VtE) : Nat → Option Nat
  | 0 => none
  | k + 1 => if bStep ps k (bTo ps k) = true then some k else bTo ps k
def onat : Option Nat → Int
  | none => -1
  | some j => j
theorem bTo_lt (ps : List VtE) : ∀ k j, bTo ps k = some j → j < k
  | 0, j, h => by simp [bTo] at h
  | k + 1, j, h => by
    unfold bTo at h
    split at h
    · simp at h; omega
    · have := bTo_lt ps k j h; omega
theorem bTo_kind {ps : List VtE} {k : Nat} (hk : k < ps.length) (h : (ps[k].2.kind == 6) = false) : bTo ps (k + 1) = bTo ps k := by
  have : bStep ps k (bTo ps k) = false := by simp [bStep, hk]; intro he; simp [he] at h
  simp [bTo, this]
theorem bTo_none {ps : List VtE} {k : Nat} (hk : k < ps.length) (h : (ps[k].2.kind == 6) = true) (hb : bTo ps k = none) : bTo ps (k + 1) = some k := by
  have : bStep ps k (bTo ps k) = true := by rw [hb]; simp [bStep, hk]; simpa using h
  simp [bTo, this]
theorem bTo_some {ps : List VtE} {k j : Nat} (hk : k < ps.length) (h : (ps[k].2.kind == 6) = true) (hb : bTo ps k = some j) (hj : j < ps.length) : bTo ps (k + 1) = if btr ps[k].2 ps[j].2 = true then some k else some j := by
  have : bStep ps k (bTo ps k) = btr ps[k].2 ps[j].2 := by
    have h6 : ps[k].2.kind = 6 := by simpa using h
    rw [hb]; simp [bStep, hk, hj, h6]
  show (if _ then _ else _) = _
  rw [this, hb]
def VsOk (ps : List VtE) : Prop := ∀ p ∈ ps, logOk p.2.log = true
instance (ps : List VtE) : Decidable (VsOk ps) := inferInstanceAs (Decidable (∀ p ∈ ps, _))
def bestV (ps : List VtE) : Int := if ps.length ≤ 20 ∧ VsOk ps then onat (bTo ps ps.length) else -1

set_option maxHeartbeats 8000000 in
theorem c_l7Best (A : Option Addr) (c : Nat) (ps : List VtE) (w : World) (hr : VsR w A c ps) (hs : LgS ps) (hn : ps.length ≤ 20) (hok : VsOk ps) :
    Calls Try.prog 17 #[.slice A ps.length c] w fun e w' => e = .returned (.int .i64 (onat (bTo ps ps.length))) ∧ Ext w w' := by
  have HS := Lib.hid hs
  have HOK := Lib.hid hok
  clear hs hok
  go_enter Try.func17, Try.ntmps17
  go_wp2
  go_loopw [3, 4] (fun b i wr => ∃ k : Nat, k ≤ ps.length ∧ i = .int .i64 k ∧ b = .int .i64 (onat (bTo ps k)) ∧ Ext w wr) (fun _ i _ => ps.length - (intOf i).toNat)
  case atStart => exact ⟨0, Nat.zero_le _, rfl, rfl, ext_refl _⟩
  case round =>
    obtain ⟨k, hk, rfl, rfl, X⟩ := hrel
    by_cases hlt : k < ps.length
    · obtain ⟨ab, ao, hA, hab, a0, a1, a2, a3, a4, a5, a6, a7, a8, a9⟩ := (hr.1.keep X).atVtE hlt
      have hab1 : ¬ ab = wr.heap.size := by omega
      have hab2 : ab < wr.heap.size + 1 := by omega
      subst hA
      cases q6 : (ps[k].2.kind == 6)
      · have q6' : (ps[k].2.kind != 6) = true := by simp [bne, q6]
        have HB := Lib.hid (bTo_kind hlt q6)
        clear q6
        go_wp2
        go_roundw
        case rel => exact ⟨k + 1, by omega, by go_num, by rw [HB.out], Ext.trans X (ext_alloc _ _)⟩
        case measure => simp [intOf] <;> omega
      · have q6' : (ps[k].2.kind != 6) = false := by simp [bne, q6]
        cases hb : bTo ps k with
        | none =>
          have HB := Lib.hid (bTo_none hlt q6 hb)
          have hlo : decide ((-1 : Int) < 0) = true := by decide
          clear q6 hb
          simp only [onat]
          go_wp2
          (refine wp_region_mix' (fun _ _ _ _ _ hq => hq) 34 (by kernel_rfl) (by kernel_rfl) (fun hg => ?_); simp only [headOps, List.take_succ_cons, List.take_zero, List.filter_cons, List.filter_nil, isAlloc, Bool.not_false, Bool.false_eq_true, if_true, if_false, List.append_nil, List.drop_succ_cons, List.drop_zero])
          (repeat (first | (refine wpMix_plain rfl rfl ?_; go_big_quiet_step (fail); refine wpQuiet_nil ?_) | (refine wpMix_skip rfl rfl ?_; simp only [Act.put, List.setIfInBounds_toArray, List.set_cons_zero, List.set_cons_succ])))
          (refine wpMix_nil ?_; intro w2 hw2)
          go_wp2
          go_roundw
          case rel => exact ⟨k + 1, by omega, by go_num, by rw [HB.out], Ext.trans X (Ext.trans (ext_alloc _ _) hw2)⟩
          case measure => simp [intOf] <;> omega
        | some j =>
          have hjk := bTo_lt ps k j hb
          have hjl : j < ps.length := by omega
          have HB := Lib.hid (bTo_some hlt q6 hb hjl)
          have hlo : decide ((j : Int) < 0) = false := by simp
          obtain ⟨_, _, e, _, b0, b1, b2, b3, b4, b5, b6, b7, b8, b9⟩ := (hr.1.keep X).atVtE hjl
          obtain ⟨rfl, rfl⟩ : ab = _ ∧ ao = _ := by simpa using e
          have hcv := fun W (h : Ext wr W) => c_sLogEnd ps[k].1 ps[k].2.log (HS.out _ (List.getElem_mem hlt)).1 (HS.out _ (List.getElem_mem hlt)).2.1 (HS.out _ (List.getElem_mem hlt)).2.2 W ((hr.2 _ (List.getElem_mem hlt)).keep (Ext.trans X h)) (HOK.out _ (List.getElem_mem hlt))
          have hcu := fun W (h : Ext wr W) => c_sLogEnd ps[j].1 ps[j].2.log (HS.out _ (List.getElem_mem hjl)).1 (HS.out _ (List.getElem_mem hjl)).2.1 (HS.out _ (List.getElem_mem hjl)).2.2 W ((hr.2 _ (List.getElem_mem hjl)).keep (Ext.trans X h)) (HOK.out _ (List.getElem_mem hjl))
          have HV := Lib.hid hcv
          have HU := Lib.hid hcu
          clear q6 hb e hcv hcu
          simp only [onat]
          cases g1 : decide (ps[j].2.normal < ps[k].2.normal)
          · cases g2 : (ps[k].2.normal == ps[j].2.normal)
            · have HW := Lib.hid (show bTo ps (k + 1) = some j by rw [HB.out, btr, g1, g2]; rfl)
              go_wp2
              (refine wp_region_mix' (fun _ _ _ _ _ hq => hq) 34 (by kernel_rfl) (by kernel_rfl) (fun hg => ?_); simp only [headOps, List.take_succ_cons, List.take_zero, List.filter_cons, List.filter_nil, isAlloc, Bool.not_false, Bool.false_eq_true, if_true, if_false, List.append_nil, List.drop_succ_cons, List.drop_zero])
              (repeat (first | (refine wpMix_plain rfl rfl ?_; go_big_quiet_step (fail); refine wpQuiet_nil ?_) | (refine wpMix_skip rfl rfl ?_; simp only [Act.put, List.setIfInBounds_toArray, List.set_cons_zero, List.set_cons_succ])))
              (refine wpMix_nil ?_; intro w2 hw2)
              go_wp2
              go_roundw
              case rel => exact ⟨k + 1, by omega, by go_num, by rw [HW.out], Ext.trans X (Ext.trans (ext_alloc _ _) hw2)⟩
              case measure => simp [intOf] <;> omega
            · cases g3 : decide (ps[j].2.log.fin < ps[k].2.log.fin)
              · have HW := Lib.hid (show bTo ps (k + 1) = some j by rw [HB.out, btr, g1, g2, g3]; rfl)
                go_wp2
                (refine wp_region_mix' (fun _ _ _ _ _ hq => hq) 34 (by kernel_rfl) (by kernel_rfl) (fun hg => ?_); simp only [headOps, List.take_succ_cons, List.take_zero, List.filter_cons, List.filter_nil, isAlloc, Bool.not_false, Bool.false_eq_true, if_true, if_false, List.append_nil, List.drop_succ_cons, List.drop_zero])
                (repeat (first | (refine wpMix_plain rfl rfl ?_; go_big_quiet_step (fail); refine wpQuiet_nil ?_) | (refine wpMix_skip rfl rfl ?_; simp only [Act.put, List.setIfInBounds_toArray, List.set_cons_zero, List.set_cons_succ]) | (refine wpMix_det rfl rfl rfl (enters Try.func30 (by kernel_rfl) rfl) (fun W hW => HV.out W (Ext.trans (ext_alloc _ _) hW)) rfl ?_; simp only [Act.put, List.setIfInBounds_toArray, List.set_cons_zero, List.set_cons_succ]) | (refine wpMix_det rfl rfl rfl (enters Try.func30 (by kernel_rfl) rfl) (fun W hW => HU.out W (Ext.trans (ext_alloc _ _) hW)) rfl ?_; simp only [Act.put, List.setIfInBounds_toArray, List.set_cons_zero, List.set_cons_succ])))
                (refine wpMix_nil ?_; intro w2 hw2)
                go_wp2
                go_roundw
                case rel => exact ⟨k + 1, by omega, by go_num, by rw [HW.out], Ext.trans X (Ext.trans (ext_alloc _ _) hw2)⟩
                case measure => simp [intOf] <;> omega
              · have HW := Lib.hid (show bTo ps (k + 1) = some k by rw [HB.out, btr, g1, g2, g3]; rfl)
                go_wp2
                (refine wp_region_mix' (fun _ _ _ _ _ hq => hq) 34 (by kernel_rfl) (by kernel_rfl) (fun hg => ?_); simp only [headOps, List.take_succ_cons, List.take_zero, List.filter_cons, List.filter_nil, isAlloc, Bool.not_false, Bool.false_eq_true, if_true, if_false, List.append_nil, List.drop_succ_cons, List.drop_zero])
                (repeat (first | (refine wpMix_plain rfl rfl ?_; go_big_quiet_step (fail); refine wpQuiet_nil ?_) | (refine wpMix_skip rfl rfl ?_; simp only [Act.put, List.setIfInBounds_toArray, List.set_cons_zero, List.set_cons_succ]) | (refine wpMix_det rfl rfl rfl (enters Try.func30 (by kernel_rfl) rfl) (fun W hW => HV.out W (Ext.trans (ext_alloc _ _) hW)) rfl ?_; simp only [Act.put, List.setIfInBounds_toArray, List.set_cons_zero, List.set_cons_succ]) | (refine wpMix_det rfl rfl rfl (enters Try.func30 (by kernel_rfl) rfl) (fun W hW => HU.out W (Ext.trans (ext_alloc _ _) hW)) rfl ?_; simp only [Act.put, List.setIfInBounds_toArray, List.set_cons_zero, List.set_cons_succ])))
                (refine wpMix_nil ?_; intro w2 hw2)
                go_wp2
                go_roundw
                case rel => exact ⟨k + 1, by omega, by go_num, by rw [HW.out], Ext.trans X (Ext.trans (ext_alloc _ _) hw2)⟩
                case measure => simp [intOf] <;> omega
          · have HW := Lib.hid (show bTo ps (k + 1) = some k by rw [HB.out, btr, g1]; rfl)
            go_wp2
            (refine wp_region_mix' (fun _ _ _ _ _ hq => hq) 34 (by kernel_rfl) (by kernel_rfl) (fun hg => ?_); simp only [headOps, List.take_succ_cons, List.take_zero, List.filter_cons, List.filter_nil, isAlloc, Bool.not_false, Bool.false_eq_true, if_true, if_false, List.append_nil, List.drop_succ_cons, List.drop_zero])
            (repeat (first | (refine wpMix_plain rfl rfl ?_; go_big_quiet_step (fail); refine wpQuiet_nil ?_) | (refine wpMix_skip rfl rfl ?_; simp only [Act.put, List.setIfInBounds_toArray, List.set_cons_zero, List.set_cons_succ])))
            (refine wpMix_nil ?_; intro w2 hw2)
            go_wp2
            go_roundw
            case rel => exact ⟨k + 1, by omega, by go_num, by rw [HW.out], Ext.trans X (Ext.trans (ext_alloc _ _) hw2)⟩
            case measure => simp [intOf] <;> omega
    · obtain rfl : k = ps.length := by omega
      go_wp2
      go_ret
      exact ⟨rfl, X⟩
theorem bestV_long {ps : List VtE} (h : ¬ ps.length ≤ 20) : bestV ps = -1 := by unfold bestV; rw [if_neg (fun hp => h hp.1)]
theorem bestV_bad {ps : List VtE} {k : Nat} (hk : k < ps.length) (h : logOk ps[k].2.log = false) : bestV ps = -1 := by
  unfold bestV
  rw [if_neg (fun hp => by have := hp.2 _ (List.getElem_mem hk); rw [h] at this; cases this)]
theorem bestV_ok {ps : List VtE} (h : ps.length ≤ 20) (h2 : VsOk ps) : bestV ps = onat (bTo ps ps.length) := by unfold bestV; rw [if_pos ⟨h, h2⟩]
/-- the first k logs are right -/
def OkTo (ps : List VtE) (k : Nat) : Prop := ∀ j (h : j < ps.length), j < k → logOk ps[j].2.log = true
theorem OkTo.next {ps : List VtE} {k : Nat} (h : OkTo ps k) (hk : k < ps.length) (hs : logOk ps[k].2.log = true) : OkTo ps (k + 1) := fun j hj hjk => by
  by_cases he : j = k
  · subst he; exact hs
  · exact h j hj (by omega)
theorem OkTo.all {ps : List VtE} (h : OkTo ps ps.length) : VsOk ps := fun p hp => by
  obtain ⟨k, hk, rfl⟩ := List.mem_iff_getElem.1 hp
  exact h k hk hk

set_option maxHeartbeats 8000000 in
theorem c_sBestVote (A : Option Addr) (c : Nat) (ps : List VtE) (w : World) (hr : VsR w A c ps) (hs : LgS ps) (hn : ps.length ≤ 1048576) :
    Calls Try.prog 7 #[.slice A ps.length c] w fun e w' => e = .returned (.int .i64 (bestV ps)) ∧ Ext w w' := by
  have HS := Lib.hid hs
  clear hs
  by_cases h20 : ps.length ≤ 20
  · have g0 : decide ((20 : Int) < (ps.length : Int)) = false := by simp; omega
    go_enter Try.func7, Try.ntmps7
    go_wp2
    go_loopw [3] (fun i wr => ∃ k : Nat, k ≤ ps.length ∧ i = .int .i64 k ∧ OkTo ps k ∧ Ext w wr) (fun i _ => ps.length - (intOf i).toNat)
    case atStart => exact ⟨0, Nat.zero_le _, rfl, fun j hj hjk => absurd hjk (by omega), ext_refl _⟩
    case round =>
      obtain ⟨k, hk, rfl, ht, X⟩ := hrel
      have HT := Lib.hid ht
      clear ht
      by_cases hlt : k < ps.length
      · obtain ⟨ab, ao, rfl, hab, a0, a1, a2, a3, a4, a5, a6, a7, a8, a9⟩ := (hr.1.keep X).atVtE hlt
        have hcon := c_sLogOk ps[k].1 ps[k].2.log (HS.out _ (List.getElem_mem hlt)).1 (HS.out _ (List.getElem_mem hlt)).2.1 (HS.out _ (List.getElem_mem hlt)).2.2 wr ((hr.2 _ (List.getElem_mem hlt)).keep X)
        cases q : logOk ps[k].2.log
        · rw [q] at hcon
          have HB := Lib.hid (bestV_bad hlt q)
          clear q
          go_wp2_with fail
          refine hcon.mono ?_
          rintro e w1 ⟨rfl, x1⟩
          clear hcon
          go_wp2
          go_ret
          exact ⟨ret_int HB.out.symm, Ext.trans X x1⟩
        · rw [q] at hcon
          have HB := Lib.hid (HT.out.next hlt q)
          clear q
          go_wp2_with fail
          refine hcon.mono ?_
          rintro e w1 ⟨rfl, x1⟩
          clear hcon
          go_wp2
          go_roundw
          case rel => exact ⟨k + 1, by omega, by go_num, HB.out, Ext.trans X x1⟩
          case measure => simp [intOf] <;> omega
      · obtain rfl : k = ps.length := by omega
        have hcon := c_l7Best A c ps wr (hr.keep X) HS.out h20 HT.out.all
        have HB := Lib.hid (bestV_ok h20 HT.out.all)
        go_wp2_with fail
        refine hcon.mono ?_
        rintro e w1 ⟨rfl, x1⟩
        clear hcon
        go_wp2
        go_ret
        exact ⟨ret_int HB.out.symm, Ext.trans X x1⟩
  · have g0 : decide ((20 : Int) < (ps.length : Int)) = true := by simp; omega
    have HB := Lib.hid (bestV_long h20)
    clear h20
    go_enter Try.func7, Try.ntmps7
    go_wp2
    go_ret
    exact ⟨ret_int HB.out.symm, ext_refl _⟩

set_option maxHeartbeats 8000000 in
theorem c_iBestVote (A : Option Addr) (c : Nat) (ps : List VtE) (w : World) (hr : VsR w A c ps) (hs : LgS ps) (hn : ps.length ≤ 1048576) :
    Calls Try.prog 6 #[.slice A ps.length c] w fun e w' => e = .returned (.int .i64 (bestV ps)) ∧ Ext w w' := by
  have HS := Lib.hid hs
  clear hs
  by_cases h20 : ps.length ≤ 20
  · have g0 : decide ((20 : Int) < (ps.length : Int)) = false := by simp; omega
    go_enter Try.func6, Try.ntmps6
    go_wp2
    go_loopw [3, 12] (fun b i wr => ∃ k : Nat, k ≤ ps.length ∧ i = .int .i64 k ∧ b = .int .i64 (onat (bTo ps k)) ∧ OkTo ps k ∧ Ext w wr) (fun _ i _ => ps.length - (intOf i).toNat)
    case atStart => exact ⟨0, Nat.zero_le _, rfl, rfl, fun j hj hjk => absurd hjk (by omega), ext_refl _⟩
    case round =>
      obtain ⟨k, hk, rfl, rfl, ht, X⟩ := hrel
      have HT := Lib.hid ht
      clear ht
      by_cases hlt : k < ps.length
      · obtain ⟨ab, ao, hA, hab, a0, a1, a2, a3, a4, a5, a6, a7, a8, a9⟩ := (hr.1.keep X).atVtE hlt
        subst hA
        have X1 := Ext.trans X (ext_alloc wr (Vt.obj ps[k].1 ps[k].2))
        have hcon := c_iLogOk ps[k].1 ps[k].2.log (HS.out _ (List.getElem_mem hlt)).1 (HS.out _ (List.getElem_mem hlt)).2.1 (HS.out _ (List.getElem_mem hlt)).2.2 _ ((hr.2 _ (List.getElem_mem hlt)).keep X1)
        cases q : logOk ps[k].2.log
        · rw [q] at hcon
          have HB := Lib.hid (bestV_bad hlt q)
          clear q
          go_wp2_with fail
          refine hcon.mono ?_
          rintro e w1 ⟨rfl, x1⟩
          clear hcon
          go_wp2
          go_ret
          exact ⟨ret_int HB.out.symm, Ext.trans X1 x1⟩
        · rw [q] at hcon
          have HB := Lib.hid (HT.out.next hlt q)
          obtain ⟨lk0, lk1, lk2⟩ := logOk_b q
          clear q
          go_wp2_with fail
          refine hcon.mono ?_
          rintro e w1 ⟨rfl, x1⟩
          clear hcon
          have X2 := Ext.trans X1 x1
          have B1 := x1.box (hNew (w := wr) (o := Vt.obj ps[k].1 ps[k].2) rfl)
          have b1 := bx_cell B1
          have f1 := bx_frozen B1
          have z1 := bx_lt B1
          clear B1 a0 a1 a2 a3 a4 a5 a6 a7 a8 a9
          cases q6 : (ps[k].2.kind == 6)
          · have HK := Lib.hid (bTo_kind hlt q6)
            have HX2 := Lib.hid X2
            go_wp2
            (refine wp_region_mix' (fun _ _ _ _ _ hq => hq) 15 (by kernel_rfl) (by kernel_rfl) (fun hg => ?_); simp only [headOps, List.take_succ_cons, List.take_zero, List.filter_cons, List.filter_nil, isAlloc, Bool.not_false, Bool.false_eq_true, if_true, if_false, List.append_nil, List.drop_succ_cons, List.drop_zero])
            (repeat (first | (refine wpMix_plain rfl rfl ?_; go_big_quiet_step (fail); refine wpQuiet_nil ?_) | (refine wpMix_skip rfl rfl ?_; simp only [Act.put, List.setIfInBounds_toArray, List.set_cons_zero, List.set_cons_succ])))
            (refine wpMix_nil ?_; intro w2 hw2)
            go_wp2
            go_roundw
            case rel => exact ⟨k + 1, by omega, by go_num, by first | (rw [HK.out]; done) | (rw [HK.out]; rfl), HB.out, Ext.trans X2 hw2⟩
            case measure => simp [intOf] <;> omega
          · cases hb : bTo ps k with
            | none =>
              have HK := Lib.hid (bTo_none hlt q6 hb)
              have hlo : decide ((-1 : Int) < 0) = true := by decide
              clear hb
              simp only [onat]
              go_wp2
              (refine wp_region_mix' (fun _ _ _ _ _ hq => hq) 15 (by kernel_rfl) (by kernel_rfl) (fun hg => ?_); simp only [headOps, List.take_succ_cons, List.take_zero, List.filter_cons, List.filter_nil, isAlloc, Bool.not_false, Bool.false_eq_true, if_true, if_false, List.append_nil, List.drop_succ_cons, List.drop_zero])
              (repeat (first | (refine wpMix_plain rfl rfl ?_; go_big_quiet_step (fail); refine wpQuiet_nil ?_) | (refine wpMix_skip rfl rfl ?_; simp only [Act.put, List.setIfInBounds_toArray, List.set_cons_zero, List.set_cons_succ])))
              (refine wpMix_nil ?_; intro w2 hw2)
              go_wp2
              go_roundw
              case rel => exact ⟨k + 1, by omega, by go_num, by first | (rw [HK.out]; done) | (rw [HK.out]; rfl), HB.out, Ext.trans X2 hw2⟩
              case measure => simp [intOf] <;> omega
            | some j =>
              have hjk := bTo_lt ps k j hb
              have hjl : j < ps.length := by omega
              have HK := Lib.hid (bTo_some hlt q6 hb hjl)
              have hlo : decide ((j : Int) < 0) = false := by simp
              obtain ⟨_, _, e, hab2, b0, b1', b2, b3, b4, b5, b6, b7, b8, b9⟩ := (hr.1.keep X2).atVtE hjl
              obtain ⟨rfl, rfl⟩ : ab = _ ∧ ao = _ := by simpa using e
              obtain ⟨lj0, lj1, lj2⟩ := logOk_b (HT.out j hjl hjk)
              have hcv := fun W => c_better ps[k].1 ps[j].1 ps[k].2 ps[j].2 W lk0 lk1 lk2 lj0 lj1 lj2
              have HV := Lib.hid hcv
              clear hb e hcv
              simp only [onat]
              cases g : btr ps[k].2 ps[j].2
              · rw [g] at HV HK
                have HW := Lib.hid (show bTo ps (k + 1) = some j by rw [HK.out]; rfl)
                go_wp2
                (refine wp_region_mix' (fun _ _ _ _ _ hq => hq) 15 (by kernel_rfl) (by kernel_rfl) (fun hg => ?_); simp only [headOps, List.take_succ_cons, List.take_zero, List.filter_cons, List.filter_nil, isAlloc, Bool.not_false, Bool.false_eq_true, if_true, if_false, List.append_nil, List.drop_succ_cons, List.drop_zero])
                (repeat (first | (refine wpMix_plain rfl rfl ?_; go_big_quiet_step (fail); refine wpQuiet_nil ?_) | (refine wpMix_skip rfl rfl ?_; simp only [Act.put, List.setIfInBounds_toArray, List.set_cons_zero, List.set_cons_succ]) | (refine wpMix_det rfl rfl rfl (enters Try.func15 (by kernel_rfl) rfl) (fun W hW => HV.out W) rfl ?_; simp only [Act.put, List.setIfInBounds_toArray, List.set_cons_zero, List.set_cons_succ])))
                (refine wpMix_nil ?_; intro w2 hw2)
                go_wp2
                go_roundw
                case rel => exact ⟨k + 1, by omega, by go_num, by first | (rw [HW.out]; done) | (rw [HW.out]; rfl), HB.out, Ext.trans X2 hw2⟩
                case measure => simp [intOf] <;> omega
              · rw [g] at HV HK
                have HW := Lib.hid (show bTo ps (k + 1) = some k by rw [HK.out]; rfl)
                go_wp2
                (refine wp_region_mix' (fun _ _ _ _ _ hq => hq) 15 (by kernel_rfl) (by kernel_rfl) (fun hg => ?_); simp only [headOps, List.take_succ_cons, List.take_zero, List.filter_cons, List.filter_nil, isAlloc, Bool.not_false, Bool.false_eq_true, if_true, if_false, List.append_nil, List.drop_succ_cons, List.drop_zero])
                (repeat (first | (refine wpMix_plain rfl rfl ?_; go_big_quiet_step (fail); refine wpQuiet_nil ?_) | (refine wpMix_skip rfl rfl ?_; simp only [Act.put, List.setIfInBounds_toArray, List.set_cons_zero, List.set_cons_succ]) | (refine wpMix_det rfl rfl rfl (enters Try.func15 (by kernel_rfl) rfl) (fun W hW => HV.out W) rfl ?_; simp only [Act.put, List.setIfInBounds_toArray, List.set_cons_zero, List.set_cons_succ])))
                (refine wpMix_nil ?_; intro w2 hw2)
                go_wp2
                go_roundw
                case rel => exact ⟨k + 1, by omega, by go_num, by first | (rw [HW.out]; done) | (rw [HW.out]; rfl), HB.out, Ext.trans X2 hw2⟩
                case measure => simp [intOf] <;> omega
      · obtain rfl : k = ps.length := by omega
        have HB := Lib.hid (bestV_ok h20 HT.out.all)
        go_wp2
        go_ret
        exact ⟨ret_int HB.out.symm, X⟩
  · have g0 : decide ((20 : Int) < (ps.length : Int)) = true := by simp; omega
    have HB := Lib.hid (bestV_long h20)
    clear h20
    go_enter Try.func6, Try.ntmps6
    go_wp2
    go_ret
    exact ⟨ret_int HB.out.symm, ext_refl _⟩
end Go.Proofs.Ytednimdklbmjgaa
