/- The reference begins to turn to a view. -/
import Derived.Test.YtkenlhdiehaemaaGreatS5
import Derived.Test.YtkenlhdiehaemaaGreatGq
import Derived.Test.YtkenlhdiehaemaaGreatPw
namespace Go.Proofs.YtkenlhdiehaemaaGreat
open Go.ChangeShapes Go.WideShapes Go.ChangeAt Go.RowKit Go.Sort
set_option linter.unusedVariables false
set_option linter.unusedSimpArgs false

set_option maxRecDepth 100000 in
set_option maxHeartbeats 16000000 in
theorem c_l7Begin (B : Nat) (a : LAd) (A : Option Addr) (c : Nat) (qs : List VtE) (R : Rp) (view : Int) (w : World) (hF : RpF w B a A c qs R) (ht : RpT R) (h0 : 0 ≤ view) (h1 : view ≤ 1000000000) (hB : B ≤ w.heap.size) :
    Calls Tryz.prog 92 #[Rp.val a A qs.length c R, .int .i64 view] w fun e w' => (∃ a' A' c' qs' Ao co os, e = .returned (.tuple #[Rp.val a' A' (List.length qs') c' (beginR R view), .slice Ao (List.length os) co]) ∧ RpF w' B a' A' c' qs' (beginR R view) ∧ OsK w' w.heap.size Ao co os ∧ List.map Prod.snd os = beginO R view) ∧ Ext w w' := by
  obtain ⟨w1, hw1⟩ : ∃ w1, ((w.alloc (Rp.obj a (some ⟨w.heap.size + 1 + 1, 0, none⟩) 0 0 (R.turned view))).alloc Rp.zobj).alloc (.cells #[] 110) = w1 := ⟨_, rfl⟩
  have X0 : Ext w w1 := by rw [← hw1]; exact ext_to (ext_to (ext_alloc _ _) _) _
  have E1 := Lib.hid (show w1.heap[w.heap.size]? = some (Rp.obj a (some ⟨w.heap.size + 1 + 1, 0, none⟩) 0 0 (R.turned view)) by rw [← hw1]; exact hOld (o := .cells #[] 110) (hOld (o := Rp.zobj) (hNew (w := w) (o := (Rp.obj a (some ⟨w.heap.size + 1 + 1, 0, none⟩) 0 0 (R.turned view))) rfl)))
  have E2 := Lib.hid (show w1.heap[w.heap.size + 1]? = some Rp.zobj by rw [← hw1]; exact hOld (o := .cells #[] 110) (hNew (w := w.alloc (Rp.obj a (some ⟨w.heap.size + 1 + 1, 0, none⟩) 0 0 (R.turned view))) (o := Rp.zobj) (k := w.heap.size + 1) (by simp)))
  obtain ⟨RT, hRT⟩ : ∃ X, R.turned view = X := ⟨_, rfl⟩
  have HF := Lib.hid (show RpF w1 B a (some ⟨w.heap.size + 1 + 1, 0, none⟩) 0 [] RT from by
    rw [← hRT]
    exact ⟨(hF.keep X0).l, ⟨⟨Nat.le_refl _, by unfold maxLen; omega, fun h => absurd h (by simp)⟩, fun h => absurd h (by simp)⟩, fun p hp => (List.not_mem_nil hp).elim, rfl⟩)
  have HTu := Lib.hid (show RpT RT from by rw [← hRT]; exact ht.turned h0 h1)
  have hid : RT.me = R.me ∧ RT.of = R.of ∧ RT.view = view := by rw [← hRT]; exact ⟨rfl, rfl, rfl⟩
  have HId := Lib.hid hid
  have HBR := Lib.hid (show beginR R view = lookR RT ∧ beginO R view = allTo R.me (turnM R.me view) R.of.toNat ++ lookO RT by rw [← hRT]; exact ⟨rfl, rfl⟩)
  rw [hRT] at E1 hw1
  have HW0 := Lib.hid hw1
  have HTr := Lib.hid hRT
  have X := Lib.hid X0
  have hof := ht.of
  have HOf := Lib.hid hof
  have hz_w1 : w.heap.size + 1 + 1 < w1.heap.size := by rw [← hw1]; simp
  clear X0 hF ht hid hw1 hof hRT
  go_enter Tryz.func92, Tryz.ntmps92
  go_wp2_with (with_reducible refine wl_stop 16 ?_)
  refine stop_go (F := fun W => W = w1) (by rw [← HTr.out] at HW0; exact HW0.out) ?_
  intro W1 hW1
  subst hW1
  clear HW0
  have hofN : RT.of = (R.of.toNat : Int) := by rw [HId.out.2.1]; have := HOf.out; omega
  have hof10 : R.of.toNat ≤ 10 := by have := HOf.out; omega
  have HAll := Lib.hid (c_l6All a (some ⟨w.heap.size + 1 + 1, 0, none⟩) 0 0 RT LAd.none (turnM RT.me view) W1 R.of.toNat hofN hof10 (none_lgF W1 0).rd none_small2)
  clear hofN hof10
  (go_wp2_with (with_reducible refine wl_stop 16 ?_); refine stop_load (E1.out) rfl Tryz.underlying43 (by kernel_rfl) ?_; simp only [Act.put, List.setIfInBounds_toArray, List.set_cons_zero, List.set_cons_succ])
  have d1 := bx_cell E1.out
  have z1 := bx_lt E1.out
  go_wp2_with fail
  refine HAll.out.mono ?_
  rintro e w2 ⟨Ap, cp, op, rfl, mp, hp, fp, x⟩
  obtain ⟨E1, E2, HF, X⟩ : Hid _ ∧ Hid _ ∧ Hid _ ∧ Hid _ := ⟨Lib.hid (x.box E1.out), Lib.hid (x.box E2.out), Lib.hid (HF.out.keep x), Lib.hid (Ext.trans X.out x)⟩
  have hz_w2 := x.size
  rw [HId.out.1] at mp
  have FS := Lib.hid (show OsK w2 (w.heap.size + 1 + 1) Ap cp op from OsK.less ⟨hp, fp⟩ (by omega))
  have HMp := Lib.hid mp
  have hpl : op.length ≤ 5 := by rw [← List.length_map (f := Prod.snd), mp]; have := allTo_len R.me (turnM R.me view) R.of.toNat; have := HOf.out; omega
  clear x mp hp fp d1 z1
  have HA0 := Lib.hid (fun k (hk : k ∈ blk Ap) => (FS.out.row.inB k hk).2)
  have E2v := Lib.hid E2.out
  obtain ⟨RX, hRX⟩ : ∃ X, lookR RT = X := ⟨_, rfl⟩
  obtain ⟨OX, hOX⟩ : ∃ X, lookO RT = X := ⟨_, rfl⟩
  have hcon := c_l7Look B a (some ⟨w.heap.size + 1 + 1, 0, none⟩) 0 [] RT w2 HF.out HTu.out (by omega)
  have hOl : OX.length ≤ 6 := by rw [← hOX]; exact lookO_len HTu.out
  rw [hRX, hOX] at hcon
  have HBR2 := Lib.hid (show beginR R view = RX ∧ beginO R view = allTo R.me (turnM R.me view) R.of.toNat ++ OX by rw [← hRX, ← hOX]; exact HBR.out)
  have HCon := Lib.hid hcon
  clear hcon hRX hOX HBR
  (go_wp2_with (with_reducible refine wl_stop 23 ?_); refine stop_load (E1.out) rfl Tryz.underlying43 (by kernel_rfl) ?_; simp only [Act.put, List.setIfInBounds_toArray, List.set_cons_zero, List.set_cons_succ])
  go_wp2_with fail
  refine HCon.out.mono ?_
  rintro e v8 ⟨⟨a9, A9, c9, q9, Am, cm, om, rfl, f9, fm, mm⟩, x⟩
  obtain ⟨E1, E2, FS, X⟩ : Hid _ ∧ Hid _ ∧ Hid _ ∧ Hid _ := ⟨Lib.hid (x.box E1.out), Lib.hid (x.box E2.out), Lib.hid (FS.out.keep x), Lib.hid (Ext.trans X.out x)⟩
  have hz_v8 := x.size
  clear x HCon HF
  have XA := ext_alloc v8 Rp.zobj
  have EQ0 := Lib.hid (hNew (w := v8) (o := Rp.zobj) rfl)
  obtain ⟨E1, E2, FS, X⟩ : Hid _ ∧ Hid _ ∧ Hid _ ∧ Hid _ := ⟨Lib.hid (XA.box E1.out), Lib.hid (XA.box E2.out), Lib.hid (FS.out.keep XA), Lib.hid (Ext.trans X.out XA)⟩
  have HF9 := Lib.hid (f9.keep XA)
  have HM := Lib.hid (fm.keep XA)
  have HMm := Lib.hid mm
  have hml : om.length ≤ 6 := by rw [← List.length_map (f := Prod.snd), mm]; exact hOl
  have hzA : (v8.alloc Rp.zobj).heap.size = v8.heap.size + 1 := by simp
  clear XA f9 fm mm
  have hv7 := bx_lt E2v.out
  (go_wp2_with (with_reducible refine wl_stopS 43 ?_); refine stop_store (v8.heap.size) (Rp.cs a9 A9 q9.length c9 RX) rfl rfl (EQ0.out) (by kernel_rfl) rfl (by simp [Value.oneCell']) ?_)
  intro W8 e8 k8
  have hlt_W8 := bx_lt EQ0.out
  obtain ⟨E2, FS, X, HF9, HM⟩ : Hid _ ∧ Hid _ ∧ Hid _ ∧ Hid _ ∧ Hid _ := ⟨Lib.hid (box_chg E2.out k8 (by omega)), Lib.hid (FS.out.boxed EQ0.out (by decide) (by decide) (by decide) (by decide) k8), Lib.hid (ext_chg X.out k8 (fun k hk => by rw [List.mem_singleton] at hk; omega)), Lib.hid (HF9.out.boxed EQ0.out k8), Lib.hid (HM.out.boxed EQ0.out (by decide) (by decide) (by decide) (by decide) k8)⟩
  have EQ := Lib.hid e8
  have hs_W8 := bx_lt e8
  have hz_W8 := k8.size
  clear e8 k8 E1 EQ0
  go_wp2
  obtain ⟨g, obj1, hg1, hg2, hp8, hg8, hrun⟩ := outs_plan (.cells (Rp.cs a9 A9 q9.length c9 RX) 43) FS.out HM.out E2.out hv7 HA0.out (by omega) (by omega)
  have HOth := Lib.hid (outs_oth FS.out E2.out hg2)
  have HQ := Lib.hid (relM_box (hp := hp8) (hg := hg8) (obj := (.cells (Rp.cs a9 A9 q9.length c9 RX) 43)) (obj1 := obj1) EQ.out (by omega) (outs_apart FS.out EQ.out (by omega) hg2))
  have HQw := Lib.hid (fun W' (h : (relM (w.heap.size + 1) g (.cells (Rp.cs a9 A9 q9.length c9 RX) 43) obj1 W8.heap.size hp8 hg8).rel W8 W') => cells_mid (cs := Rp.cs a9 A9 q9.length c9 RX) (HQ.out W' h) [] [] rfl rfl)
  have HRun := Lib.hid hrun
  have HG1 := Lib.hid hg1
  have HG2 := Lib.hid hg2
  clear hrun hg1 hg2
  (refine Rm.wp_region_mix' (R := relM (w.heap.size + 1) g (.cells (Rp.cs a9 A9 q9.length c9 RX) 43) obj1 W8.heap.size hp8 hg8) (joinΦ (w.heap.size + 1) (.cells (Rp.cs a9 A9 q9.length c9 RX) 43) g obj1 W8.heap.size (w.heap.size + 1 + 1) (op ++ om)) (fun _ _ _ _ _ hq => hq) 6 (by first | exact Nat.le_refl _ | omega | (simp; omega)) (by kernel_rfl) (by kernel_rfl) ?_; simp only [List.take_succ_cons, List.take_zero, List.drop_succ_cons, List.drop_zero])
  (refine Rm.wpMix_loadAgg (HQw.out) rfl rfl rfl Tryz.underlying43 (by kernel_rfl) ?_; simp only [Act.put, List.setIfInBounds_toArray, List.set_cons_zero, List.set_cons_succ])
  (iterate 2 (refine Rm.wpMix_plain rfl rfl ?_; go_big_quiet_step (fail); refine wpQuiet_nil ?_))
  refine rm_own (enc := OtE.enc) _ _ 55 100 18 (w.heap.size + 1 + 1) rfl rfl Ap _ cp op rfl rfl Am _ cm om rfl rfl (fun W hW => HRun.out W hW) rfl (fun A5 c5 => ?_)
  simp only [Act.put, List.setIfInBounds_toArray, List.set_cons_zero, List.set_cons_succ]
  refine wpMix_stM HG1.out E2.out rfl rfl rfl rfl rfl (by kernel_rfl) rfl (by simp [Value.oneCell']) rfl ?_
  simp only [Act.put, List.setIfInBounds_toArray, List.set_cons_zero, List.set_cons_succ]
  (iterate 1 (refine Rm.wpMix_plain rfl rfl ?_; go_big_quiet_step (fail); refine wpQuiet_nil ?_))
  refine Rm.wpMix_nil ?_
  rintro W9 ⟨⟨h9, hv9⟩, e9⟩
  have HE9 := Lib.hid e9
  have HOS9 := Lib.hid (outs_join FS.out HM.out (by omega) HOth.out h9 hv9)
  have HF9 := Lib.hid (HF9.out.other h9.1 HOth.out)
  have HX9 := Lib.hid (ext_chg X.out h9.1 (fun k hk => by
    have hgg := HG2.out
    simp only [List.mem_cons, List.not_mem_nil, or_false] at hk
    rcases hk with rfl | rfl
    · omega
    · rcases hgg with h | h <;> omega))
  clear h9 hv9 e9
  go_wp2
  refine bodyPost_ret (results_box2 Tryz.results92 rfl rfl Tryz.underlying43 (by kernel_rfl) HE9.out) rfl ⟨⟨a9, A9, c9, q9, A5, c5, op ++ om, by rw [HBR2.out.1, List.length_append]; rfl, by rw [HBR2.out.1]; exact HF9.out, HOS9.out.less (by omega), by rw [HBR2.out.2, List.map_append, HMp.out, HMm.out]⟩, HX9.out⟩
end Go.Proofs.YtkenlhdiehaemaaGreat

/- The marks of a replica that turns. -/
namespace Go.Proofs.YtkenlhdiehaemaaGreat
open Go.ChangeShapes Go.WideShapes Go.ChangeAt Go.RowKit Go.Sort
set_option linter.unusedVariables false
set_option linter.unusedSimpArgs false

theorem lgN_ok {l : Lg} (h : logOk l = true) : lgN l ≤ 110 := by
  have h1 := of_decide_eq_true h
  have h2 := of_decide_eq_true h1.2.1
  have h3 := h1.2.2.1
  have h4 := h2.1
  have h5 := h2.2.1
  unfold lgN
  omega
theorem vsN_ok {qs : List VtE} (h : ∀ q ∈ qs, logOk q.2.log = true) : ∀ k, k ≤ qs.length → vsN qs k ≤ 110 * k
  | 0, _ => Nat.le_refl _
  | k + 1, hk => by
    have ih := vsN_ok h k (by omega)
    have h1 := lgN_ok (h _ (List.getElem_mem (show k < qs.length by omega)))
    rw [vsN_next (show k < qs.length by omega)]
    omega
theorem RoS.ofT {ps : List VtE} {R : Rp} {O : List Ot} (hT : RpT R) (h3 : ∀ o ∈ O, o.msg.log.small) (h4 : O.length ≤ 40) : RoS ps R O := by
  refine ⟨logOk_small hT.lok, fun qs hq => ?_, h3, h4⟩
  have hok : ∀ q ∈ qs, logOk q.2.log = true := fun q hm => (hT.vok _ (by rw [← hq]; exact List.mem_map_of_mem hm)).1
  have hl : qs.length ≤ 20 := by have := hT.votes; rw [← hq, List.length_map] at this; exact this
  refine ⟨fun q hm => logOk_small (hok q hm), by omega, ?_⟩
  have h1 := vsN_ok hok qs.length (Nat.le_refl _)
  have h2 := lgN_ok hT.lok
  exact rpK_less (ps := qs) rfl (by unfold rpN; omega)
theorem RoS.with {ps : List VtE} {R : Rp} {O O' : List Ot} (h : RoS ps R O) (h3 : ∀ o ∈ O', o.msg.log.small) (h4 : O'.length ≤ 40) : RoS ps R O' := ⟨h.log, h.vs, h3, h4⟩
theorem best_small {R : Rp} (hT : RpT R) (hc : 0 < cntV 6 R.votes) : (bestLog R.votes).small := by
  obtain ⟨b, hb, hbl⟩ := best_there hT.votes (fun v hv => (hT.vok v hv).1) hc
  have h1 : bestLog R.votes = R.votes[b].log := by
    unfold bestLog
    rw [hb]
    simp [hbl]
  rw [h1]
  exact logOk_small (hT.vok _ (List.getElem_mem hbl)).1
theorem look2_cnt {R : Rp} (hT : RpT R) (h : look2B R = true) : 0 < cntV 6 R.votes := by
  unfold look2B halfI at h
  simp only [Bool.and_eq_true, decide_eq_true_eq] at h
  have := hT.of
  omega
theorem lookO_small {R : Rp} (hT : RpT R) : ∀ o ∈ lookO R, o.msg.log.small := fun o ho => by
  unfold lookO at ho
  rcases List.mem_append.1 ho with ho | ho
  · unfold look1O at ho
    split at ho
    · rw [List.mem_singleton] at ho; subst ho
      exact logOk_small hT.lok
    · exact (List.not_mem_nil ho).elim
  · split at ho
    · rename_i h2
      rw [allTo_log _ o ho]
      exact best_small hT.look1 (look2_cnt hT.look1 h2)
    · exact (List.not_mem_nil ho).elim
theorem look_small {ps : List VtE} {R : Rp} (hT : RpT R) : RoS ps (lookR R) (lookO R) := by
  have hl := lookO_len hT
  unfold lookR
  split
  · rename_i h2
    exact RoS.led (best_small hT.look1 (look2_cnt hT.look1 h2)) rfl (lookO_small hT) (by omega)
  · exact RoS.ofT hT.look1 (lookO_small hT) (by omega)
theorem beginO_small {r : Rp} (hT : RpT r) {view : Int} (h0 : 0 ≤ view) (h1 : view ≤ 1000000000) : (∀ o ∈ beginO r view, o.msg.log.small) ∧ (beginO r view).length ≤ 11 := by
  have hl := lookO_len (hT.turned h0 h1)
  have ha := allTo_len r.me (turnM r.me view) r.of.toNat
  have ho := hT.of
  unfold beginO
  refine ⟨fun o hm => ?_, by rw [List.length_append]; omega⟩
  rcases List.mem_append.1 hm with hm | hm
  · rw [allTo_log _ o hm]; exact none_small2
  · exact lookO_small (hT.turned h0 h1) o hm
theorem begin_small {ps : List VtE} {r : Rp} (hT : RpT r) {view : Int} (h0 : 0 ≤ view) (h1 : view ≤ 1000000000) : RoS ps (beginR r view) (beginO r view) :=
  (look_small (hT.turned h0 h1)).with (beginO_small hT h0 h1).1 (by have := (beginO_small hT h0 h1).2; omega)
theorem turn_small {ps : List VtE} {r : Rp} (he : ps.map Prod.snd = r.votes) (hn : rpN ps r ≤ 1048576) (hlog : r.log.small) (hvs : LgS ps) : RoS ps (turnR r) (turnO r) := by
  unfold turnR turnO
  cases q : rpOk r
  · exact RoS.nil rfl rfl rfl
  · cases g : turnB r
    · exact RoS.same he hn hlog hvs rfl rfl (by simp) (by simp)
    · unfold turnB at g
      simp only [Bool.and_eq_true, decide_eq_true_eq] at g
      have hT := rpOk_T q g.1
      simp only [if_true, Bool.and_true]
      exact begin_small hT (by have := hT.view0; omega) (by omega)
theorem heard_T {kind : Int} {r : Rp} {m : Mg} {v : Vt} (hT : RpT r) (hv : logOk v.log = true ∧ v.log.base ≤ v.commit ∧ v.commit ≤ v.log.fin) : RpT (heard kind r m v) := by
  unfold heard
  split
  · exact hT.voted hv
  · exact hT
theorem ttO_small {r : Rp} (hl : liveB r = true → RpT r) {view : Int} (h0 : 0 ≤ view) (h1 : view ≤ 1000000000) : (∀ o ∈ ttO r view, o.msg.log.small) ∧ (ttO r view).length ≤ 11 := by
  unfold ttO
  split
  · rename_i h
    simp only [Bool.and_eq_true] at h
    exact beginO_small (hl h.1) h0 h1
  · simp
theorem tt_small {ps : List VtE} {r : Rp} (he : ps.map Prod.snd = r.votes) (hn : rpN ps r ≤ 1048576) (hlog : r.log.small) (hvs : LgS ps) (hl : liveB r = true → RpT r) {view : Int} (h0 : 0 ≤ view) (h1 : view ≤ 1000000000) {O : List Ot} (h3 : ∀ o ∈ O, o.msg.log.small) (h4 : O.length ≤ 40) : RoS ps (ttR r view) O := by
  unfold ttR
  split
  · rename_i h
    simp only [Bool.and_eq_true] at h
    exact (begin_small (hl h.1) h0 h1).with h3 h4
  · exact RoS.same he hn hlog hvs rfl rfl h3 h4
theorem noneLg_ok : logOk Lg.none = true := by decide +kernel
theorem turnV_ok (m : Mg) : logOk (turnV m).log = true ∧ (turnV m).log.base ≤ (turnV m).commit ∧ (turnV m).commit ≤ (turnV m).log.fin := ⟨noneLg_ok, by simp [turnV, Lg.none], by simp [turnV, Lg.none, Lg.fin]⟩
theorem onTurn_small {ps : List VtE} {r : Rp} {m : Mg} (he : ps.map Prod.snd = r.votes) (hn : rpN ps r ≤ 1048576) (hlog : r.log.small) (hvs : LgS ps) (q1 : rpOk r = true) (h0 : 0 ≤ m.view) (h1 : m.view ≤ 1000000000) : RoS ps (onTurnR r m) (onTurnO r m) := by
  have hl : liveB r = true → RpT r := fun h => rpOk_T q1 h
  have ht := ttO_small hl h0 h1
  unfold onTurnR onTurnO
  split
  · rename_i hb
    have hT := heard_T (kind := 5) (m := m) (ttB_T hl h0 h1 hb) (turnV_ok m)
    have h6 := lookO_len hT
    refine (look_small hT).with (fun o ho => ?_) (by rw [List.length_append]; omega)
    rcases List.mem_append.1 ho with ho | ho
    · exact ht.1 o ho
    · exact lookO_small hT o ho
  · rw [List.append_nil]
    exact tt_small he hn hlog hvs hl h0 h1 ht.1 (by omega)
theorem onDo_small {ps : List VtE} {r : Rp} {m : Mg} (he : ps.map Prod.snd = r.votes) (hn : rpN ps r ≤ 1048576) (hlog : r.log.small) (hvs : LgS ps) (q1 : rpOk r = true) (h0 : 0 ≤ m.view) (h1 : m.view ≤ 1000000000) (hm : logOk m.log = true ∧ m.log.base ≤ m.commit ∧ m.commit ≤ m.log.fin) : RoS ps (onDoR r m) (onDoO r m) := by
  have hl : liveB r = true → RpT r := fun h => rpOk_T q1 h
  have ht := ttO_small hl h0 h1
  unfold onDoR onDoO
  split
  · split
    · exact RoS.same he hn hlog hvs rfl rfl (fun o ho => by rw [List.mem_singleton] at ho; subst ho; exact hlog) (by simp)
    · split
      · rename_i hb
        have hT := heard_T (kind := 6) (m := m) (v := doV2 m) (ttB_T hl h0 h1 hb) hm
        have h6 := lookO_len hT
        refine (look_small hT).with (fun o ho => ?_) (by rw [List.length_append]; omega)
        rcases List.mem_append.1 ho with ho | ho
        · exact ht.1 o ho
        · exact lookO_small hT o ho
      · rw [List.append_nil]
        exact tt_small he hn hlog hvs hl h0 h1 ht.1 (by omega)
  · exact RoS.same he hn hlog hvs rfl rfl (by simp) (by simp)
theorem heard_fits {r : Rp} {m : Mg} {kind : Int} (q1 : rpOk r = true) (q2 : hearB r m kind = true) : iFits m = true ∧ m.kind = kind := (hear_facts (show (rpOk r && hearB r m kind) = true by rw [q1, q2]; rfl)).2
theorem onTurn_small2 {ps : List VtE} {r : Rp} {m : Mg} (he : ps.map Prod.snd = r.votes) (hn : rpN ps r ≤ 1048576) (hlog : r.log.small) (hvs : LgS ps) (q1 : rpOk r = true) (q2 : hearB r m 5 = true) : RoS ps (onTurnR r m) (onTurnO r m) := by
  obtain ⟨h1, h2⟩ := heard_fits q1 q2
  have hv := fits_view h1 (by rw [h2]; decide +kernel)
  exact onTurn_small he hn hlog hvs q1 hv.1 hv.2
theorem onDo_small2 {ps : List VtE} {r : Rp} {m : Mg} (he : ps.map Prod.snd = r.votes) (hn : rpN ps r ≤ 1048576) (hlog : r.log.small) (hvs : LgS ps) (q1 : rpOk r = true) (q2 : hearB r m 6 = true) : RoS ps (onDoR r m) (onDoO r m) := by
  obtain ⟨h1, h2⟩ := heard_fits q1 q2
  have hv := fits_view h1 (by rw [h2]; decide +kernel)
  exact onDo_small he hn hlog hvs q1 hv.1 hv.2 (fits_log h1 (by rw [h2]; decide +kernel))
end Go.Proofs.YtkenlhdiehaemaaGreat
