/- FnExactCrash: for every input the law returns true. No condition. -/
import Derived.Test.YtmpjokdidomafaaRl
import Derived.Test.YtmpjokdidomafaaCr
namespace Go.Proofs.Ytmpjokdidomafaa.l26
open Go.ChangeShapes Go.WideShapes Go.ChangeAt Go.RowKit Go.Joins Go.Deep Go.Sort
set_option linter.unusedVariables false

theorem small_none : Lg.none.small := ⟨by decide, by decide, by decide⟩
theorem nil_facts {R : Rp} (hl : R.log = Lg.none) (hv : R.votes = []) : R.log.small ∧ ∀ qs : List VtE, qs.map Prod.snd = R.votes → LgS qs ∧ qs.length ≤ 1048576 ∧ rpK 1 qs R ≤ 1000000000 := by
  refine ⟨by rw [hl]; exact small_none, fun qs h => ?_⟩
  rw [hv] at h
  obtain rfl : qs = [] := by simpa using h
  refine ⟨fun p hp => (List.not_mem_nil hp).elim, Nat.zero_le _, ?_⟩
  unfold rpK
  rw [hl]
  decide
theorem crash_facts {ps : List VtE} {r : Rp} (he : ps.map Prod.snd = r.votes) (hn : rpN ps r ≤ 1048576) (hlog : r.log.small) (hvs : LgS ps) : (crashR r).log.small ∧ ∀ qs : List VtE, qs.map Prod.snd = (crashR r).votes → LgS qs ∧ qs.length ≤ 1048576 ∧ rpK 1 qs (crashR r) ≤ 1000000000 := by
  unfold crashR
  split
  · split
    · refine ⟨hlog, fun qs h => ⟨LgS.congr (he.trans h.symm) hvs, ?_, rpK_small (he.trans h.symm) hn⟩⟩
      have := congrArg List.length (he.trans h.symm)
      simp at this
      unfold rpN at hn
      omega
    · exact nil_facts rfl rfl
  · exact nil_facts rfl rfl
theorem box_out {w w' : World} {S : List Nat} {P : Nat} {o : Obj} (h : w.heap[P]? = some o) (hg : Chg w w' S) (hn : P ∉ S) : w'.heap[P]? = some o := (hg.block P (bx_lt h) hn).trans h

set_option maxRecDepth 100000 in
set_option maxHeartbeats 8000000 in
theorem walk (a : LAd) (A : Option Addr) (c : Nat) (ps : List VtE) (r : Rp) (w : World) (hr : RpR w a A c ps r) : Calls Try.prog 7 #[Rp.val a A ps.length c r] w fun e w' => e = .returned (.bool true) ∧ Ext w w' := by
  have X0 := ext_alloc w (Rp.objL a A ps.length c r)
  have hcon := c_szReplica a A c ps r 1048576 (by omega) (by omega) _ (hr.keep X0)
  by_cases hn : rpN ps r ≤ 1048576
  · rw [szV_le (by omega)] at hcon
    have hg0 : decide ((1048576 : Int) - ((rpN ps r : Nat) : Int) < 0) = false := by simp; omega
    have hlog : r.log.small := lgN_small (n := rpN ps r) (by unfold rpN; omega) hn
    have hlen : ps.length ≤ 1048576 := by unfold rpN at hn; omega
    have hvs : LgS ps := vsN_small ps (rpN ps r) (by unfold rpN; omega) hn
    have hcf := crash_facts hr.e hn hlog hvs
    obtain ⟨R, hR⟩ : ∃ R, crashR r = R := ⟨_, rfl⟩
    rw [hR] at hcf
    have HRs := Lib.hid hcf.1
    have HRv := Lib.hid hcf.2
    have HS := Lib.hid (show ∀ (a : LAd) (g : Nat) (qs : List VtE) (W : World), qs.length = ps.length → RpR W a (some ⟨g, 0, none⟩) ps.length qs r → Calls Try.prog 35 #[Rp.val a (some ⟨g, 0, none⟩) ps.length ps.length r] W fun e w' => ∃ v, e = .returned v ∧ RpW w' W.heap.size R v ∧ Ext W w' from fun a g qs W hl h => by
      have := c_sCrash a (some ⟨g, 0, none⟩) ps.length qs r W h hlog (by omega) (LgS.congr (hr.e.trans h.e.symm) hvs)
      rw [hl, hR] at this
      exact this)
    have HI := Lib.hid (show ∀ (a : LAd) (g : Nat) (qs : List VtE) (W : World), qs.length = ps.length → RpR W a (some ⟨g, 0, none⟩) ps.length qs r → Calls Try.prog 36 #[Rp.val a (some ⟨g, 0, none⟩) ps.length ps.length r] W fun e w' => ∃ v, e = .returned v ∧ RpX w' W.heap.size w'.heap.size R v ∧ Ext W w' from fun a g qs W hl h => by
      have := c_iCrash a (some ⟨g, 0, none⟩) ps.length qs r W h hlog (by omega) (LgS.congr (hr.e.trans h.e.symm) hvs)
      rw [hl, hR] at this
      exact this)
    have HT := Lib.hid (show ∀ W, Ext w W → Calls Try.prog 21 #[Rp.val a A ps.length c r] W fun e w' => ∃ (a' : LAd) (g : Nat) (qs : List VtE), e = .returned (Rp.val a' (some ⟨g, 0, none⟩) ps.length ps.length r) ∧ qs.length = ps.length ∧ RpO w' W.heap.size w'.heap.size a' (some ⟨g, 0, none⟩) ps.length qs r ∧ Ext W w' from fun W h => c_toReplica a A c ps r W (hr.keep h) hlog hlen hvs)
    have HK := Lib.hid (show ∀ qs : List VtE, qs.map Prod.snd = r.votes → rpK 1 qs r ≤ 1000000000 from fun qs h => rpK_small (hr.e.trans h.symm) hn)
    have HVS := Lib.hid (show ∀ qs : List VtE, qs.map Prod.snd = r.votes → LgS qs from fun qs h => LgS.congr (hr.e.trans h.symm) hvs)
    have HLog := Lib.hid hlog
    clear hR hcf hlog hvs hr
    go_enter Try.func7, Try.ntmps7
    go_wp2_with fail
    refine hcon.mono ?_
    rintro e w1 ⟨rfl, y1⟩
    clear hcon
    have b0 := bx_cell (y1.box (hNew (w := w) (o := Rp.objL a A ps.length c r) rfl))
    go_wp2_with fail
    refine (HT.out _ (Ext.trans X0 y1)).mono ?_
    rintro e w2 ⟨a2, g2, qs2, rfl, l2, o2, x2⟩
    have y2 := Ext.trans y1 x2
    have HO2 := Lib.hid o2.rd
    clear o2 b0
    go_wp2_with fail
    refine (HS.out a2 g2 qs2 _ l2 HO2.out).mono ?_
    rintro e w3 ⟨v3, rfl, ⟨a3, A3, c3, qs3, rfl, f3⟩, x3⟩
    have y3 := ext_to (Ext.trans y2 x3) (Rp.obj a3 A3 qs3.length c3 R)
    have b0 := bx_cell (y3.box (hNew (w := w) (o := Rp.objL a A ps.length c r) rfl))
    have hs3 := HRv.out qs3 f3.e
    have HF3 := Lib.hid f3.rd
    have HL3 := Lib.hid hs3.1
    clear f3 l2 hs3
    go_wp2_with fail
    refine (HT.out _ (Ext.trans X0 y3)).mono ?_
    rintro e w4 ⟨a4, g4, qs4, rfl, l4, o4, x4⟩
    have y4 := Ext.trans y3 x4
    have HO4 := Lib.hid o4
    have hv4 := Lib.hid (HVS.out qs4 o4.e)
    have hk4 := Lib.hid (HK.out qs4 o4.e)
    have X4' := ext_alloc w4 (Rp.obj a4 (some ⟨g4, 0, none⟩) ps.length ps.length r)
    have L4 := Lib.hid l4
    clear o4 b0 l4
    go_wp2_with fail
    refine (HI.out a4 g4 qs4 _ L4.out (HO4.out.rd.keep X4')).mono ?_
    rintro e w5 ⟨v5, rfl, ⟨a5, A5, c5, qs5, rfl, o5⟩, x5⟩
    have hf5 := HRv.out qs5 o5.e
    have HL5 := Lib.hid hf5.1
    have hn5 := hf5.2.1
    have hk5 := Lib.hid hf5.2.2
    have X5' := ext_alloc w5 (Rp.obj a5 A5 qs5.length c5 R)
    have z45 := Ext.trans X4' (Ext.trans x5 X5')
    have z35 := Ext.trans x4 z45
    have HO5 := Lib.hid o5
    have B4 := z35.box (hNew (w := w3) (o := Rp.obj a3 A3 qs3.length c3 R) rfl)
    have b4 := bx_cell B4
    have q4 := bx_lt B4
    have n3 : w3.heap.size < w5.heap.size := by have := x5.size; have := x4.size; simp only [sz_alloc] at *; omega
    clear o5 hf5 B4
    go_wp2_with fail
    refine (c_eqReplica_same a5 a3 A5 A3 c5 c3 qs5 qs3 R HRs.out _ (HO5.out.rd.keep X5') (HF3.out.keep (Ext.trans (ext_alloc _ _) z35)) hn5 HL5.out).mono ?_
    rintro e w6 ⟨rfl, x6⟩
    have z36 := Ext.trans z35 x6
    have z46 := Ext.trans z45 x6
    have y6 := Ext.trans y4 z46
    have B0 := y6.box (hNew (w := w) (o := Rp.objL a A ps.length c r) rfl)
    have B5 := (Ext.trans (Ext.trans x5 X5') x6).box (hNew (w := w4) (o := Rp.obj a4 (some ⟨g4, 0, none⟩) ps.length ps.length r) rfl)
    clear b4 q4
    have b0 := bx_cell B0
    have b5 := bx_cell B5
    have zz0 := bx_lt B0
    have zz5 := bx_lt B5
    clear B0 B5
    have HX6 := Lib.hid (Ext.trans X0 y6)
    have HR6 := Lib.hid (HO4.out.rd.keep z46)
    go_wp2
    (refine wp_region_mix' (fun _ _ _ _ _ hq => hq) 5 (by kernel_rfl) (by kernel_rfl) (fun hg => ?_); simp only [headOps, List.take_succ_cons, List.take_zero, List.filter_cons, List.filter_nil, isAlloc, Bool.not_false, Bool.false_eq_true, if_true, if_false, List.append_nil, List.drop_succ_cons, List.drop_zero])
    (repeat (first | (refine wpMix_plain rfl rfl ?_; go_big_quiet_step (fail); refine wpQuiet_nil ?_) | (refine wpMix_skip rfl rfl ?_; simp only [Act.put, List.setIfInBounds_toArray, List.set_cons_zero, List.set_cons_succ])))
    refine wpMix_call (RpV ps.length r) rfl rfl rfl (enters Try.func21 (by kernel_rfl) rfl) (RpV.mono _ _) (fun W hW => (HT.out W (Ext.trans HX6.out hW)).mono fun e w' ⟨a', g, qs, he, hl, ho, hx⟩ => ⟨_, he, ⟨a', g, qs, rfl, hl, ho.rd⟩, hx⟩) rfl (fun v7 hv7 => ?_)
    simp only [Act.put, List.setIfInBounds_toArray, List.set_cons_zero, List.set_cons_succ]
    (repeat (first | (refine wpMix_plain rfl rfl ?_; go_big_quiet_step (fail); refine wpQuiet_nil ?_) | (refine wpMix_skip rfl rfl ?_; simp only [Act.put, List.setIfInBounds_toArray, List.set_cons_zero, List.set_cons_succ])))
    refine wpMix_det rfl rfl rfl (enters Try.func24 (by kernel_rfl) rfl) (fun W hW => c_eqAnew a4 (some ⟨g4, 0, none⟩) ps.length qs4 r ps.length HLog.out W (HR6.out.keep hW.1) L4.out hlen hv4.out v7 hW.2) rfl ?_
    simp only [Act.put, List.setIfInBounds_toArray, List.set_cons_zero, List.set_cons_succ]
    (repeat (first | (refine wpMix_plain rfl rfl ?_; go_big_quiet_step (fail); refine wpQuiet_nil ?_) | (refine wpMix_skip rfl rfl ?_; simp only [Act.put, List.setIfInBounds_toArray, List.set_cons_zero, List.set_cons_succ])))
    refine wpMix_nil ?_
    rintro w8 ⟨x8, _⟩
    clear b0 b5 zz0 zz5 hv7
    have z48 := Ext.trans z46 x8
    have z38 := Ext.trans z36 x8
    have z58 := Ext.trans X5' (Ext.trans x6 x8)
    have B0 := Lib.hid ((Ext.trans y6 x8).box (hNew (w := w) (o := Rp.objL a A ps.length c r) rfl))
    have B4 := Lib.hid (z38.box (hNew (w := w3) (o := Rp.obj a3 A3 qs3.length c3 R) rfl))
    have B5 := Lib.hid ((Ext.trans (Ext.trans (Ext.trans x5 X5') x6) x8).box (hNew (w := w4) (o := Rp.obj a4 (some ⟨g4, 0, none⟩) ps.length ps.length r) rfl))
    have B6 := Lib.hid ((Ext.trans x6 x8).box (hNew (w := w5) (o := Rp.obj a5 A5 qs5.length c5 R) rfl))
    have b5 := bx_cell B5.out
    have zz5 := bx_lt B5.out
    have HO8 := Lib.hid (HO4.out.kept z48)
    have hm0 := hk4.out
    have hm1 := rpK_pos (ps := qs4) (r := r)
    have hcm := c_markReplica a4 (some ⟨g4, 0, none⟩) ps.length qs4 r _ _ 1 w8 HO8.out (by omega) hk4.out HLog.out hv4.out (by have := L4.out; omega)
    rw [L4.out] at hcm
    have HCM := Lib.hid hcm
    have hg9 : decide (rpK 1 qs4 r < 0) = false := by simp; omega
    obtain ⟨K, hK⟩ : ∃ K, rpK 1 qs4 r = K := ⟨_, rfl⟩
    rw [hK] at HCM hg9 hm0 hm1
    clear hcm hK
    go_wp2_with fail
    refine HCM.out.mono ?_
    rintro e w9 ⟨rfl, _, c9⟩
    have hfp := HO4.out.fp_in
    simp only [sz_alloc] at hfp
    have t3 := y3.size
    have t0 : w.heap.size + 1 ≤ w3.heap.size := by have := (Ext.trans y2 x3).size; simpa using this
    have t34 : w3.heap.size + 1 ≤ w4.heap.size := by have := x4.size; simpa using this
    have t45 : w4.heap.size + 1 ≤ w5.heap.size := by have := x5.size; simpa using this
    clear b5 zz5
    have D0 := Lib.hid (box_out B0.out c9 (fun hm => by have := (hfp _ hm).1; omega))
    have D4 := Lib.hid (box_out B4.out c9 (fun hm => by have := (hfp _ hm).1; omega))
    have D6 := Lib.hid (box_out B6.out c9 (fun hm => by have := (hfp _ hm).2; omega))
    have E3 := Lib.hid (ext_chg (Ext.trans (ext_alloc w3 (Rp.obj a3 A3 qs3.length c3 R)) z38) c9 (fun g hg => by have := (hfp g hg).1; omega))
    have E0 := Lib.hid (ext_chg (Ext.trans (Ext.trans X0 y4) z48) c9 (fun g hg => by have := (hfp g hg).1; omega))
    have O9 := Lib.hid (show RpO w9 (w4.heap.size + 1) w5.heap.size a5 A5 c5 qs5 R from by
      have h5 := HO5.out.kept z58
      have hin := HO5.out.fp_in
      simp only [sz_alloc] at hin
      refine ⟨?_, ?_, h5.e, h5.d⟩
      · have := h5.l.chg c9 (fun k hk hm => by have h1 := (hfp k hm).2; have h2 := (hin k (List.mem_append_left _ hk)).1; omega)
        simpa using this
      · have := h5.v.chg c9 (fun k hk hm => by have h1 := (hfp k hm).2; have h2 := (hin k (List.mem_append_right _ hk)).1; omega)
        simpa using this)
    clear c9 hfp t3
    have d4 := bx_cell D4.out
    have d6 := bx_cell D6.out
    have zd4 := bx_lt D4.out
    have zd6 := bx_lt D6.out
    go_wp2_with fail
    refine (c_eqReplica_same a5 a3 A5 A3 c5 c3 qs5 qs3 R HRs.out _ O9.out.rd (HF3.out.keep E3.out) hn5 HL5.out).mono ?_
    rintro e w10 ⟨rfl, x10⟩
    clear d4 d6 zd4 zd6
    have G6 := Lib.hid (x10.box D6.out)
    have d6 := bx_cell G6.out
    have zd6 := bx_lt G6.out
    have hcm5 := c_markReplica a5 A5 c5 qs5 R _ _ 1 w10 (O9.out.kept x10) (by omega) hk5.out HRs.out HL5.out hn5
    have hm50 := hk5.out
    have hm51 := rpK_pos (ps := qs5) (r := R)
    have hch5 := fun W (h : RpH W a5 A5 c5 qs5 R 1) => c_heldReplica a5 A5 c5 qs5 R 1 W h (by omega) hk5.out HRs.out HL5.out hn5
    obtain ⟨K5, hK5⟩ : ∃ K, rpK 1 qs5 R = K := ⟨_, rfl⟩
    rw [hK5] at hcm5 hm50 hm51
    simp only [hK5] at hch5
    have HCM5 := Lib.hid hcm5
    have HCH5 := Lib.hid hch5
    have hg11 : decide (K5 < 0) = false := by simp; omega
    clear hcm5 hK5 hch5
    go_wp2_with fail
    refine HCM5.out.mono ?_
    rintro e w11 ⟨rfl, h11, c11⟩
    have hfp := O9.out.fp_in
    clear d6 zd6
    have I0 := Lib.hid (box_out (x10.box D0.out) c11 (fun hm => by have := (hfp _ hm).1; omega))
    have I4 := Lib.hid (box_out (x10.box D4.out) c11 (fun hm => by have := (hfp _ hm).1; omega))
    have I6 := Lib.hid (box_out G6.out c11 (fun hm => by have := (hfp _ hm).2; omega))
    have F3 := Lib.hid (ext_chg (Ext.trans E3.out x10) c11 (fun g hg => by have := (hfp g hg).1; omega))
    have F0 := Lib.hid (ext_chg (Ext.trans E0.out x10) c11 (fun g hg => by have := (hfp g hg).1; omega))
    have H11 := Lib.hid h11
    clear h11 c11 hfp
    have d6 := bx_cell I6.out
    have zd6 := bx_lt I6.out
    go_wp2_with fail
    refine (HCH5.out _ H11.out).mono ?_
    rintro e w12 ⟨rfl, x12⟩
    clear d6 zd6
    have b0 := bx_cell (x12.box I0.out)
    have zb0 := bx_lt (x12.box I0.out)
    have HX12 := Lib.hid (Ext.trans F0.out x12)
    go_wp2_with fail
    refine (HT.out _ HX12.out).mono ?_
    rintro e w13 ⟨a13, g13, qs13, rfl, l13, o13, x13⟩
    have HO13 := Lib.hid o13.rd
    clear b0 zb0 o13
    go_wp2_with fail
    refine (HI.out a13 g13 qs13 _ l13 HO13.out).mono ?_
    rintro e w14 ⟨v14, rfl, ⟨a14, A14, c14, qs14, rfl, o14⟩, x14⟩
    have hf14 := HRv.out qs14 o14.e
    have HL14 := Lib.hid hf14.1
    have hn14 := hf14.2.1
    have X14' := ext_alloc w14 (Rp.obj a14 A14 qs14.length c14 R)
    have y14 := Ext.trans x12 (Ext.trans x13 (Ext.trans x14 X14'))
    have HO14 := Lib.hid o14.rd
    have n14 : w3.heap.size < w14.heap.size := by
      have h1 := bx_lt I4.out
      have h2 := (Ext.trans x12 (Ext.trans x13 x14)).size
      omega
    clear o14 hf14 l13
    have d4 := bx_cell (y14.box I4.out)
    have zd4 := bx_lt (y14.box I4.out)
    go_wp2_with fail
    refine (c_eqReplica_same a14 a3 A14 A3 c14 c3 qs14 qs3 R HRs.out _ (HO14.out.keep X14') (HF3.out.keep (Ext.trans F3.out y14)) hn14 HL14.out).mono ?_
    rintro e w15 ⟨rfl, x15⟩
    clear d4 zd4
    have d6 := bx_cell ((Ext.trans y14 x15).box I6.out)
    have zd6 := bx_lt ((Ext.trans y14 x15).box I6.out)
    go_wp2_with fail
    refine (HCH5.out _ (H11.out.keep (Ext.trans y14 x15))).mono ?_
    rintro e w16 ⟨rfl, x16⟩
    clear d6 zd6
    go_wp2
    go_ret
    exact ⟨rfl, Ext.trans F0.out (Ext.trans y14 (Ext.trans x15 x16))⟩
  · rw [szV_gt (by omega)] at hcon
    go_enter Try.func7, Try.ntmps7
    go_wp2_with fail
    refine hcon.mono ?_
    rintro e w1 ⟨rfl, X1⟩
    clear hcon
    go_wp2
    go_ret
    exact ⟨rfl, Ext.trans X0 X1⟩

set_option maxRecDepth 100000 in
theorem lifted (os : Os) (started : os.Started) (H : Type) (enc : TypeId × Value → H) :
    ReturnsInHanded {} Try.checked os 7 .any (Rows.fnExactCrashSpec.pre6 enc Try.prog Try.f7 Rows.fnExactCrashRow.domain false) (Rows.fnExactCrashSpec.post enc Try.prog Try.f7 false true false false) := by
  refine returnsInHanded_of_change (C := Try.checked) own started (by kernel_rfl) Try.func7
    (ChangeSpec.witness6 (enc := enc) (C := Try.checked) false ⟨#[], #[.agg #[.int .i64 0, .int .i64 0, .int .i64 0, .int .i64 0, .int .i64 0, .int .i64 0, .int .i64 0, .slice none 0 0, .slice none 0 0, .slice none 0 0, .slice none 0 0, .int .i64 0, .int .i64 0]], []⟩ 8 (by kernel_rfl) (by kernel_rfl) (by kernel_rfl) (by kernel_rfl)) ?_
  intro W base args ds gs before hval0 hW hcnd _
  have hval : ∀ (j : Nat) t v, Try.f7.params[j]? = some t → args[j]? = some v → Value.okWide Try.prog W .any base t v := hval0
  have hW' := hW
  obtain ⟨p, q, hA0, hV, rfl, hfz, hnd⟩ := hW
  have hA : DataW.TrodAll enc Try.prog W 0 (fun _ => true) true Try.f7.params.toList args.toList ds p := hA0
  rw [Try.params7] at hA hval
  obtain ⟨rfl, rfl⟩ := trodVars_none hV
  obtain ⟨v0, vs0, d0, ds0, p0, q0, hargs, rfl, rfl, h0, r0⟩ := trodAll_cons hA
  obtain ⟨rfl, rfl, rfl⟩ := trodAll_nil r0
  obtain rfl : args = #[v0] := by cases args; simp_all
  clear hA0 hval0
  refine Calls.mono (R := fun e W' => e = .returned (.bool true) ∧ Ext W W') ?_ (fun e W' ⟨he, hx⟩ => by
    subst he
    exact ⟨_, rfl, law_post laidOut Try.underlying4 hW' hx rfl rfl rfl rfl (by kernel_rfl) rfl⟩)
  clear hW'
  exact (by obtain ⟨a, A, c, ps, r, rfl, hr⟩ := open_Replica (hval 0 _ _ rfl rfl) h0; exact walk a A c ps r W hr)

theorem over : Rows.fnExactCrashRow.holds Try.pinned (OpenSpec.ofChange Rows.fnExactCrashSpec) :=
  OpenClaim.holds_of_wide 7 Try.f7 rfl rfl rfl rfl rfl rfl rfl ⟨rfl, rfl, rfl, rfl, rfl⟩ rfl rfl rfl rfl rfl (by kernel_rfl) Try.func7 (by kernel_rfl)
    (of_decide_eq_true (by kernel_rfl)) (by unfold Func.isWrapper; first | (rw [if_pos (by decide +kernel)]; kernel_rfl) | (rw [if_neg (by decide +kernel)]; exact ⟨rfl, rfl⟩))
    (fun os started H enc _ => lifted os started H enc)

theorem proved : Rows.FnExactCrashSaid := over
end Go.Proofs.Ytmpjokdidomafaa.l26
