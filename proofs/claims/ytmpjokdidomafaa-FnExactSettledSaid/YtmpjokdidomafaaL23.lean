/- FnExactSettled: for every input the law returns true. No condition. -/
import Derived.Test.YtmpjokdidomafaaRl
import Derived.Test.YtmpjokdidomafaaSe
namespace Go.Proofs.Ytmpjokdidomafaa.l23
open Go.ChangeShapes Go.WideShapes Go.ChangeAt Go.RowKit Go.Joins Go.Deep Go.Sort
set_option linter.unusedVariables false

set_option maxRecDepth 100000 in
set_option maxHeartbeats 4000000 in
theorem walk (a : LAd) (A : Option Addr) (c : Nat) (ps : List VtE) (r : Rp) (w : World) (hr : RpR w a A c ps r) : Calls Try.prog 5 #[Rp.val a A ps.length c r] w fun e w' => e = .returned (.bool true) ∧ Ext w w' := by
  have X0 := ext_alloc w (Rp.objL a A ps.length c r)
  have hcon := c_szReplica a A c ps r 1048576 (by omega) (by omega) _ (hr.keep X0)
  by_cases hn : rpN ps r ≤ 1048576
  · rw [szV_le (by omega)] at hcon
    have hg0 : decide ((1048576 : Int) - ((rpN ps r : Nat) : Int) < 0) = false := by simp; omega
    have hlog : r.log.small := lgN_small (n := rpN ps r) (by unfold rpN; omega) hn
    have hlen : ps.length ≤ 1048576 := by unfold rpN at hn; omega
    have hvs : LgS ps := vsN_small ps (rpN ps r) (by unfold rpN; omega) hn
    have hel : (setE r).length ≤ 1048576 := Nat.le_trans (setE_le r) hlog.2.2
    obtain ⟨b, hb⟩ : ∃ b, setB r = b := ⟨_, rfl⟩
    obtain ⟨E, hE⟩ : ∃ E, setE r = E := ⟨_, rfl⟩
    rw [hE] at hel
    have HS := Lib.hid (show ∀ (a : LAd) (g : Nat) (qs : List VtE) (W : World), qs.length = ps.length → RpR W a (some ⟨g, 0, none⟩) ps.length qs r → Calls Try.prog 20 #[Rp.val a (some ⟨g, 0, none⟩) ps.length ps.length r] W fun e w' => ∃ A' c', e = .returned (.tuple #[.int .i64 b, .slice A' E.length c']) ∧ Rd Ent.enc 5 w' A' c' E ∧ Ext W w' from fun a g qs W hl h => by
      have := c_sSettled a (some ⟨g, 0, none⟩) ps.length qs r W h hlog (by omega) (LgS.congr (hr.e.trans h.e.symm) hvs)
      rw [hl, hb, hE] at this
      exact this)
    have HI := Lib.hid (show ∀ (a : LAd) (g : Nat) (qs : List VtE) (W : World), qs.length = ps.length → RpR W a (some ⟨g, 0, none⟩) ps.length qs r → Calls Try.prog 22 #[Rp.val a (some ⟨g, 0, none⟩) ps.length ps.length r] W fun e w' => ∃ v, e = .returned (.tuple #[.int .i64 b, v]) ∧ Ow Ent.enc 109 5 w' W.heap.size v E ∧ Ext W w' from fun a g qs W hl h => by
      have := c_iSettled a (some ⟨g, 0, none⟩) ps.length qs r W h hlog (by omega) (LgS.congr (hr.e.trans h.e.symm) hvs)
      rw [hl, hb, hE] at this
      exact this)
    have HT := Lib.hid (show ∀ W, Ext w W → Calls Try.prog 21 #[Rp.val a A ps.length c r] W fun e w' => ∃ (a' : LAd) (g : Nat) (qs : List VtE), e = .returned (Rp.val a' (some ⟨g, 0, none⟩) ps.length ps.length r) ∧ qs.length = ps.length ∧ RpO w' W.heap.size w'.heap.size a' (some ⟨g, 0, none⟩) ps.length qs r ∧ Ext W w' from fun W h => c_toReplica a A c ps r W (hr.keep h) hlog hlen hvs)
    have HK := Lib.hid (show ∀ qs : List VtE, qs.map Prod.snd = r.votes → rpK 1 qs r ≤ 1000000000 from fun qs h => rpK_small (hr.e.trans h.symm) hn)
    have HVS := Lib.hid (show ∀ qs : List VtE, qs.map Prod.snd = r.votes → LgS qs from fun qs h => LgS.congr (hr.e.trans h.symm) hvs)
    have HLog := Lib.hid hlog
    have hR := eqB_self E
    have hbb : (b != b) = false := by simp
    clear hb hE hlog hvs hr
    go_enter Try.func5, Try.ntmps5
    go_wp2_with fail
    refine hcon.mono ?_
    rintro e w1 ⟨rfl, y1⟩
    clear hcon
    have b0 := bx_cell (y1.box (hNew (w := w) (o := Rp.objL a A ps.length c r) rfl))
    go_wp2_with fail
    refine (HT.out _ (Ext.trans X0 y1)).mono ?_
    rintro e w2 ⟨a2, g2, qs2, rfl, l2, o2, x2⟩
    have y2 := Ext.trans y1 x2
    have HO2 := Lib.hid o2.rd
    clear o2 b0
    go_wp2_with fail
    refine (HS.out a2 g2 qs2 _ l2 HO2.out).mono ?_
    rintro e w3 ⟨A3, c3, rfl, r3, x3⟩
    have y3 := Ext.trans y2 x3
    have b0 := bx_cell (y3.box (hNew (w := w) (o := Rp.objL a A ps.length c r) rfl))
    have HR3 := Lib.hid r3
    clear r3 l2
    go_wp2_with fail
    refine (HT.out _ (Ext.trans X0 y3)).mono ?_
    rintro e w4 ⟨a4, g4, qs4, rfl, l4, o4, x4⟩
    have y4 := Ext.trans y3 x4
    have HO4 := Lib.hid o4
    have hv4 := Lib.hid (HVS.out qs4 o4.e)
    have hk4 := Lib.hid (HK.out qs4 o4.e)
    have X4' := ext_alloc w4 (Rp.obj a4 (some ⟨g4, 0, none⟩) ps.length ps.length r)
    have L4 := Lib.hid l4
    clear o4 b0 l4
    go_wp2_with fail
    refine (HI.out a4 g4 qs4 _ L4.out (HO4.out.rd.keep X4')).mono ?_
    rintro e w5 ⟨v5, rfl, o5, x5⟩
    obtain ⟨A5, c5, rfl⟩ := o5.form
    have z5 := Ext.trans X4' x5
    have HO5 := Lib.hid o5
    clear o5
    go_wp2_with fail
    refine (c_eqEntryS _ _ _ _ E E _ (HO5.out.rd Ent.len).2 (HR3.out.keep (Ext.trans x4 z5)) (by omega) (by omega)).mono ?_
    rintro e w6 ⟨rfl, x6⟩
    have Z6 := Ext.trans x5 x6
    have y6 := Ext.trans y4 (Ext.trans z5 x6)
    have B0 := y6.box (hNew (w := w) (o := Rp.objL a A ps.length c r) rfl)
    have B6 := Z6.box (hNew (w := w4) (o := Rp.obj a4 (some ⟨g4, 0, none⟩) ps.length ps.length r) rfl)
    have b0 := bx_cell B0
    have b6 := bx_cell B6
    have zz0 := bx_lt B0
    have zz6 := bx_lt B6
    clear B0 B6
    have HX6 := Lib.hid (Ext.trans X0 y6)
    have HR6 := Lib.hid (HO4.out.rd.keep (Ext.trans z5 x6))
    go_wp2
    (refine wp_region_mix' (fun _ _ _ _ _ hq => hq) 5 (by kernel_rfl) (by kernel_rfl) (fun hg => ?_); simp only [headOps, List.take_succ_cons, List.take_zero, List.filter_cons, List.filter_nil, isAlloc, Bool.not_false, Bool.false_eq_true, if_true, if_false, List.append_nil, List.drop_succ_cons, List.drop_zero])
    (repeat (first | (refine wpMix_plain rfl rfl ?_; go_big_quiet_step (fail); refine wpQuiet_nil ?_) | (refine wpMix_skip rfl rfl ?_; simp only [Act.put, List.setIfInBounds_toArray, List.set_cons_zero, List.set_cons_succ])))
    refine wpMix_call (RpV ps.length r) rfl rfl rfl (enters Try.func21 (by kernel_rfl) rfl) (RpV.mono _ _) (fun W hW => (HT.out W (Ext.trans HX6.out hW)).mono fun e w' ⟨a', g, qs, he, hl, ho, hx⟩ => ⟨_, he, ⟨a', g, qs, rfl, hl, ho.rd⟩, hx⟩) rfl (fun v7 hv7 => ?_)
    simp only [Act.put, List.setIfInBounds_toArray, List.set_cons_zero, List.set_cons_succ]
    (repeat (first | (refine wpMix_plain rfl rfl ?_; go_big_quiet_step (fail); refine wpQuiet_nil ?_) | (refine wpMix_skip rfl rfl ?_; simp only [Act.put, List.setIfInBounds_toArray, List.set_cons_zero, List.set_cons_succ])))
    refine wpMix_det rfl rfl rfl (enters Try.func24 (by kernel_rfl) rfl) (fun W hW => c_eqAnew a4 (some ⟨g4, 0, none⟩) ps.length qs4 r ps.length HLog.out W (HR6.out.keep hW.1) L4.out hlen hv4.out v7 hW.2) rfl ?_
    simp only [Act.put, List.setIfInBounds_toArray, List.set_cons_zero, List.set_cons_succ]
    (repeat (first | (refine wpMix_plain rfl rfl ?_; go_big_quiet_step (fail); refine wpQuiet_nil ?_) | (refine wpMix_skip rfl rfl ?_; simp only [Act.put, List.setIfInBounds_toArray, List.set_cons_zero, List.set_cons_succ])))
    refine wpMix_nil ?_
    rintro w8 ⟨x8, _⟩
    have Z8 := Ext.trans Z6 x8
    have B6 := Z8.box (hNew (w := w4) (o := Rp.obj a4 (some ⟨g4, 0, none⟩) ps.length ps.length r) rfl)
    clear b0 b6 zz0 zz6 hv7
    have b6 := bx_cell B6
    have zz6 := bx_lt B6
    have q8 := Ext.trans z5 (Ext.trans x6 x8)
    have HO8 := Lib.hid (HO4.out.kept q8)
    have HB6 := Lib.hid B6
    clear B6
    have hm0 := hk4.out
    have hm1 := rpK_pos (ps := qs4) (r := r)
    have hcm := c_markReplica a4 (some ⟨g4, 0, none⟩) ps.length qs4 r _ _ 1 w8 HO8.out (by omega) hk4.out HLog.out hv4.out (by have := L4.out; omega)
    rw [L4.out] at hcm
    have HCM := Lib.hid hcm
    have hg9 : decide (rpK 1 qs4 r < 0) = false := by simp; omega
    obtain ⟨K, hK⟩ : ∃ K, rpK 1 qs4 r = K := ⟨_, rfl⟩
    rw [hK] at HCM hg9 hm0 hm1
    clear hcm hK
    go_wp2_with fail
    refine HCM.out.mono ?_
    rintro e w9 ⟨rfl, _, c9⟩
    have hfp := HO4.out.fp_in
    have s34 := x4.size
    have s3 := y3.size
    have s0 := X0.size
    have s45 := z5.size
    have C9 := Lib.hid c9
    have E3 := Lib.hid (chg_low (Ext.trans x4 q8) c9 (fun g hg => (hfp g hg).1))
    have E0 := Lib.hid (chg_low (Ext.trans (Ext.trans X0 y4) q8) c9 (fun g hg => by have := (hfp g hg).1; omega))
    have s58 := x6.size
    have O9 := Lib.hid ((HO5.out.kept (Ext.trans x6 x8)).chg c9 (fun k hk hm => by have h1 := (hfp k hm).2; have h2 := (HO5.out.inB k hk).1; simp only [sz_alloc] at h2; omega))
    clear c9 b6 zz6 hfp
    go_wp2_with fail
    refine (c_eqEntryS _ _ _ _ E E _ (O9.out.rd Ent.len).2 (HR3.out.keep E3.out) (by omega) (by omega)).mono ?_
    rintro e w10 ⟨rfl, x10⟩
    have hin := O9.out.inB
    simp only [sz_alloc] at hin
    have HIn := Lib.hid hin
    clear hin
    go_wp2_with fail
    refine (c_markEntryS _ _ E _ 1 _ (O9.out.kept x10) (by omega) (by omega) (by omega)).mono ?_
    rintro e w11 ⟨rfl, m11, g11⟩
    have c11 := chg_grown g11
    have F3 := Lib.hid (chg_low (Ext.trans E3.out x10) c11 (fun g hg => by have := (HIn.out g hg).1; omega))
    have F0 := Lib.hid (chg_low (Ext.trans E0.out x10) c11 (fun g hg => by have := (HIn.out g hg).1; omega))
    have B11 := (c11.block w.heap.size (by have := (Ext.trans E0.out x10).size; have := x10.size; have := y6.size; simp only [sz_alloc] at *; have := C9.out.size; have := x8.size; omega) (fun hm => by have := (HIn.out _ hm).1; have := X0.size; have := y4.size; simp only [sz_alloc] at *; omega)).trans (x10.box ((C9.out.block w.heap.size (by have := y6.size; have := x8.size; simp only [sz_alloc] at *; omega) (fun hm => by have h1 := (HO4.out.fp_in _ hm).1; have := y3.size; simp only [sz_alloc] at *; omega)).trans (x8.box (y6.box (hNew (w := w) (o := Rp.objL a A ps.length c r) rfl)))))
    have M11 := Lib.hid (m11.rd Ent.len).2
    have HB11 := Lib.hid B11
    have hml := marksEnt_length 1 E.length
    clear m11 g11 c11 B11
    go_wp2_with fail
    refine (c_heldEntryS A5 c5 E.length 1 _ M11.out (by omega) (by omega) (by omega)).mono ?_
    rintro e w12 ⟨rfl, x12⟩
    have b0 := bx_cell (x12.box HB11.out)
    have HX12 := Lib.hid (Ext.trans F0.out x12)
    go_wp2_with fail
    refine (HT.out _ HX12.out).mono ?_
    rintro e w13 ⟨a13, g13, qs13, rfl, l13, o13, x13⟩
    have HO13 := Lib.hid o13.rd
    clear b0 o13
    go_wp2_with fail
    refine (HI.out a13 g13 qs13 _ l13 HO13.out).mono ?_
    rintro e w14 ⟨v14, rfl, o14, x14⟩
    obtain ⟨A14, c14, rfl⟩ := o14.form
    have HO14 := Lib.hid o14
    have y14 := Ext.trans x12 (Ext.trans x13 x14)
    clear o14 l13
    go_wp2_with fail
    refine (c_eqEntryS _ _ _ _ E E _ (HO14.out.rd Ent.len).2 (HR3.out.keep (Ext.trans F3.out y14)) (by omega) (by omega)).mono ?_
    rintro e w15 ⟨rfl, x15⟩
    go_wp2_with fail
    refine (c_heldEntryS A5 c5 E.length 1 _ (M11.out.keep (Ext.trans y14 x15)) (by omega) (by omega) (by omega)).mono ?_
    rintro e w16 ⟨rfl, x16⟩
    go_wp2
    go_ret
    exact ⟨rfl, Ext.trans F0.out (Ext.trans y14 (Ext.trans x15 x16))⟩
  · rw [szV_gt (by omega)] at hcon
    go_enter Try.func5, Try.ntmps5
    go_wp2_with fail
    refine hcon.mono ?_
    rintro e w1 ⟨rfl, X1⟩
    clear hcon
    go_wp2
    go_ret
    exact ⟨rfl, Ext.trans X0 X1⟩

set_option maxRecDepth 100000 in
theorem lifted (os : Os) (started : os.Started) (H : Type) (enc : TypeId × Value → H) :
    ReturnsInHanded {} Try.checked os 5 .any (Rows.fnExactSettledSpec.pre6 enc Try.prog Try.f5 Rows.fnExactSettledRow.domain false) (Rows.fnExactSettledSpec.post enc Try.prog Try.f5 false true false false) := by
  refine returnsInHanded_of_change (C := Try.checked) own started (by kernel_rfl) Try.func5
    (ChangeSpec.witness6 (enc := enc) (C := Try.checked) false ⟨#[], #[.agg #[.int .i64 0, .int .i64 0, .int .i64 0, .int .i64 0, .int .i64 0, .int .i64 0, .int .i64 0, .slice none 0 0, .slice none 0 0, .slice none 0 0, .slice none 0 0, .int .i64 0, .int .i64 0]], []⟩ 8 (by kernel_rfl) (by kernel_rfl) (by kernel_rfl) (by kernel_rfl)) ?_
  intro W base args ds gs before hval0 hW hcnd _
  have hval : ∀ (j : Nat) t v, Try.f5.params[j]? = some t → args[j]? = some v → Value.okWide Try.prog W .any base t v := hval0
  have hW' := hW
  obtain ⟨p, q, hA0, hV, rfl, hfz, hnd⟩ := hW
  have hA : DataW.TrodAll enc Try.prog W 0 (fun _ => true) true Try.f5.params.toList args.toList ds p := hA0
  rw [Try.params5] at hA hval
  obtain ⟨rfl, rfl⟩ := trodVars_none hV
  obtain ⟨v0, vs0, d0, ds0, p0, q0, hargs, rfl, rfl, h0, r0⟩ := trodAll_cons hA
  obtain ⟨rfl, rfl, rfl⟩ := trodAll_nil r0
  obtain rfl : args = #[v0] := by cases args; simp_all
  clear hA0 hval0
  refine Calls.mono (R := fun e W' => e = .returned (.bool true) ∧ Ext W W') ?_ (fun e W' ⟨he, hx⟩ => by
    subst he
    exact ⟨_, rfl, law_post laidOut Try.underlying4 hW' hx rfl rfl rfl rfl (by kernel_rfl) rfl⟩)
  clear hW'
  exact (by obtain ⟨a, A, c, ps, r, rfl, hr⟩ := open_Replica (hval 0 _ _ rfl rfl) h0; exact walk a A c ps r W hr)

theorem over : Rows.fnExactSettledRow.holds Try.pinned (OpenSpec.ofChange Rows.fnExactSettledSpec) :=
  OpenClaim.holds_of_wide 5 Try.f5 rfl rfl rfl rfl rfl rfl rfl ⟨rfl, rfl, rfl, rfl, rfl⟩ rfl rfl rfl rfl rfl (by kernel_rfl) Try.func5 (by kernel_rfl)
    (of_decide_eq_true (by kernel_rfl)) (by unfold Func.isWrapper; first | (rw [if_pos (by decide +kernel)]; kernel_rfl) | (rw [if_neg (by decide +kernel)]; exact ⟨rfl, rfl⟩))
    (fun os started H enc _ => lifted os started H enc)

theorem proved : Rows.FnExactSettledSaid := over
end Go.Proofs.Ytmpjokdidomafaa.l23
