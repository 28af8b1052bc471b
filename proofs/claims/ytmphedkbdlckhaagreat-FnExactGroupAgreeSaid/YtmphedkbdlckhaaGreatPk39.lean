/- FnExactGroupAgree: for every input the law returns true. No condition. -/
import Derived.Test.YtmphedkbdlckhaaGreatPk38
import Derived.Test.YtmphedkbdlckhaaGreatPk16
namespace Go.Proofs.YtmphedkbdlckhaaGreat.l40
open Go.ChangeShapes Go.WideShapes Go.ChangeAt Go.RowKit Go.Joins Go.Deep Go.Sort
set_option linter.unusedVariables false
set_option maxRecDepth 100000 in
set_option maxHeartbeats 4000000 in
theorem walk (a : GAd) (ps : List RpE) (g : Gp) (w : World) (hr : GpR w a ps g) (hm : FlsM g.fls) : Calls Tryz.prog 7 #[Gp.val a ps.length g] w fun e w' => e = .returned (.bool true) ∧ Ext w w' := by
 have X0 := ext_alloc w (Gp.objL a ps.length g)
 have hcon := c_szGroup a ps g 1048576 (by omega) (by omega) _ (hr.keep X0) hm
 by_cases hn : gpN ps g ≤ 1048576
 ·rw [szV_le (by omega)] at hcon
  have hg0 : decide ((1048576 : Int) - ((gpN ps g : Nat) : Int) < 0) = false := by simp; omega
  have hN : (ps.length + rpsN ps ps.length) + (g.fls.length + flsN g.fls g.fls.length) + g.rys.length ≤ 1048576 := hn
  have hs : RpsS ps := rpsN_small ps 1048576 (by omega) (by omega)
  have hl1 : ps.length ≤ 1048576 := by omega
  have hl2 : g.fls.length ≤ 1048576 := by omega
  have hl3 : g.rys.length ≤ 1048576 := by omega
  obtain ⟨y, hy⟩ : ∃ y, gpAgree g = y := ⟨_, rfl⟩
  have HS := Hd (show ∀ (b : GAd) (qs : List RpE) (W : World), qs.length = ps.length → GpR W b qs g → Calls Tryz.prog 19 #[Gp.val b ps.length g] W fun e w' => e = .returned (.bool y) ∧ Ext W w' from fun b qs W hl h => by
   have := c_sGroupAgree b qs g W h (RpsS.congr (hr.e.trans h.e.symm) h.r hr.r hs) hm (by omega) hl2 hl3
   rw [hl, hy] at this
   exact this)
  have HI := Hd (show ∀ (b : GAd) (qs : List RpE) (W : World), qs.length = ps.length → GpR W b qs g → Calls Tryz.prog 20 #[Gp.val b ps.length g] W fun e w' => e = .returned (.bool y) ∧ Ext W w' from fun b qs W hl h => by
   have := c_iGroupAgree b qs g W h (RpsS.congr (hr.e.trans h.e.symm) h.r hr.r hs) hm (by omega) hl2 hl3
   rw [hl, hy] at this
   exact this)
  have HT := Hd (show ∀ W, Ext w W → Calls Tryz.prog 10 #[Gp.val a ps.length g] W fun e w' => ∃ (b : GAd) (qs : List RpE), e = .returned (Gp.val b ps.length g) ∧ qs.length = ps.length ∧ GpR w' b qs g ∧ Ext W w' from fun W h => c_toGroup a ps g W (hr.keep h) hs hl1 hl2 hl3)
  have HE := Hd (show ∀ (b : GAd) (qs : List RpE) (W : World) (v : Value), qs.length = ps.length → GpR W b qs g → GpV ps.length g v W → Calls Tryz.prog 12 #[Gp.val b ps.length g, v] W fun e w' => e = .returned (.bool true) ∧ Ext W w' from fun b qs W v hl h hv => c_eqGAnew b qs g ps.length W h hl hl1 (RpsS.congr (hr.e.trans h.e.symm) h.r hr.r hs) hl2 hl3 v hv)
  have hyy : (y != y) = false := by simp
  clear hy hs hr hm hN
  go_enter Tryz.func7, Tryz.ntmps7
  go_wp2_with fail
  refine hcon.mono ?_
  rintro e w1 ⟨rfl, y1⟩
  clear hcon
  have b0 := bx_cell (y1.box (hNew (w := w) (o := Gp.objL a ps.length g) rfl))
  go_wp2_with fail
  refine (HT.out _ (Ext.trans X0 y1)).mono ?_
  rintro e w2 ⟨a2, qs2, rfl, l2, o2, x2⟩
  have y2 := Ext.trans y1 x2
  have HO2 := Hd o2
  clear o2 b0
  go_wp2_with fail
  refine (HS.out a2 qs2 _ l2 HO2.out).mono ?_
  rintro e w3 ⟨rfl, x3⟩
  have y3 := Ext.trans y2 x3
  have b0 := bx_cell (y3.box (hNew (w := w) (o := Gp.objL a ps.length g) rfl))
  clear l2
  go_wp2_with fail
  refine (HT.out _ (Ext.trans X0 y3)).mono ?_
  rintro e w4 ⟨a4, qs4, rfl, l4, o4, x4⟩
  have y4 := Ext.trans y3 x4
  have X4 := ext_alloc w4 (Gp.obj a4 ps.length g)
  have HO4 := Hd (o4.keep X4)
  have L4 := Hd l4
  clear o4 b0 l4
  go_wp2_with fail
  refine (HI.out a4 qs4 _ L4.out HO4.out).mono ?_
  rintro e w5 ⟨rfl, x5⟩
  have Z5 := x5
  have y5 := Ext.trans y4 (Ext.trans X4 x5)
  have B0 := y5.box (hNew (w := w) (o := Gp.objL a ps.length g) rfl)
  have B5 := Z5.box (hNew (w := w4) (o := Gp.obj a4 ps.length g) rfl)
  have b0 := bx_cell B0
  have b5 := bx_cell B5
  have zz0 := bx_lt B0
  have zz5 := bx_lt B5
  clear B0 B5
  have HX5 := Hd (Ext.trans X0 y5)
  have HR5 := Hd (HO4.out.keep x5)
  clear Z5
  go_wp2
  (refine wp_region_mix' (fun _ _ _ _ _ hq => hq) 5 (by kernel_rfl) (by kernel_rfl) (fun hg => ?_); simp only [headOps, Tc, Tz, List.filter_cons, List.filter_nil, isAlloc, Bool.not_false, Bf, if_true, if_false, List.append_nil, Dc, Dz])
  (repeat (first | (refine wpMix_plain rfl rfl ?_; go_big_quiet_step (fail); refine wpQuiet_nil ?_) | (refine wpMix_skip rfl rfl ?_; simp only [Act.put, Sa, Sz, Ss])))
  refine wpMix_call (GpV ps.length g) rfl rfl rfl (enters Tryz.func10 (by kernel_rfl) rfl) (GpV.mono _ _) (fun W hW => (HT.out W (Ext.trans HX5.out hW)).mono fun e w' ⟨b', qs, he, hl, ho, hx⟩ => ⟨_, he, ⟨b', qs, rfl, hl, ho⟩, hx⟩) rfl (fun v7 hv7 => ?_)
  simp only [Act.put, Sa, Sz, Ss]
  (repeat (first | (refine wpMix_plain rfl rfl ?_; go_big_quiet_step (fail); refine wpQuiet_nil ?_) | (refine wpMix_skip rfl rfl ?_; simp only [Act.put, Sa, Sz, Ss])))
  refine wpMix_det rfl rfl rfl (enters Tryz.func12 (by kernel_rfl) rfl) (fun W hW => HE.out a4 qs4 W v7 L4.out (HR5.out.keep hW.1) hW.2) rfl ?_
  simp only [Act.put, Sa, Sz, Ss]
  (repeat (first | (refine wpMix_plain rfl rfl ?_; go_big_quiet_step (fail); refine wpQuiet_nil ?_) | (refine wpMix_skip rfl rfl ?_; simp only [Act.put, Sa, Sz, Ss])))
  refine wpMix_nil ?_
  rintro w8 ⟨x8, _⟩
  go_wp2
  go_ret
  exact ⟨rfl, Ext.trans HX5.out x8⟩
 ·rw [szV_gt (by omega)] at hcon
  go_enter Tryz.func7, Tryz.ntmps7
  go_wp2_with fail
  refine hcon.mono ?_
  rintro e w1 ⟨rfl, X1⟩
  clear hcon
  go_wp2
  go_ret
  exact ⟨rfl, Ext.trans X0 X1⟩
set_option maxRecDepth 100000 in
theorem lifted (os : Os) (started : os.Started) (H : Type) (enc : TypeId × Value → H) :
  ReturnsInHanded {} Tryz.checked os 7 .any (Rows.fnExactGroupAgreeSpec.pre6 enc Tryz.prog Tryz.f7 Rows.fnExactGroupAgreeRow.domain false) (Rows.fnExactGroupAgreeSpec.post enc Tryz.prog Tryz.f7 false true false false) := by
 refine returnsInHanded_of_change (C := Tryz.checked) own started (by kernel_rfl) Tryz.func7
  (ChangeSpec.witness6 (enc := enc) (C := Tryz.checked) false ⟨#[], #[.agg #[.int .i64 0, .slice none 0 0, .int .i64 0, .slice none 0 0, .slice none 0 0]], []⟩ 8 (by kernel_rfl) (by kernel_rfl) (by kernel_rfl) (by kernel_rfl)) ?_
 intro W base args ds gs before hval0 hW hcnd _
 have hval : ∀ (j : Nat) t v, Tryz.f7.params[j]? = some t → args[j]? = some v → Value.okWide Tryz.prog W .any base t v := hval0
 have hW' := hW
 obtain ⟨p, q, hA0, hV, rfl, hfz, hnd⟩ := hW
 have hA : DataW.TrodAll enc Tryz.prog W 0 (fun _ => true) true Tryz.f7.params.toList args.toList ds p := hA0
 rw [Tryz.params7] at hA hval
 obtain ⟨rfl, rfl⟩ := trodVars_none hV
 obtain ⟨v0, vs0, d0, ds0, p0, q0, hargs, rfl, rfl, h0, r0⟩ := trodAll_cons hA
 obtain ⟨rfl, rfl, rfl⟩ := trodAll_nil r0
 obtain rfl : args = #[v0] := by cases args; simp_all
 clear hA0 hval0
 refine Calls.mono (R := fun e W' => e = .returned (.bool true) ∧ Ext W W') ?_ (fun e W' ⟨he, hx⟩ => by
  subst he
  exact ⟨_, rfl, law_post laidOut Tryz.underlying4 hW' hx rfl rfl rfl rfl (by kernel_rfl) rfl⟩)
 clear hW'
 exact (by obtain ⟨a, qs, g, rfl, hr, hm⟩ := open_Group (hval 0 _ _ rfl rfl) h0; exact walk a qs g W hr hm)
theorem over : Rows.fnExactGroupAgreeRow.holds Tryz.pinned (OpenSpec.ofChange Rows.fnExactGroupAgreeSpec) :=
 OpenClaim.holds_of_wide 7 Tryz.f7 rfl rfl rfl rfl rfl rfl rfl ⟨rfl, rfl, rfl, rfl, rfl⟩ rfl rfl rfl rfl rfl (by kernel_rfl) Tryz.func7 (by kernel_rfl)
  (of_decide_eq_true (by kernel_rfl)) (by unfold Func.isWrapper; first | (rw [if_pos (by decide +kernel)]; kernel_rfl) | (rw [if_neg (by decide +kernel)]; exact ⟨rfl, rfl⟩))
  (fun os started H enc _ => lifted os started H enc)
theorem proved : Rows.FnExactGroupAgreeSaid := over
end Go.Proofs.YtmphedkbdlckhaaGreat.l40
