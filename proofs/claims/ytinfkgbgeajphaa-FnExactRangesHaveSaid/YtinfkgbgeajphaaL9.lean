/- FnExactRangesHave: for every input the law returns true. No condition. -/
import Derived.Test.YtinfkgbgeajphaaOpR
import Derived.Test.YtinfkgbgeajphaaRh
namespace Go.Proofs.Ytinfkgbgeajphaa.l9
open Go.ChangeShapes Go.WideShapes Go.ChangeAt Go.RowKit Go.Joins Go.Deep Go.Sort
set_option linter.unusedVariables false

def isRow (l : List Rng) (v : Value) (W : World) : Prop := ∃ g, v = .slice (some ⟨g, 0, none⟩) l.length l.length ∧ Rd Rng.enc 2 W (some ⟨g, 0, none⟩) l.length l
theorem isRow.mono {l : List Rng} : Mono (isRow l) := fun v _ _ ⟨g, h, r⟩ hx => ⟨g, h, r.keep hx⟩
theorem isRow.rd {l : List Rng} {g : Nat} {W : World} (h : isRow l (.slice (some ⟨g, 0, none⟩) l.length l.length) W) : Rd Rng.enc 2 W (some ⟨g, 0, none⟩) l.length l := by
  obtain ⟨g', h1, h2⟩ := h
  simp only [Value.slice.injEq, Option.some.injEq, Addr.mk.injEq] at h1
  obtain ⟨⟨rfl, _⟩, _⟩ := h1
  exact h2
theorem c_row (A : Option Addr) (c : Nat) (l : List Rng) (w : World) (ha : Rd Rng.enc 2 w A c l) (hn : l.length ≤ 1048576) :
    Calls Try.prog 29 #[.slice A l.length c] w fun e w' => ∃ v, e = .returned v ∧ isRow l v w' ∧ Ext w w' :=
  (c_toRangeS A c l w ha hn).mono fun e w' ⟨g, he, o, x⟩ => ⟨_, he, ⟨g, rfl, (o.rd Rng.enc_len).2⟩, x⟩

theorem walk (A : Option Addr) (c : Nat) (l : List Rng) (lo hi : Int) (w : World) (ha : Rd Rng.enc 2 w A c l) : Calls Try.prog 10 #[.slice A l.length c, .agg #[.int .i64 lo, .int .i64 hi]] w fun e w' => e = .returned (.bool true) ∧ Ext w w' := by
  have hL := rd_len ha
  by_cases hn : l.length ≤ 1048576
  · have hE := eqB_self l
    go_enter Try.func10, Try.ntmps10
    go_wp2_with fail
    refine (c_szRangeS_le _ _ _ _ (by omega) (by omega) hL (by omega) _).mono ?_
    rintro e w1 ⟨rfl, x1⟩
    have B1 := x1.box (hNew rfl)
    have X1 : Ext w w1 := Ext.trans (ext_alloc _ _) x1
    have C1 := bx_cell B1
    have z1 := bx_lt B1
    go_wp2_with fail
    (refine wp_region_mix' (fun _ _ _ _ _ hq => hq) 5 (by kernel_rfl) (by kernel_rfl) (fun hg => ?_); simp only [headOps, List.take_succ_cons, List.take_zero, List.filter_cons, List.filter_nil, isAlloc, Bool.not_false, Bool.false_eq_true, if_true, if_false, List.append_nil, List.drop_succ_cons, List.drop_zero])
    (repeat (refine wpMix_plain rfl rfl ?_; go_big_quiet_step (fail); refine wpQuiet_nil ?_))
    refine wpMix_call (isRow l) rfl rfl rfl (enters Try.func29 (by kernel_rfl) rfl) isRow.mono (fun W hW => c_row A c l W (ha.keep (Ext.trans X1 hW)) hn) rfl ?_
    rintro v ⟨W0, _, g, rfl, _⟩
    simp only [Act.put, List.setIfInBounds_toArray, List.set_cons_zero, List.set_cons_succ]
    (repeat (refine wpMix_plain rfl rfl ?_; go_big_quiet_step (fail); refine wpQuiet_nil ?_))
    (refine wpMix_det rfl rfl rfl (enters Try.func20 (by kernel_rfl) rfl) (fun W hW => c_toRange _ _ W) rfl ?_; simp only [Act.put, List.setIfInBounds_toArray, List.set_cons_zero, List.set_cons_succ])
    (refine wpMix_det rfl rfl rfl (enters Try.func45 (by kernel_rfl) rfl) (fun W hW => c_sRangesHave _ _ l lo hi W (isRow.rd hW.2) (by omega)) rfl ?_; simp only [Act.put, List.setIfInBounds_toArray, List.set_cons_zero, List.set_cons_succ])
    (refine wpMix_nil ?_; intro w2 hw2)
    obtain ⟨x2, _⟩ := hw2
    have X2 := Ext.trans X1 x2
    have B2 := x2.box B1
    clear B1 C1 z1
    have C2 := bx_cell B2
    have z2 := bx_lt B2
    go_wp2_with fail
    refine (c_toRangeS A c l _ (ha.keep X2) hn).mono ?_
    rintro e w3 ⟨g3, rfl, o3, x3⟩
    have X3 := Ext.trans X2 x3
    have B3 := x3.box B2
    clear B2 C2 z2
    have C3 := bx_cell B3
    have z3 := bx_lt B3
    go_wp2_with fail
    refine (c_toRange lo hi _).mono ?_
    rintro e w4 ⟨rfl, x4⟩
    have X4 := Ext.trans X3 x4
    go_wp2_with fail
    refine (c_iRangesHave _ _ l lo hi _ (((o3.rd Rng.enc_len).2).keep x4) (by omega)).mono ?_
    rintro e w5 ⟨rfl, x5⟩
    have X5 := Ext.trans X4 x5
    go_wp2_with fail
    refine (c_toRangeS A c l _ (ha.keep X5) hn).mono ?_
    rintro e w6 ⟨g6, rfl, o6, x6⟩
    have X6 := Ext.trans X5 x6
    go_wp2_with fail
    refine (c_eqRangeS _ _ _ _ l l _ ((o3.kept (Ext.trans x4 (Ext.trans x5 x6))).rd Rng.enc_len).2 (o6.rd Rng.enc_len).2 (by omega) (by omega)).mono ?_
    rintro e w7 ⟨rfl, x7⟩
    go_wp2
    go_ret
    exact ⟨rfl, Ext.trans X6 x7⟩
  · go_enter Try.func10, Try.ntmps10
    go_wp2_with fail
    refine (c_szRangeS_gt _ _ _ _ (by omega) (by omega) hL (by omega) _).mono ?_
    rintro e w1 ⟨rfl, X1⟩
    go_wp2
    go_ret
    exact ⟨rfl, Ext.trans (ext_alloc _ _) X1⟩

set_option maxRecDepth 100000 in
theorem lifted (os : Os) (started : os.Started) (H : Type) (enc : TypeId × Value → H) :
    ReturnsInHanded {} Try.checked os 10 .any (Rows.fnExactRangesHaveSpec.pre6 enc Try.prog Try.f10 Rows.fnExactRangesHaveRow.domain false) (Rows.fnExactRangesHaveSpec.post enc Try.prog Try.f10 false true false false) := by
  refine returnsInHanded_of_change (C := Try.checked) own started (by kernel_rfl) Try.func10
    (ChangeSpec.witness6 (enc := enc) (C := Try.checked) false ⟨#[], #[.slice none 0 0, .agg #[.int .i64 0, .int .i64 0]], []⟩ 8 (by kernel_rfl) (by kernel_rfl) (by kernel_rfl) (by kernel_rfl)) ?_
  intro W base args ds gs before hval0 hW hcnd _
  have hval : ∀ (j : Nat) t v, Try.f10.params[j]? = some t → args[j]? = some v → Value.okWide Try.prog W .any base t v := hval0
  have hW' := hW
  obtain ⟨p, q, hA0, hV, rfl, hfz, hnd⟩ := hW
  have hA : DataW.TrodAll enc Try.prog W 0 (fun _ => true) true Try.f10.params.toList args.toList ds p := hA0
  rw [Try.params10] at hA hval
  obtain ⟨rfl, rfl⟩ := trodVars_none hV
  obtain ⟨v0, vs0, d0, ds0, p0, q0, hargs, rfl, rfl, h0, r0⟩ := trodAll_cons hA
  obtain ⟨v1, vs1, d1, ds1, p1, q1, rfl, rfl, rfl, h1, r1⟩ := trodAll_cons r0
  obtain ⟨rfl, rfl, rfl⟩ := trodAll_nil r1
  obtain rfl : args = #[v0, v1] := by cases args; simp_all
  clear hA0 hval0
  refine Calls.mono (R := fun e W' => e = .returned (.bool true) ∧ Ext W W') ?_ (fun e W' ⟨he, hx⟩ => by
    subst he
    exact ⟨_, rfl, law_post laidOut Try.underlying4 hW' hx rfl rfl rfl rfl (by kernel_rfl) rfl⟩)
  clear hW'
  exact (by obtain ⟨A, c, l, rfl, hr⟩ := open_RangeS (hval 0 _ _ rfl rfl) h0; obtain ⟨lo, hi, rfl⟩ := open_Range (hval 1 _ _ rfl rfl) h1; exact walk A c l lo hi W hr)

theorem over : Rows.fnExactRangesHaveRow.holds Try.pinned (OpenSpec.ofChange Rows.fnExactRangesHaveSpec) :=
  OpenClaim.holds_of_wide 10 Try.f10 rfl rfl rfl rfl rfl rfl rfl ⟨rfl, rfl, rfl, rfl, rfl⟩ rfl rfl rfl rfl rfl (by kernel_rfl) Try.func10 (by kernel_rfl)
    (of_decide_eq_true (by kernel_rfl)) (by unfold Func.isWrapper; first | (rw [if_pos (by decide +kernel)]; kernel_rfl) | (rw [if_neg (by decide +kernel)]; exact ⟨rfl, rfl⟩))
    (fun os started H enc _ => lifted os started H enc)

theorem proved : Rows.FnExactRangesHaveSaid := over
end Go.Proofs.Ytinfkgbgeajphaa.l9
