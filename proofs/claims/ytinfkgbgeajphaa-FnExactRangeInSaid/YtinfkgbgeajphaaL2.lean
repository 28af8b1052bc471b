/- FnExactRangeIn: for every input the law returns true. No condition. -/
import Derived.Test.YtinfkgbgeajphaaOpen
namespace Go.Proofs.Ytinfkgbgeajphaa.l2
open Go.ChangeShapes Go.WideShapes Go.ChangeAt Go.RowKit Go.Joins Go.Deep Go.Sort
set_option linter.unusedVariables false

theorem walk (lo hi lo' hi' : Int) (w : World) : Calls Try.prog 4 #[.agg #[.int .i64 lo, .int .i64 hi], .agg #[.int .i64 lo', .int .i64 hi']] w fun e w' => e = .returned (.bool true) ∧ Ext w w' := by
  go_enter Try.func4, Try.ntmps4
  go_wp2
  (refine wp_region_mix' (fun _ _ _ _ _ hq => hq) 6 (by kernel_rfl) (by kernel_rfl) (fun hg => ?_); simp only [headOps, List.take_succ_cons, List.take_zero, List.filter_cons, List.filter_nil, isAlloc, Bool.not_false, Bool.false_eq_true, if_true, if_false, List.append_nil, List.drop_succ_cons, List.drop_zero])
  (repeat (refine wpMix_plain rfl rfl ?_; go_big_quiet_step (fail); refine wpQuiet_nil ?_))
  (refine wpMix_det rfl rfl rfl (enters Try.func20 (by kernel_rfl) rfl) (fun W hW => c_toRange _ _ W) rfl ?_; simp only [Act.put, List.setIfInBounds_toArray, List.set_cons_zero, List.set_cons_succ])
  (repeat (refine wpMix_plain rfl rfl ?_; go_big_quiet_step (fail); refine wpQuiet_nil ?_))
  (refine wpMix_det rfl rfl rfl (enters Try.func20 (by kernel_rfl) rfl) (fun W hW => c_toRange _ _ W) rfl ?_; simp only [Act.put, List.setIfInBounds_toArray, List.set_cons_zero, List.set_cons_succ])
  (refine wpMix_det rfl rfl rfl (enters Try.func22 (by kernel_rfl) rfl) (fun W hW => c_sRangeIn _ _ _ _ W) rfl ?_; simp only [Act.put, List.setIfInBounds_toArray, List.set_cons_zero, List.set_cons_succ])
  (repeat (refine wpMix_plain rfl rfl ?_; go_big_quiet_step (fail); refine wpQuiet_nil ?_))
  intro w' hw'
  obtain ⟨hc0, hf0, hs0⟩ := hw'.rules
  simp at hs0
  have z0 : w.heap.size < w'.heap.size := by omega
  have z1 : w.heap.size + 1 < w'.heap.size := by omega
  clear hg
  go_wp2
  (refine wp_region_mix' (fun _ _ _ _ _ hq => hq) 6 (by kernel_rfl) (by kernel_rfl) (fun hg => ?_); simp only [headOps, List.take_succ_cons, List.take_zero, List.filter_cons, List.filter_nil, isAlloc, Bool.not_false, Bool.false_eq_true, if_true, if_false, List.append_nil, List.drop_succ_cons, List.drop_zero])
  (repeat (refine wpMix_plain rfl rfl ?_; go_big_quiet_step (fail); refine wpQuiet_nil ?_))
  (refine wpMix_det rfl rfl rfl (enters Try.func20 (by kernel_rfl) rfl) (fun W hW => c_toRange _ _ W) rfl ?_; simp only [Act.put, List.setIfInBounds_toArray, List.set_cons_zero, List.set_cons_succ])
  (repeat (refine wpMix_plain rfl rfl ?_; go_big_quiet_step (fail); refine wpQuiet_nil ?_))
  (refine wpMix_det rfl rfl rfl (enters Try.func20 (by kernel_rfl) rfl) (fun W hW => c_toRange _ _ W) rfl ?_; simp only [Act.put, List.setIfInBounds_toArray, List.set_cons_zero, List.set_cons_succ])
  (refine wpMix_det rfl rfl rfl (enters Try.func23 (by kernel_rfl) rfl) (fun W hW => c_iRangeIn _ _ _ _ W) rfl ?_; simp only [Act.put, List.setIfInBounds_toArray, List.set_cons_zero, List.set_cons_succ])
  (repeat (refine wpMix_plain rfl rfl ?_; go_big_quiet_step (fail); refine wpQuiet_nil ?_))
  intro w2 hw2
  go_wp2
  all_goals
    go_ret
    refine ⟨rfl, ?_⟩
    (repeat (first | exact ext_refl _ | refine ext_to ?_ _ | refine ext_set ?_ (by first | (simp; done) | (simp; omega) | omega) _ | refine ext_drew ?_ | refine Ext.trans ?_ (by assumption)))

set_option maxRecDepth 100000 in
theorem lifted (os : Os) (started : os.Started) (H : Type) (enc : TypeId × Value → H) :
    ReturnsInHanded {} Try.checked os 4 .any (Rows.fnExactRangeInSpec.pre6 enc Try.prog Try.f4 Rows.fnExactRangeInRow.domain false) (Rows.fnExactRangeInSpec.post enc Try.prog Try.f4 false true false false) := by
  refine returnsInHanded_of_change (C := Try.checked) own started (by kernel_rfl) Try.func4
    (ChangeSpec.witness6 (enc := enc) (C := Try.checked) false ⟨#[], #[.agg #[.int .i64 0, .int .i64 0], .agg #[.int .i64 0, .int .i64 0]], []⟩ 8 (by kernel_rfl) (by kernel_rfl) (by kernel_rfl) (by kernel_rfl)) ?_
  intro W base args ds gs before hval0 hW hcnd _
  have hval : ∀ (j : Nat) t v, Try.f4.params[j]? = some t → args[j]? = some v → Value.okWide Try.prog W .any base t v := hval0
  have hW' := hW
  obtain ⟨p, q, hA0, hV, rfl, hfz, hnd⟩ := hW
  have hA : DataW.TrodAll enc Try.prog W 0 (fun _ => true) true Try.f4.params.toList args.toList ds p := hA0
  rw [Try.params4] at hA hval
  obtain ⟨rfl, rfl⟩ := trodVars_none hV
  obtain ⟨v0, vs0, d0, ds0, p0, q0, hargs, rfl, rfl, h0, r0⟩ := trodAll_cons hA
  obtain ⟨v1, vs1, d1, ds1, p1, q1, rfl, rfl, rfl, h1, r1⟩ := trodAll_cons r0
  obtain ⟨rfl, rfl, rfl⟩ := trodAll_nil r1
  obtain rfl : args = #[v0, v1] := by cases args; simp_all
  clear hA0 hval0
  refine Calls.mono (R := fun e W' => e = .returned (.bool true) ∧ Ext W W') ?_ (fun e W' ⟨he, hx⟩ => by
    subst he
    exact ⟨_, rfl, law_post laidOut Try.underlying4 hW' hx rfl rfl rfl rfl (by kernel_rfl) rfl⟩)
  clear hW'
  exact (by obtain ⟨lo, hi, rfl⟩ := open_Range (hval 0 _ _ rfl rfl) h0; obtain ⟨lo', hi', rfl⟩ := open_Range (hval 1 _ _ rfl rfl) h1; exact walk lo hi lo' hi' W)

theorem over : Rows.fnExactRangeInRow.holds Try.pinned (OpenSpec.ofChange Rows.fnExactRangeInSpec) :=
  OpenClaim.holds_of_wide 4 Try.f4 rfl rfl rfl rfl rfl rfl rfl ⟨rfl, rfl, rfl, rfl, rfl⟩ rfl rfl rfl rfl rfl (by kernel_rfl) Try.func4 (by kernel_rfl)
    (of_decide_eq_true (by kernel_rfl)) (by unfold Func.isWrapper; first | (rw [if_pos (by decide +kernel)]; kernel_rfl) | (rw [if_neg (by decide +kernel)]; exact ⟨rfl, rfl⟩))
    (fun os started H enc _ => lifted os started H enc)

theorem proved : Rows.FnExactRangeInSaid := over
end Go.Proofs.Ytinfkgbgeajphaa.l2
