/- FnExactGoOk: for every input the law returns true. No condition. -/
import Derived.Test.YtinfkgbgeajphaaInts
import Derived.Test.YtinfkgbgeajphaaGo
namespace Go.Proofs.Ytinfkgbgeajphaa.l7
open Go.ChangeShapes Go.WideShapes Go.ChangeAt Go.RowKit Go.Joins Go.Deep Go.Sort
set_option linter.unusedVariables false
set_option linter.unusedSimpArgs false

theorem walk (k a t c r ck cx cv : Int) (w : World) : Calls Try.prog 8 #[.agg #[.int .i64 k, .int .i64 a, .int .i64 t, .int .i64 c, .int .i64 r, .int .i64 ck, .int .i64 cx, .int .i64 cv]] w fun e w' => e = .returned (.bool true) ∧ Ext w w' := by
  go_enter Try.func8, Try.ntmps8
  go_wp2_with (first | (go_at_call 38; refine (c_toGo _ _ _ _ _ _ _ _ _).mono ?_; rintro e w1 ⟨rfl, hx⟩; obtain ⟨hc1, hf1, hs1⟩ := hx.rules; (try simp at hs1); have z0 : w.heap.size < w1.heap.size := (by omega)) | (go_at_call 37; refine (c_sGoOk _ _ _ _ _ _ _ _ _).mono ?_; rintro e w1 ⟨rfl, hx⟩; obtain ⟨hc1, hf1, hs1⟩ := hx.rules; (try simp at hs1); have z0 : w.heap.size < w1.heap.size := (by omega)) | (go_at_call 39; refine (c_iGoOk _ _ _ _ _ _ _ _ _).mono ?_; rintro e w1 ⟨rfl, hx⟩; obtain ⟨hc1, hf1, hs1⟩ := hx.rules; (try simp at hs1); have z0 : w.heap.size < w1.heap.size := (by omega)))
  all_goals
    go_ret
    refine ⟨?_, ?_⟩
    · first | rfl | (simp at *)
    · (repeat (first | with_reducible exact ext_refl _ | with_reducible refine ext_to ?_ _ | with_reducible refine ext_set ?_ (by first | (simp; done) | (simp; omega) | omega) _ | with_reducible refine ext_drew ?_ | with_reducible refine Ext.trans ?_ (by assumption)))

set_option maxRecDepth 100000 in
theorem open_Go {H : Type} {enc : TypeId × Value → H} {W : World} {base b0 : Nat} {sp : Nat → Bool} {held : Bool} {v : Value} {d : DataW H} {p : List MemPlace}
    (hv : Value.okWide Try.prog W .any base 49 v) (h : DataW.Trod enc Try.prog W b0 sp held 49 v d p) : ∃ k a t c r ck cx cv, v = .agg #[.int .i64 k, .int .i64 a, .int .i64 t, .int .i64 c, .int .i64 r, .int .i64 ck, .int .i64 cx, .int .i64 cv] := by
  obtain ⟨zs, hl, rfl⟩ := open_ints 8 Try.underlying49 (by kernel_rfl) (by kernel_rfl) hv h
  obtain ⟨k, a, t, c, r, ck, cx, cv, rfl⟩ := list8 hl
  exact ⟨k, a, t, c, r, ck, cx, cv, rfl⟩

set_option maxRecDepth 100000 in
theorem lifted (os : Os) (started : os.Started) (H : Type) (enc : TypeId × Value → H) :
    ReturnsInHanded {} Try.checked os 8 .any (Rows.fnExactGoOkSpec.pre6 enc Try.prog Try.f8 Rows.fnExactGoOkRow.domain false) (Rows.fnExactGoOkSpec.post enc Try.prog Try.f8 false true false false) := by
  refine returnsInHanded_of_change (C := Try.checked) own started (by kernel_rfl) Try.func8
    (ChangeSpec.witness6 (enc := enc) (C := Try.checked) false ⟨#[], #[.agg #[.int .i64 0, .int .i64 0, .int .i64 0, .int .i64 0, .int .i64 0, .int .i64 0, .int .i64 0, .int .i64 0]], []⟩ 8 (by kernel_rfl) (by kernel_rfl) (by kernel_rfl) (by kernel_rfl)) ?_
  intro W base args ds gs before hval0 hW hcnd _
  have hval : ∀ (j : Nat) t v, Try.f8.params[j]? = some t → args[j]? = some v → Value.okWide Try.prog W .any base t v := hval0
  have hW' := hW
  obtain ⟨p, q, hA0, hV, rfl, hfz, hnd⟩ := hW
  have hA : DataW.TrodAll enc Try.prog W 0 (fun _ => true) true Try.f8.params.toList args.toList ds p := hA0
  rw [Try.params8] at hA hval
  obtain ⟨rfl, rfl⟩ := trodVars_none hV
  obtain ⟨v0, vs0, d0, ds0, p0, q0, hargs, rfl, rfl, h0, r0⟩ := trodAll_cons hA
  obtain ⟨rfl, rfl, rfl⟩ := trodAll_nil r0
  obtain rfl : args = #[v0] := by cases args; simp_all
  clear hA0 hval0
  refine Calls.mono (R := fun e W' => e = .returned (.bool true) ∧ Ext W W') ?_ (fun e W' ⟨he, hx⟩ => by
    subst he
    exact ⟨_, rfl, law_post laidOut Try.underlying4 hW' hx rfl rfl rfl rfl (by kernel_rfl) rfl⟩)
  clear hW'
  exact (by obtain ⟨k, a, t, c, r, ck, cx, cv, rfl⟩ := open_Go (hval 0 _ _ rfl rfl) h0; exact walk k a t c r ck cx cv W)

theorem over : Rows.fnExactGoOkRow.holds Try.pinned (OpenSpec.ofChange Rows.fnExactGoOkSpec) :=
  OpenClaim.holds_of_wide 8 Try.f8 rfl rfl rfl rfl rfl rfl rfl ⟨rfl, rfl, rfl, rfl, rfl⟩ rfl rfl rfl rfl rfl (by kernel_rfl) Try.func8 (by kernel_rfl)
    (of_decide_eq_true (by kernel_rfl)) (by unfold Func.isWrapper; first | (rw [if_pos (by decide +kernel)]; kernel_rfl) | (rw [if_neg (by decide +kernel)]; exact ⟨rfl, rfl⟩))
    (fun os started H enc _ => lifted os started H enc)

theorem proved : Rows.FnExactGoOkSaid := over
end Go.Proofs.Ytinfkgbgeajphaa.l7
