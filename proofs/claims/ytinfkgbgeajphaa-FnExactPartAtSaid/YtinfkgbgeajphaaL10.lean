/- FnExactPartAt: for every input the law returns true. No condition. -/
import Derived.Test.YtinfkgbgeajphaaOpP
import Derived.Test.YtinfkgbgeajphaaPa
namespace Go.Proofs.Ytinfkgbgeajphaa.l10
open Go.ChangeShapes Go.WideShapes Go.ChangeAt Go.RowKit Go.Joins Go.Deep Go.Sort
set_option linter.unusedVariables false

theorem walk (A : Option Addr) (c : Nat) (l : List Prt) (key : Int) (w : World) (ha : Rd Prt.enc 3 w A c l) : Calls Try.prog 11 #[.slice A l.length c, .int .i64 key] w fun e w' => e = .returned (.bool true) ∧ Ext w w' := by
  have hL := rd_len ha
  by_cases hn : l.length ≤ 1048576
  · have hE := eqB_self l
    go_enter Try.func11, Try.ntmps11
    go_wp2_with fail
    refine (c_szPartS_le _ _ _ _ (by omega) (by omega) hL (by omega) _).mono ?_
    rintro e w1 ⟨rfl, X1⟩
    go_wp2_with fail
    refine (c_toPartS A c l _ (ha.keep X1) hn).mono ?_
    rintro e w2 ⟨g2, rfl, o2, x2⟩
    have X2 := Ext.trans X1 x2
    go_wp2_with fail
    refine (c_sPartAt _ _ l key _ (o2.rd Prt.enc_len).2 (by omega)).mono ?_
    rintro e w3 ⟨rfl, x3⟩
    have X3 := Ext.trans X2 x3
    go_wp2_with fail
    refine (c_toPartS A c l _ (ha.keep X3) hn).mono ?_
    rintro e w4 ⟨g4, rfl, o4, x4⟩
    have X4 := Ext.trans X3 x4
    go_wp2_with fail
    refine (c_iPartAt _ _ l key _ (o4.rd Prt.enc_len).2 (by omega)).mono ?_
    rintro e w5 ⟨rfl, x5⟩
    have X5 := Ext.trans X4 x5
    go_wp2_with fail
    refine (c_toPartS A c l _ (ha.keep X5) hn).mono ?_
    rintro e w6 ⟨g6, rfl, o6, x6⟩
    have X6 := Ext.trans X5 x6
    go_wp2_with fail
    refine (c_eqPartS _ _ _ _ l l _ ((o4.kept (Ext.trans x5 x6)).rd Prt.enc_len).2 (o6.rd Prt.enc_len).2 (by omega) (by omega)).mono ?_
    rintro e w7 ⟨rfl, x7⟩
    go_wp2
    go_ret
    exact ⟨rfl, Ext.trans X6 x7⟩
  · go_enter Try.func11, Try.ntmps11
    go_wp2_with fail
    refine (c_szPartS_gt _ _ _ _ (by omega) (by omega) hL (by omega) _).mono ?_
    rintro e w1 ⟨rfl, X1⟩
    go_wp2
    go_ret
    exact ⟨rfl, X1⟩

set_option maxRecDepth 100000 in
theorem lifted (os : Os) (started : os.Started) (H : Type) (enc : TypeId × Value → H) :
    ReturnsInHanded {} Try.checked os 11 .any (Rows.fnExactPartAtSpec.pre6 enc Try.prog Try.f11 Rows.fnExactPartAtRow.domain false) (Rows.fnExactPartAtSpec.post enc Try.prog Try.f11 false true false false) := by
  refine returnsInHanded_of_change (C := Try.checked) own started (by kernel_rfl) Try.func11
    (ChangeSpec.witness6 (enc := enc) (C := Try.checked) false ⟨#[], #[.slice none 0 0, .int .i64 0], []⟩ 8 (by kernel_rfl) (by kernel_rfl) (by kernel_rfl) (by kernel_rfl)) ?_
  intro W base args ds gs before hval0 hW hcnd _
  have hval : ∀ (j : Nat) t v, Try.f11.params[j]? = some t → args[j]? = some v → Value.okWide Try.prog W .any base t v := hval0
  have hW' := hW
  obtain ⟨p, q, hA0, hV, rfl, hfz, hnd⟩ := hW
  have hA : DataW.TrodAll enc Try.prog W 0 (fun _ => true) true Try.f11.params.toList args.toList ds p := hA0
  rw [Try.params11] at hA hval
  obtain ⟨rfl, rfl⟩ := trodVars_none hV
  obtain ⟨v0, vs0, d0, ds0, p0, q0, hargs, rfl, rfl, h0, r0⟩ := trodAll_cons hA
  obtain ⟨v1, vs1, d1, ds1, p1, q1, rfl, rfl, rfl, h1, r1⟩ := trodAll_cons r0
  obtain ⟨rfl, rfl, rfl⟩ := trodAll_nil r1
  obtain rfl : args = #[v0, v1] := by cases args; simp_all
  clear hA0 hval0
  refine Calls.mono (R := fun e W' => e = .returned (.bool true) ∧ Ext W W') ?_ (fun e W' ⟨he, hx⟩ => by
    subst he
    exact ⟨_, rfl, law_post laidOut Try.underlying4 hW' hx rfl rfl rfl rfl (by kernel_rfl) rfl⟩)
  clear hW'
  exact (by obtain ⟨A, c, l, rfl, hr⟩ := open_PartS (hval 0 _ _ rfl rfl) h0; obtain ⟨key, rfl, _, _, _⟩ := open_int Try.underlying3 (hval 1 _ _ rfl rfl) h1; exact walk A c l key W hr)

theorem over : Rows.fnExactPartAtRow.holds Try.pinned (OpenSpec.ofChange Rows.fnExactPartAtSpec) :=
  OpenClaim.holds_of_wide 11 Try.f11 rfl rfl rfl rfl rfl rfl rfl ⟨rfl, rfl, rfl, rfl, rfl⟩ rfl rfl rfl rfl rfl (by kernel_rfl) Try.func11 (by kernel_rfl)
    (of_decide_eq_true (by kernel_rfl)) (by unfold Func.isWrapper; first | (rw [if_pos (by decide +kernel)]; kernel_rfl) | (rw [if_neg (by decide +kernel)]; exact ⟨rfl, rfl⟩))
    (fun os started H enc _ => lifted os started H enc)

theorem proved : Rows.FnExactPartAtSaid := over
end Go.Proofs.Ytinfkgbgeajphaa.l10
