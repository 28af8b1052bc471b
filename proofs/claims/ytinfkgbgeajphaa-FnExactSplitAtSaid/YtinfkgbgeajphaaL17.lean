/- FnExactSplitAt: for every input the law returns true. No condition. -/
import Derived.Test.YtinfkgbgeajphaaOpP
import Derived.Test.YtinfkgbgeajphaaSSpl
namespace Go.Proofs.Ytinfkgbgeajphaa.l17
open Go.ChangeShapes Go.WideShapes Go.ChangeAt Go.RowKit Go.Joins Go.Deep Go.Sort
set_option linter.unusedVariables false

set_option maxHeartbeats 1000000 in
theorem walk (A : Option Addr) (c : Nat) (l : List Prt) (key : Int) (w : World) (ha : Rd Prt.enc 3 w A c l) : Calls Try.prog 17 #[.slice A l.length c, .int .i64 key] w fun e w' => e = .returned (.bool true) ∧ Ext w w' := by
  have hL := rd_len ha
  by_cases hn : l.length ≤ 1048576
  · obtain ⟨r, hr⟩ : ∃ r, spV l key = r := ⟨_, rfl⟩
    obtain ⟨b, hb⟩ : ∃ b, spB l key = b := ⟨_, rfl⟩
    have hrl : r.length ≤ 1048577 := by rw [← hr]; exact Nat.le_trans (spV_len l key) (by omega)
    have HS := Lib.hid (show ∀ (A : Option Addr) (c : Nat) (w : World), Rd Prt.enc 3 w A c l → Calls Try.prog 63 #[.slice A l.length c, .int .i64 key] w fun e w' => ∃ v, e = .returned (.tuple #[v, .bool b]) ∧ Ow Prt.enc 82 3 w' w.heap.size v r ∧ Ext w w' from fun A c w h => by rw [← hr, ← hb]; exact c_sSplitAt A c l key w h hn)
    have HI := Lib.hid (show ∀ (A : Option Addr) (c : Nat) (w : World), Rd Prt.enc 3 w A c l → Calls Try.prog 64 #[.slice A l.length c, .int .i64 key] w fun e w' => ∃ v, e = .returned (.tuple #[v, .bool b]) ∧ Ow Prt.enc 82 3 w' w.heap.size v r ∧ Ext w w' from fun A c w h => by rw [← hr, ← hb]; exact c_iSplitAt A c l key w h hn)
    clear hr hb
    have hE := eqB_self l
    have hR := eqB_self r
    have hbb : (b != b) = false := by simp
    go_enter Try.func17, Try.ntmps17
    go_wp2_with fail
    refine (c_szPartS_le _ _ _ _ (by omega) (by omega) hL (by omega) _).mono ?_
    rintro e w1 ⟨rfl, X1⟩
    go_wp2_with fail
    refine (c_toPartS A c l _ (ha.keep X1) hn).mono ?_
    rintro e w2 ⟨g2, rfl, o2, x2⟩
    have X2 := Ext.trans X1 x2
    go_wp2_with fail
    refine (HS.out _ _ _ (o2.rd Prt.enc_len).2).mono ?_
    rintro e w3 ⟨v3, rfl, o3, x3⟩
    obtain ⟨A3, c3, rfl⟩ := o3.form
    have X3 := Ext.trans X2 x3
    go_wp2_with fail
    refine (c_toPartS A c l _ (ha.keep X3) hn).mono ?_
    rintro e w4 ⟨g4, rfl, o4, x4⟩
    have X4 := Ext.trans X3 x4
    go_wp2_with fail
    refine (HI.out _ _ _ (o4.rd Prt.enc_len).2).mono ?_
    rintro e w5 ⟨v5, rfl, o5, x5⟩
    obtain ⟨A5, c5, rfl⟩ := o5.form
    have X5 := Ext.trans X4 x5
    have q3 := o3.kept (Ext.trans x4 x5)
    have q4 := o4.kept x5
    go_wp2_with fail
    refine (c_eqPartS _ _ _ _ r r _ (o5.rd Prt.enc_len).2 (q3.rd Prt.enc_len).2 (by omega) (by omega)).mono ?_
    rintro e w6 ⟨rfl, x6⟩
    have X6 := Ext.trans X5 x6
    go_wp2_with fail
    refine (c_toPartS A c l _ (ha.keep X6) hn).mono ?_
    rintro e w7 ⟨g7, rfl, o7, x7⟩
    have X7 := Ext.trans X6 x7
    go_wp2_with fail
    refine (c_eqPartS _ _ _ _ l l _ ((q4.kept (Ext.trans x6 x7)).rd Prt.enc_len).2 (o7.rd Prt.enc_len).2 (by omega) (by omega)).mono ?_
    rintro e w8 ⟨rfl, x8⟩
    have X8 := Ext.trans X7 x8
    have y8 := Ext.trans x6 (Ext.trans x7 x8)
    go_wp2_with fail
    refine (c_markPartS _ _ l _ 1 _ (q4.kept y8) (by omega) (by omega) (by omega)).mono ?_
    rintro e w9 ⟨rfl, _, g9⟩
    have B4 : w3.heap.size ≤ g4 ∧ g4 < w4.heap.size := o4.lt g4 rfl
    have L5 := o5.lt
    have L3 := o3.lt
    have s3 := X3.size
    have s4 := x4.size
    have X9 : Ext w w9 := grownBy_ext g9 X8 (by show w.heap.size ≤ g4; omega)
    have p5 := (o5.kept y8).beside g9 (fun k hk => by have := L5 k hk; simp only [Value.ownBlock, ne_eq, Option.some.injEq]; omega)
    have p3 := (q3.kept y8).beside g9 (fun k hk => by have := L3 k hk; simp only [Value.ownBlock, ne_eq, Option.some.injEq]; omega)
    clear g9 X8 y8 q3 q4
    go_wp2_with fail
    refine (c_eqPartS _ _ _ _ r r _ (p5.rd Prt.enc_len).2 (p3.rd Prt.enc_len).2 (by omega) (by omega)).mono ?_
    rintro e w10 ⟨rfl, x10⟩
    have X10 := Ext.trans X9 x10
    go_wp2_with fail
    refine (c_markPartS _ _ r _ 1 _ (p5.kept x10) (by omega) (by omega) (by omega)).mono ?_
    rintro e w11 ⟨rfl, m11, g11⟩
    have X11 : Ext w w11 := ext_grown X10 g11 (fun g hg => by have := L5 g hg; omega)
    have r3 := (p3.kept x10).beside g11 (fun k hk hq => by have := L3 k hk; have := L5 k hq; omega)
    clear g11 X10
    have hml := marksPrt_length 1 r.length
    go_wp2_with fail
    refine (c_heldPartS A5 c5 r.length 1 _ (by have := (m11.rd Prt.enc_len).2; exact this) (by omega) (by omega) (by omega)).mono ?_
    rintro e w12 ⟨rfl, x12⟩
    have X12 := Ext.trans X11 x12
    go_wp2_with fail
    refine (c_toPartS A c l _ (ha.keep X12) hn).mono ?_
    rintro e w13 ⟨g13, rfl, o13, x13⟩
    have X13 := Ext.trans X12 x13
    go_wp2_with fail
    refine (HI.out _ _ _ (o13.rd Prt.enc_len).2).mono ?_
    rintro e w14 ⟨v14, rfl, o14, x14⟩
    obtain ⟨A14, c14, rfl⟩ := o14.form
    have X14 := Ext.trans X13 x14
    have y14 := Ext.trans x12 (Ext.trans x13 x14)
    go_wp2_with fail
    refine (c_eqPartS _ _ _ _ r r _ (o14.rd Prt.enc_len).2 ((r3.kept y14).rd Prt.enc_len).2 (by omega) (by omega)).mono ?_
    rintro e w15 ⟨rfl, x15⟩
    have X15 := Ext.trans X14 x15
    go_wp2_with fail
    refine (c_heldPartS A5 c5 r.length 1 _ (by have := ((m11.kept (Ext.trans y14 x15)).rd Prt.enc_len).2; exact this) (by omega) (by omega) (by omega)).mono ?_
    rintro e w16 ⟨rfl, x16⟩
    go_wp2
    go_ret
    exact ⟨rfl, Ext.trans X15 x16⟩
  · go_enter Try.func17, Try.ntmps17
    go_wp2_with fail
    refine (c_szPartS_gt _ _ _ _ (by omega) (by omega) hL (by omega) _).mono ?_
    rintro e w1 ⟨rfl, X1⟩
    go_wp2
    go_ret
    exact ⟨rfl, X1⟩

set_option maxRecDepth 100000 in
theorem lifted (os : Os) (started : os.Started) (H : Type) (enc : TypeId × Value → H) :
    ReturnsInHanded {} Try.checked os 17 .any (Rows.fnExactSplitAtSpec.pre6 enc Try.prog Try.f17 Rows.fnExactSplitAtRow.domain false) (Rows.fnExactSplitAtSpec.post enc Try.prog Try.f17 false true false false) := by
  refine returnsInHanded_of_change (C := Try.checked) own started (by kernel_rfl) Try.func17
    (ChangeSpec.witness6 (enc := enc) (C := Try.checked) false ⟨#[], #[.slice none 0 0, .int .i64 0], []⟩ 8 (by kernel_rfl) (by kernel_rfl) (by kernel_rfl) (by kernel_rfl)) ?_
  intro W base args ds gs before hval0 hW hcnd _
  have hval : ∀ (j : Nat) t v, Try.f17.params[j]? = some t → args[j]? = some v → Value.okWide Try.prog W .any base t v := hval0
  have hW' := hW
  obtain ⟨p, q, hA0, hV, rfl, hfz, hnd⟩ := hW
  have hA : DataW.TrodAll enc Try.prog W 0 (fun _ => true) true Try.f17.params.toList args.toList ds p := hA0
  rw [Try.params17] at hA hval
  obtain ⟨rfl, rfl⟩ := trodVars_none hV
  obtain ⟨v0, vs0, d0, ds0, p0, q0, hargs, rfl, rfl, h0, r0⟩ := trodAll_cons hA
  obtain ⟨v1, vs1, d1, ds1, p1, q1, rfl, rfl, rfl, h1, r1⟩ := trodAll_cons r0
  obtain ⟨rfl, rfl, rfl⟩ := trodAll_nil r1
  obtain rfl : args = #[v0, v1] := by cases args; simp_all
  clear hA0 hval0
  refine Calls.mono (R := fun e W' => e = .returned (.bool true) ∧ Ext W W') ?_ (fun e W' ⟨he, hx⟩ => by
    subst he
    exact ⟨_, rfl, law_post laidOut Try.underlying4 hW' hx rfl rfl rfl rfl (by kernel_rfl) rfl⟩)
  clear hW'
  exact (by obtain ⟨A, c, l, rfl, hr⟩ := open_PartS (hval 0 _ _ rfl rfl) h0; obtain ⟨key, rfl, _, _, _⟩ := open_int Try.underlying3 (hval 1 _ _ rfl rfl) h1; exact walk A c l key W hr)

theorem over : Rows.fnExactSplitAtRow.holds Try.pinned (OpenSpec.ofChange Rows.fnExactSplitAtSpec) :=
  OpenClaim.holds_of_wide 17 Try.f17 rfl rfl rfl rfl rfl rfl rfl ⟨rfl, rfl, rfl, rfl, rfl⟩ rfl rfl rfl rfl rfl (by kernel_rfl) Try.func17 (by kernel_rfl)
    (of_decide_eq_true (by kernel_rfl)) (by unfold Func.isWrapper; first | (rw [if_pos (by decide +kernel)]; kernel_rfl) | (rw [if_neg (by decide +kernel)]; exact ⟨rfl, rfl⟩))
    (fun os started H enc _ => lifted os started H enc)

theorem proved : Rows.FnExactSplitAtSaid := over
end Go.Proofs.Ytinfkgbgeajphaa.l17
