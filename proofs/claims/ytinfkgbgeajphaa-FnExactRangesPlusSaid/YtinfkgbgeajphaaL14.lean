/- FnExactRangesPlus: for every input the law returns true. No condition. -/
import Derived.Test.YtinfkgbgeajphaaOpR
import Derived.Test.YtinfkgbgeajphaaTurn2
namespace Go.Proofs.Ytinfkgbgeajphaa.l14
open Go.ChangeShapes Go.WideShapes Go.ChangeAt Go.RowKit Go.Joins Go.Deep Go.Sort
set_option linter.unusedVariables false

def isRow (l : List Rng) (v : Value) (W : World) : Prop := ∃ A c, v = .slice A l.length c ∧ Rd Rng.enc 2 W A c l
theorem isRow.mono {l : List Rng} : Mono (isRow l) := fun v _ _ ⟨A, c, h, r⟩ hx => ⟨A, c, h, r.keep hx⟩
theorem isRow.rd {l : List Rng} {A : Option Addr} {n c : Nat} {W : World} (h : isRow l (.slice A n c) W) : Rd Rng.enc 2 W A c l := by
  obtain ⟨A', c', h1, h2⟩ := h
  simp only [Value.slice.injEq] at h1
  obtain ⟨rfl, _, rfl⟩ := h1
  exact h2
def isRes (l : List Rng) (b : Bool) (v : Value) (W : World) : Prop := ∃ A c, v = .tuple #[.slice A l.length c, .bool b] ∧ Rd Rng.enc 2 W A c l
theorem isRes.mono {l : List Rng} {b : Bool} : Mono (isRes l b) := fun v _ _ ⟨A, c, h, r⟩ hx => ⟨A, c, h, r.keep hx⟩
theorem isRes.rd {l : List Rng} {A : Option Addr} {n c : Nat} {b : Bool} {W : World} (h : isRes l b (.tuple #[.slice A n c, .bool b]) W) : Rd Rng.enc 2 W A c l := by
  obtain ⟨A', c', h1, h2⟩ := h
  simp at h1
  obtain ⟨rfl, _, rfl⟩ := h1
  exact h2
theorem c_row (A : Option Addr) (c : Nat) (l : List Rng) (w : World) (ha : Rd Rng.enc 2 w A c l) (hn : l.length ≤ 1048576) :
    Calls Try.prog 29 #[.slice A l.length c] w fun e w' => ∃ v, e = .returned v ∧ isRow l v w' ∧ Ext w w' :=
  (c_toRangeS A c l w ha hn).mono fun e w' ⟨g, he, o, x⟩ => ⟨_, he, ⟨_, _, rfl, (o.rd Rng.enc_len).2⟩, x⟩

set_option maxHeartbeats 2000000 in
theorem walk (A : Option Addr) (c : Nat) (l : List Rng) (lo hi : Int) (w : World) (ha : Rd Rng.enc 2 w A c l) : Calls Try.prog 14 #[.slice A l.length c, .agg #[.int .i64 lo, .int .i64 hi]] w fun e w' => e = .returned (.bool true) ∧ Ext w w' := by
  have hL := rd_len ha
  by_cases hn : l.length ≤ 1048576
  · obtain ⟨r, hr⟩ : ∃ r, turnV l ⟨lo, hi⟩ true = r := ⟨_, rfl⟩
    obtain ⟨b, hb⟩ : ∃ b, turnB l ⟨lo, hi⟩ true = b := ⟨_, rfl⟩
    have hrl : r.length ≤ 16 := by rw [← hr]; exact turnV_len _ _ _
    have HS := Lib.hid (show ∀ (A : Option Addr) (c : Nat) (w : World), Rd Rng.enc 2 w A c l → Calls Try.prog 57 #[.slice A l.length c, .agg #[.int .i64 lo, .int .i64 hi]] w fun e w' => ∃ v, e = .returned v ∧ isRes r b v w' ∧ Ext w w' from fun A c w h => by
      rw [← hr, ← hb]
      exact (c_sRangesPlus A c l lo hi w h (by omega)).mono fun e w' ⟨v, he, o, x⟩ => by obtain ⟨A', c', rfl⟩ := o.form; exact ⟨_, he, ⟨_, _, rfl, (o.rd Rng.enc_len).2⟩, x⟩)
    have HI := Lib.hid (show ∀ (A : Option Addr) (c : Nat) (w : World), Rd Rng.enc 2 w A c l → Calls Try.prog 58 #[.slice A l.length c, .agg #[.int .i64 lo, .int .i64 hi]] w fun e w' => ∃ v, e = .returned (.tuple #[v, .bool b]) ∧ Ow Rng.enc 25 2 w' w.heap.size v r ∧ Ext w w' from fun A c w h => by rw [← hr, ← hb]; exact c_iRangesPlus A c l lo hi w h (by omega))
    clear hr hb
    have hE := eqB_self l
    have hR := eqB_self r
    have hbb : (b != b) = false := by simp
    go_enter Try.func14, Try.ntmps14
    go_wp2_with fail
    refine (c_szRangeS_le _ _ _ _ (by omega) (by omega) hL (by omega) _).mono ?_
    rintro e w1 ⟨rfl, x1⟩
    have B1 := x1.box (hNew rfl)
    have X1 : Ext w w1 := Ext.trans (ext_alloc _ _) x1
    have C1 := bx_cell B1
    have z1 := bx_lt B1
    go_wp2_with fail
    (refine wp_region_mix' (fun _ _ _ _ _ hq => hq) 10 (by kernel_rfl) (by kernel_rfl) (fun hg => ?_); simp only [headOps, List.take_succ_cons, List.take_zero, List.filter_cons, List.filter_nil, isAlloc, Bool.not_false, Bool.false_eq_true, if_true, if_false, List.append_nil, List.drop_succ_cons, List.drop_zero])
    (repeat (refine wpMix_plain rfl rfl ?_; go_big_quiet_step (fail); refine wpQuiet_nil ?_))
    refine wpMix_call (isRow l) rfl rfl rfl (enters Try.func29 (by kernel_rfl) rfl) isRow.mono (fun W hW => c_row A c l W (ha.keep (Ext.trans X1 hW)) hn) rfl ?_
    rintro v ⟨W0, _, A2, c2, rfl, _⟩
    simp only [Act.put, List.setIfInBounds_toArray, List.set_cons_zero, List.set_cons_succ]
    (repeat (refine wpMix_plain rfl rfl ?_; go_big_quiet_step (fail); refine wpQuiet_nil ?_))
    (refine wpMix_det rfl rfl rfl (enters Try.func20 (by kernel_rfl) rfl) (fun W hW => c_toRange _ _ W) rfl ?_; simp only [Act.put, List.setIfInBounds_toArray, List.set_cons_zero, List.set_cons_succ])
    refine wpMix_call (isRes r b) rfl rfl rfl (enters Try.func57 (by kernel_rfl) rfl) isRes.mono (fun W hW => HS.out _ _ W (isRow.rd hW.2)) rfl ?_
    rintro v ⟨W1, _, A3, c3, rfl, _⟩
    simp only [Act.put, List.setIfInBounds_toArray, List.set_cons_zero, List.set_cons_succ]
    (repeat (refine wpMix_plain rfl rfl ?_; go_big_quiet_step (fail); refine wpQuiet_nil ?_))
    (refine wpMix_nil ?_; intro w3 hw3)
    obtain ⟨⟨x3, _⟩, q3⟩ := hw3
    have q3 := q3.rd
    have X3 := Ext.trans X1 x3
    have B3 := x3.box B1
    clear B1 C1 z1
    have C3 := bx_cell B3
    have z3 := bx_lt B3
    go_wp2_with fail
    refine (c_toRangeS A c l _ (ha.keep X3) hn).mono ?_
    rintro e w4 ⟨g4, rfl, o4, x4⟩
    have X4 := Ext.trans X3 x4
    have B4 := x4.box B3
    clear C3 z3
    have C4 := bx_cell B4
    have z4 := bx_lt B4
    go_wp2_with fail
    refine (c_toRange lo hi _).mono ?_
    rintro e w4' ⟨rfl, x4'⟩
    have X4' := Ext.trans X4 x4'
    clear C4 z4
    go_wp2_with fail
    refine (HI.out _ _ _ ((o4.rd Rng.enc_len).2.keep x4')).mono ?_
    rintro e w5 ⟨v5, rfl, o5, x5⟩
    obtain ⟨A5, c5, rfl⟩ := o5.form
    have X5 := Ext.trans X4' x5
    have Y5 := Ext.trans x4 (Ext.trans x4' x5)
    have q4 := o4.kept (Ext.trans x4' x5)
    go_wp2_with fail
    refine (c_eqRangeS _ _ _ _ r r _ (o5.rd Rng.enc_len).2 (q3.keep Y5) (by omega) (by omega)).mono ?_
    rintro e w6 ⟨rfl, x6⟩
    have X6 := Ext.trans X5 x6
    go_wp2_with fail
    refine (c_toRangeS A c l _ (ha.keep X6) hn).mono ?_
    rintro e w7 ⟨g7, rfl, o7, x7⟩
    have X7 := Ext.trans X6 x7
    go_wp2_with fail
    refine (c_eqRangeS _ _ _ _ l l _ ((q4.kept (Ext.trans x6 x7)).rd Rng.enc_len).2 (o7.rd Rng.enc_len).2 (by omega) (by omega)).mono ?_
    rintro e w8 ⟨rfl, x8⟩
    have X8 := Ext.trans X7 x8
    have y8 := Ext.trans x6 (Ext.trans x7 x8)
    have Y8 := Ext.trans Y5 y8
    go_wp2_with fail
    refine (c_markRangeS _ _ l _ 1 _ (q4.kept y8) (by omega) (by omega) (by omega)).mono ?_
    rintro e w9 ⟨rfl, _, g9⟩
    have B8 := (Ext.trans x4' (Ext.trans x5 (Ext.trans x6 (Ext.trans x7 x8)))).box B4
    have hwB := bx_lt B3
    have L4 : w3.heap.size ≤ g4 ∧ g4 < w4.heap.size := o4.lt g4 rfl
    have L5 := o5.lt
    have s3 := X3.size
    have s4 := Ext.trans x4 x4'
    have s5 := x4'.size
    have X9 : Ext w w9 := grownBy_ext g9 X8 (by show w.heap.size ≤ g4; omega)
    have Y9 : Ext w3 w9 := grownBy_ext g9 Y8 (by show w3.heap.size ≤ g4; omega)
    have p5 := (o5.kept y8).beside g9 (fun k hk => by have := L5 k hk; simp only [Value.ownBlock, ne_eq, Option.some.injEq]; omega)
    have B9 := box_beside B8 g9 (by intro h; have h1 : some g4 = some w.heap.size := h; simp only [Option.some.injEq] at h1; omega)
    clear g9 X8 y8 q4 Y8 B8
    go_wp2_with fail
    refine (c_eqRangeS _ _ _ _ r r _ (p5.rd Rng.enc_len).2 (q3.keep Y9) (by omega) (by omega)).mono ?_
    rintro e w10 ⟨rfl, x10⟩
    have X10 := Ext.trans X9 x10
    have Y10 := Ext.trans Y9 x10
    go_wp2_with fail
    refine (c_markRangeS _ _ r _ 1 _ (p5.kept x10) (by omega) (by omega) (by omega)).mono ?_
    rintro e w11 ⟨rfl, m11, g11⟩
    have X11 : Ext w w11 := ext_grown X10 g11 (fun g hg => by have := L5 g hg; omega)
    have Y11 : Ext w3 w11 := ext_grown Y10 g11 (fun g hg => by have := L5 g hg; omega)
    have B11 := box_beside (x10.box B9) g11 (fun h => by have := L5 _ h; omega)
    clear g11 X10 Y10 B9
    have hml := marksRng_length 1 r.length
    go_wp2_with fail
    refine (c_heldRangeS A5 c5 r.length 1 _ (by have := (m11.rd Rng.enc_len).2; exact this) (by omega) (by omega) (by omega)).mono ?_
    rintro e w12 ⟨rfl, x12⟩
    have X12 := Ext.trans X11 x12
    have B12 := x12.box B11
    clear B11
    have C12 := bx_cell B12
    have z12 := bx_lt B12
    go_wp2_with fail
    (refine wp_region_mix' (fun _ _ _ _ _ hq => hq) 10 (by kernel_rfl) (by kernel_rfl) (fun hg => ?_); simp only [headOps, List.take_succ_cons, List.take_zero, List.filter_cons, List.filter_nil, isAlloc, Bool.not_false, Bool.false_eq_true, if_true, if_false, List.append_nil, List.drop_succ_cons, List.drop_zero])
    (repeat (refine wpMix_plain rfl rfl ?_; go_big_quiet_step (fail); refine wpQuiet_nil ?_))
    refine wpMix_call (isRow l) rfl rfl rfl (enters Try.func29 (by kernel_rfl) rfl) isRow.mono (fun W hW => c_row A c l W (ha.keep (Ext.trans X12 hW)) hn) rfl ?_
    rintro v ⟨W0, _, A6, c6, rfl, _⟩
    simp only [Act.put, List.setIfInBounds_toArray, List.set_cons_zero, List.set_cons_succ]
    (repeat (refine wpMix_plain rfl rfl ?_; go_big_quiet_step (fail); refine wpQuiet_nil ?_))
    (refine wpMix_det rfl rfl rfl (enters Try.func20 (by kernel_rfl) rfl) (fun W hW => c_toRange _ _ W) rfl ?_; simp only [Act.put, List.setIfInBounds_toArray, List.set_cons_zero, List.set_cons_succ])
    refine wpMix_call (isRes r b) rfl rfl rfl (enters Try.func58 (by kernel_rfl) rfl) isRes.mono (fun W hW => (HI.out _ _ W (isRow.rd hW.2)).mono fun e w' ⟨v, he, o, x⟩ => by obtain ⟨A', c', rfl⟩ := o.form; exact ⟨_, he, ⟨_, _, rfl, (o.rd Rng.enc_len).2⟩, x⟩) rfl ?_
    rintro v ⟨W1, _, A7, c7, rfl, _⟩
    simp only [Act.put, List.setIfInBounds_toArray, List.set_cons_zero, List.set_cons_succ]
    (repeat (refine wpMix_plain rfl rfl ?_; go_big_quiet_step (fail); refine wpQuiet_nil ?_))
    (refine wpMix_nil ?_; intro w13 hw13)
    obtain ⟨⟨x13, _⟩, q7⟩ := hw13
    have q7 := q7.rd
    have X13 := Ext.trans X12 x13
    have Y13 := Ext.trans Y11 (Ext.trans x12 x13)
    clear C12 z12 B12
    go_wp2_with fail
    refine (c_eqRangeS _ _ _ _ r r _ q7 (q3.keep Y13) (by omega) (by omega)).mono ?_
    rintro e w15 ⟨rfl, x15⟩
    have X15 := Ext.trans X13 x15
    go_wp2_with fail
    refine (c_heldRangeS A5 c5 r.length 1 _ (by have := ((m11.kept (Ext.trans x12 (Ext.trans x13 x15))).rd Rng.enc_len).2; exact this) (by omega) (by omega) (by omega)).mono ?_
    rintro e w16 ⟨rfl, x16⟩
    go_wp2
    go_ret
    exact ⟨rfl, Ext.trans X15 x16⟩
  · go_enter Try.func14, Try.ntmps14
    go_wp2_with fail
    refine (c_szRangeS_gt _ _ _ _ (by omega) (by omega) hL (by omega) _).mono ?_
    rintro e w1 ⟨rfl, X1⟩
    go_wp2
    go_ret
    exact ⟨rfl, Ext.trans (ext_alloc _ _) X1⟩

set_option maxRecDepth 100000 in
theorem lifted (os : Os) (started : os.Started) (H : Type) (enc : TypeId × Value → H) :
    ReturnsInHanded {} Try.checked os 14 .any (Rows.fnExactRangesPlusSpec.pre6 enc Try.prog Try.f14 Rows.fnExactRangesPlusRow.domain false) (Rows.fnExactRangesPlusSpec.post enc Try.prog Try.f14 false true false false) := by
  refine returnsInHanded_of_change (C := Try.checked) own started (by kernel_rfl) Try.func14
    (ChangeSpec.witness6 (enc := enc) (C := Try.checked) false ⟨#[], #[.slice none 0 0, .agg #[.int .i64 0, .int .i64 0]], []⟩ 8 (by kernel_rfl) (by kernel_rfl) (by kernel_rfl) (by kernel_rfl)) ?_
  intro W base args ds gs before hval0 hW hcnd _
  have hval : ∀ (j : Nat) t v, Try.f14.params[j]? = some t → args[j]? = some v → Value.okWide Try.prog W .any base t v := hval0
  have hW' := hW
  obtain ⟨p, q, hA0, hV, rfl, hfz, hnd⟩ := hW
  have hA : DataW.TrodAll enc Try.prog W 0 (fun _ => true) true Try.f14.params.toList args.toList ds p := hA0
  rw [Try.params14] at hA hval
  obtain ⟨rfl, rfl⟩ := trodVars_none hV
  obtain ⟨v0, vs0, d0, ds0, p0, q0, hargs, rfl, rfl, h0, r0⟩ := trodAll_cons hA
  obtain ⟨v1, vs1, d1, ds1, p1, q1, rfl, rfl, rfl, h1, r1⟩ := trodAll_cons r0
  obtain ⟨rfl, rfl, rfl⟩ := trodAll_nil r1
  obtain rfl : args = #[v0, v1] := by cases args; simp_all
  clear hA0 hval0
  refine Calls.mono (R := fun e W' => e = .returned (.bool true) ∧ Ext W W') ?_ (fun e W' ⟨he, hx⟩ => by
    subst he
    exact ⟨_, rfl, law_post laidOut Try.underlying4 hW' hx rfl rfl rfl rfl (by kernel_rfl) rfl⟩)
  clear hW'
  exact (by obtain ⟨A, c, l, rfl, hr⟩ := open_RangeS (hval 0 _ _ rfl rfl) h0; obtain ⟨lo, hi, rfl⟩ := open_Range (hval 1 _ _ rfl rfl) h1; exact walk A c l lo hi W hr)

theorem over : Rows.fnExactRangesPlusRow.holds Try.pinned (OpenSpec.ofChange Rows.fnExactRangesPlusSpec) :=
  OpenClaim.holds_of_wide 14 Try.f14 rfl rfl rfl rfl rfl rfl rfl ⟨rfl, rfl, rfl, rfl, rfl⟩ rfl rfl rfl rfl rfl (by kernel_rfl) Try.func14 (by kernel_rfl)
    (of_decide_eq_true (by kernel_rfl)) (by unfold Func.isWrapper; first | (rw [if_pos (by decide +kernel)]; kernel_rfl) | (rw [if_neg (by decide +kernel)]; exact ⟨rfl, rfl⟩))
    (fun os started H enc _ => lifted os started H enc)

theorem proved : Rows.FnExactRangesPlusSaid := over
end Go.Proofs.Ytinfkgbgeajphaa.l14
