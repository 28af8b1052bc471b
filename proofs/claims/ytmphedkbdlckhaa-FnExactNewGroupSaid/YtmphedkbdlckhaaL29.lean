/- FnExactNewGroup: for every input the law returns true. No condition. -/
import Derived.Test.YtmphedkbdlckhaaNm
import Derived.Test.YtmphedkbdlckhaaLaw
namespace Go.Proofs.Ytmphedkbdlckhaa.l29
open Go.ChangeShapes Go.WideShapes Go.ChangeAt Go.RowKit Go.Joins Go.Deep Go.Sort
set_option linter.unusedVariables false

theorem rowR {w : World} {z : Int} {A : Option Addr} {c n : Nat} (h : Rd RpE.enc 13 w A c (newRow z n)) : GpR w ⟨A, c, none, 0, none, 0⟩ (newRow z n) ⟨z, (newRow z n).map RpE.r, 0, [], []⟩ :=
  ⟨⟨h, newRow_rd w z n⟩, rd_nil _ _ _, rd_nil _ _ _, rfl⟩
theorem c_eqNew (z : Int) (A B : Option Addr) (n c d : Nat) (hn : n ≤ 5) (w : World) (ha : Rd RpE.enc 13 w A c (newRow z n)) (hb : Rd RpE.enc 13 w B d (newRow z n)) :
    Calls Try.prog 6 #[.agg (NG.cells z A n c), .agg (NG.cells z B n d)] w fun e w' => e = .returned (.bool true) ∧ Ext w w' := by
  have hl := newRow_len z n
  have h := c_eqGroup_same ⟨A, c, none, 0, none, 0⟩ ⟨B, d, none, 0, none, 0⟩ (newRow z n) (newRow z n) ⟨z, (newRow z n).map RpE.r, 0, [], []⟩ (newRow_small z n) w (rowR ha) (rowR hb) (by omega) (by simp) (by simp)
  rw [hl] at h
  exact h

set_option maxRecDepth 100000 in
set_option maxHeartbeats 4000000 in
theorem walk (of : Int) (w : World) : Calls Try.prog 3 #[.int .i64 of] w fun e w' => e = .returned (.bool true) ∧ Ext w w' := by
  obtain ⟨z, n, hn, hS, hI⟩ : ∃ (z : Int) (n : Nat), n ≤ 5 ∧ (∀ W, Calls Try.prog 4 #[.int .i64 of] W fun e w' => ∃ A c, e = .returned (.agg (NG.cells z A n c)) ∧ Ow RpE.enc 42 13 w' W.heap.size (.slice A n c) (newRow z n) ∧ Ext W w') ∧
      (∀ W, Calls Try.prog 5 #[.int .i64 of] W fun e w' => ∃ A c, e = .returned (.agg (NG.cells z A n c)) ∧ Ow RpE.enc 42 13 w' W.heap.size (.slice A n c) (newRow z n) ∧ Ext W w') := by
    cases q : ofB of
    · refine ⟨0, 0, by omega, fun W => (c_sNewGroup0 of q W).mono ?_, fun W => (c_iNewGroup0 of q W).mono ?_⟩
      · rintro e w1 ⟨rfl, x1⟩
        exact ⟨none, 0, rfl, World.ownsRow_nil _ _ _ _, x1⟩
      · rintro e w1 ⟨rfl, x1⟩
        exact ⟨none, 0, rfl, World.ownsRow_nil _ _ _ _, x1⟩
    · have hb := ofB_b q
      obtain ⟨N, rfl⟩ : ∃ N : Nat, of = N := ⟨of.toNat, by omega⟩
      exact ⟨(N : Int), N, by omega, fun W => c_sNewGroup N N q rfl W, fun W => c_iNewGroup N N q rfl W⟩
  have HS := Lib.hid hS
  have HI := Lib.hid hI
  clear hS hI
  go_enter Try.func3, Try.ntmps3
  go_wp2_with fail
  refine (HS.out _).mono ?_
  rintro e w1 ⟨A1, c1, rfl, o1, x1⟩
  have X1 := ext_alloc w1 (.cells (NG.cells z A1 n c1) 28)
  have O1 := Lib.hid (o1.kept X1)
  have lt1 := Lib.hid (fun k hk => (o1.inB k hk).2)
  clear o1
  go_wp2_with fail
  refine (HI.out _).mono ?_
  rintro e w2 ⟨A2, c2, rfl, o2, x2⟩
  have X2 := ext_alloc w2 (.cells (NG.cells z A2 n c2) 28)
  have B3 := X2.box (x2.box (hNew (w := w1) (o := .cells (NG.cells z A1 n c1) 28) rfl))
  have B4 := hNew (w := w2) (o := .cells (NG.cells z A2 n c2) 28) rfl
  have O2 := Lib.hid (o2.kept X2)
  have O12 := Lib.hid (O1.out.kept (Ext.trans x2 X2))
  have XW2 := Lib.hid (Ext.trans x1 (Ext.trans X1 (Ext.trans x2 X2)))
  have b3 := bx_cell B3
  have b4 := bx_cell B4
  have s2 := x2.size
  simp only [sz_alloc] at s2
  clear o2
  go_wp2_with fail
  refine (c_eqNew z A2 A1 n c2 c1 hn _ (O2.out.rd RpE.len).2 (O12.out.rd RpE.len).2).mono ?_
  rintro e w3 ⟨rfl, x3⟩
  have HB3 := Lib.hid (x3.box B3)
  have HB4 := Lib.hid (x3.box B4)
  have O3 := Lib.hid (O2.out.kept x3)
  have XW3 := Lib.hid (Ext.trans XW2.out x3)
  have O13 := Lib.hid (O12.out.kept x3)
  clear b3 b4 B3 B4 O2 O12
  have b4 := bx_cell HB4.out
  go_wp2_with fail
  refine (c_markGroupN z 1 A2 c2 n _ _ O3.out (by omega) (by omega) hn).mono ?_
  rintro e w4 ⟨rfl, o4, c4⟩
  have hp3 := box_apart HB3.out O3.out (by decide)
  have hp4 := box_apart HB4.out O3.out (by decide)
  have hin := O3.out.inB
  simp only [sz_alloc] at hin
  have H3 := Lib.hid ((c4.block w1.heap.size (bx_lt HB3.out) hp3).trans HB3.out)
  have H4 := Lib.hid ((c4.block w2.heap.size (bx_lt HB4.out) hp4).trans HB4.out)
  have X4 := Lib.hid (chg_low XW3.out c4 (fun g hg => by have := (hin g hg).1; have := x1.size; omega))
  have O14 := Lib.hid (O13.out.chg c4 (fun k hk hm => by have h1 := lt1.out k hk; have h2 := (hin k hm).1; omega))
  have M4 := Lib.hid (o4.rd RpE.len).2
  obtain ⟨Q, hQ, hQ0⟩ : ∃ Q, (1 : Int) + 9 * (n : Int) = Q ∧ 0 ≤ Q := ⟨_, rfl, by omega⟩
  have HQ := Lib.hid hQ
  have g9 : decide (Q < 0) = false := by simp; omega
  have g10 : (Q != Q) = false := by simp
  rw [hQ]
  clear hQ hin hp3 hp4 o4 c4 b4 O3 O13 HB3 HB4
  have b4 := bx_cell H4.out
  go_wp2_with fail
  refine (c_heldGroupN z 1 A2 c2 n _ M4.out (by omega) (by omega) hn).mono ?_
  rintro e w5 ⟨rfl, x5⟩
  rw [HQ.out]
  clear b4
  go_wp2_with fail
  refine (HI.out _).mono ?_
  rintro e w6 ⟨A6, c6, rfl, o6, x6⟩
  have X6 := ext_alloc w6 (.cells (NG.cells z A6 n c6) 28)
  have y6 := Ext.trans x5 (Ext.trans x6 X6)
  have b3 := bx_cell (y6.box H3.out)
  have b7 := bx_cell (hNew (w := w6) (o := .cells (NG.cells z A6 n c6) 28) rfl)
  have O6 := Lib.hid (o6.kept X6)
  have O16 := Lib.hid (O14.out.kept y6)
  clear o6
  go_wp2_with fail
  refine (c_eqNew z A6 A1 n c6 c1 hn _ (O6.out.rd RpE.len).2 (O16.out.rd RpE.len).2).mono ?_
  rintro e w7 ⟨rfl, x7⟩
  have y7 := Ext.trans y6 x7
  clear b3 b7
  have b4 := bx_cell (y7.box H4.out)
  go_wp2_with fail
  refine (c_heldGroupN z 1 A2 c2 n _ (M4.out.keep y7) (by omega) (by omega) hn).mono ?_
  rintro e w8 ⟨rfl, x8⟩
  rw [HQ.out]
  go_wp2
  go_ret
  exact ⟨rfl, Ext.trans X4.out (Ext.trans y7 x8)⟩

set_option maxRecDepth 100000 in
theorem lifted (os : Os) (started : os.Started) (H : Type) (enc : TypeId × Value → H) :
    ReturnsInHanded {} Try.checked os 3 .any (Rows.fnExactNewGroupSpec.pre6 enc Try.prog Try.f3 Rows.fnExactNewGroupRow.domain false) (Rows.fnExactNewGroupSpec.post enc Try.prog Try.f3 false true false false) := by
  refine returnsInHanded_of_change (C := Try.checked) own started (by kernel_rfl) Try.func3
    (ChangeSpec.witness6 (enc := enc) (C := Try.checked) false ⟨#[], #[.int .i64 0], []⟩ 8 (by kernel_rfl) (by kernel_rfl) (by kernel_rfl) (by kernel_rfl)) ?_
  intro W base args ds gs before hval0 hW hcnd _
  have hval : ∀ (j : Nat) t v, Try.f3.params[j]? = some t → args[j]? = some v → Value.okWide Try.prog W .any base t v := hval0
  have hW' := hW
  obtain ⟨p, q, hA0, hV, rfl, hfz, hnd⟩ := hW
  have hA : DataW.TrodAll enc Try.prog W 0 (fun _ => true) true Try.f3.params.toList args.toList ds p := hA0
  rw [Try.params3] at hA hval
  obtain ⟨rfl, rfl⟩ := trodVars_none hV
  obtain ⟨v0, vs0, d0, ds0, p0, q0, hargs, rfl, rfl, h0, r0⟩ := trodAll_cons hA
  obtain ⟨rfl, rfl, rfl⟩ := trodAll_nil r0
  obtain rfl : args = #[v0] := by cases args; simp_all
  clear hA0 hval0
  refine Calls.mono (R := fun e W' => e = .returned (.bool true) ∧ Ext W W') ?_ (fun e W' ⟨he, hx⟩ => by
    subst he
    exact ⟨_, rfl, law_post laidOut Try.underlying4 hW' hx rfl rfl rfl rfl (by kernel_rfl) rfl⟩)
  clear hW'
  exact (by obtain ⟨of, rfl, _, _, _⟩ := open_int Try.underlying3 (hval 0 _ _ rfl rfl) h0; exact walk of W)

theorem over : Rows.fnExactNewGroupRow.holds Try.pinned (OpenSpec.ofChange Rows.fnExactNewGroupSpec) :=
  OpenClaim.holds_of_wide 3 Try.f3 rfl rfl rfl rfl rfl rfl rfl ⟨rfl, rfl, rfl, rfl, rfl⟩ rfl rfl rfl rfl rfl (by kernel_rfl) Try.func3 (by kernel_rfl)
    (of_decide_eq_true (by kernel_rfl)) (by unfold Func.isWrapper; first | (rw [if_pos (by decide +kernel)]; kernel_rfl) | (rw [if_neg (by decide +kernel)]; exact ⟨rfl, rfl⟩))
    (fun os started H enc _ => lifted os started H enc)

theorem proved : Rows.FnExactNewGroupSaid := over
end Go.Proofs.Ytmphedkbdlckhaa.l29
