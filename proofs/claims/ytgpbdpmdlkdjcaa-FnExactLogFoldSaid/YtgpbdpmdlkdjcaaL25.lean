/- FnExactLogFold: for every input the law returns true. No condition. -/
import Derived.Test.YtgpbdpmdlkdjcaaFn
import Derived.Test.YtgpbdpmdlkdjcaaGg
namespace Go.Proofs.Ytgpbdpmdlkdjcaa.l25
open Go.ChangeShapes Go.WideShapes Go.ChangeAt Go.RowKit Go.Sort
set_option linter.unusedVariables false

abbrev objL (a : LAd) (l : Lg) : Obj := .cells #[.int .i64 l.base, .slice a.cA l.cells.length a.cc, .slice a.sA l.seats.length a.sc, .slice a.eA l.ents.length a.ec] 37
abbrev Lcs (a : LAd) (l : Lg) : Array Value := #[.int .i64 l.base, .slice a.cA l.cells.length a.cc, .slice a.sA l.seats.length a.sc, .slice a.eA l.ents.length a.ec]
def LgW (l : Lg) (v : Value) (w : World) : Prop := ∃ a, v = Lg.val a l ∧ LgR w a l
theorem LgW.mono (l : Lg) : Mono (LgW l) := fun v w w' ⟨a, h, hr⟩ hx => ⟨a, h, hr.keep hx⟩
theorem c_eqAnewL (a : LAd) (l : Lg) (hl : l.small) (w : World) (ha : LgR w a l) (v : Value) (hv : LgW l v w) :
    Calls Try.prog 31 #[Lg.val a l, v] w fun e w' => e = .returned (.bool true) ∧ Ext w w' := by
  obtain ⟨b, rfl, hb⟩ := hv
  exact c_eqLog_same a b l hl w ha hb
set_option maxRecDepth 100000 in
set_option maxHeartbeats 8000000 in
theorem walk (a : LAd) (l : Lg) (n : Int) (w : World) (hr : LgR w a l) : Calls Try.prog 6 #[Lg.val a l, .int .i64 n] w fun e w' => e = .returned (.bool true) ∧ Ext w w' := by
  have X0 := ext_alloc w (objL a l)
  have hcon := c_szLog l.base a.cA l.cells.length a.cc a.sA l.seats.length a.sc a.eA l.ents.length a.ec 1048576 (by omega) (by omega) (by have h1 := hr.1.1; have h2 := hr.1.2.1; unfold maxLen at h2; omega) (by have h1 := hr.2.1.1; have h2 := hr.2.1.2.1; unfold maxLen at h2; omega) (by have h1 := hr.2.2.1; have h2 := hr.2.2.2.1; unfold maxLen at h2; omega) (w.alloc (objL a l))
  have D0 := Lib.hid (hNew (w := w) (o := objL a l) rfl)
  by_cases hn : l.cells.length + l.seats.length + l.ents.length ≤ 1048576
  · rw [szV_le (by omega)] at hcon
    have hg0 : decide ((1048576 : Int) - ((l.cells.length + l.seats.length + l.ents.length : Nat) : Int) < 0) = false := by simp; omega
    have hlog : l.small := ⟨by omega, by omega, by omega⟩
    have hfs := foldR_small l n
    obtain ⟨F, b, hF⟩ : ∃ F b, foldR l n = (F, b) := ⟨_, _, rfl⟩
    rw [hF] at hfs
    have hbb : (b != b) = false := by simp
    have HS := Lib.hid (show ∀ (a : LAd) (W : World), LgR W a l → Calls Try.prog 28 #[Lg.val a l, .int .i64 n] W fun e w' => (∃ a', e = .returned (.tuple #[Lg.val a' F, .bool b]) ∧ LgF w' W.heap.size a' F) ∧ Ext W w' from fun a W h => by
      have := c_sFold a l n W h hlog
      rw [hF] at this
      exact this)
    have HI := Lib.hid (show ∀ (a : LAd) (W : World), LgR W a l → Calls Try.prog 30 #[Lg.val a l, .int .i64 n] W fun e w' => (∃ a', e = .returned (.tuple #[Lg.val a' F, .bool b]) ∧ LgO w' W.heap.size w'.heap.size a' F) ∧ Ext W w' from fun a W h => by
      have := c_iFold a l n W h hlog
      rw [hF] at this
      exact this)
    have HT := Lib.hid (show ∀ W, Ext w W → Calls Try.prog 29 #[Lg.val a l] W fun e w' => ∃ a' : LAd, e = .returned (Lg.val a' l) ∧ LgO w' W.heap.size w'.heap.size a' l ∧ Ext W w' from fun W h => c_toLog a l W (hr.keep h) hlog.1 hlog.2.1 hlog.2.2)
    have HLog := Lib.hid hlog
    have HFs := Lib.hid (show F.small from hfs)
    have HC := Lib.hid hcon
    have HX0 := Lib.hid X0
    have hmF0 := F.mN_pos
    have hmF1 := F.mN_small hfs
    have hmL0 := l.mN_pos
    have hmL1 := l.mN_small hlog
    clear hF hfs hlog hr hcon X0
    go_enter Try.func6, Try.ntmps6
    (go_wp2_with (with_reducible refine wl_stop 16 ?_); refine stop_load (D0.out) rfl Try.underlying37 (by kernel_rfl) ?_; simp only [Act.put, List.setIfInBounds_toArray, List.set_cons_zero, List.set_cons_succ])
    go_wp2_with fail
    refine HC.out.mono ?_
    rintro e w1 ⟨rfl, y1⟩
    have D1 := Lib.hid (y1.box D0.out)
    have X1 := Lib.hid (Ext.trans HX0.out y1)
    have s1 := y1.size
    simp only [sz_alloc] at s1
    clear HC y1 D0 HX0
    (go_wp2_with (with_reducible refine wl_stop 22 ?_); refine stop_load (D1.out) rfl Try.underlying37 (by kernel_rfl) ?_; simp only [Act.put, List.setIfInBounds_toArray, List.set_cons_zero, List.set_cons_succ])
    go_wp2_with fail
    refine (HT.out _ X1.out).mono ?_
    rintro e w2 ⟨a2, rfl, o2, x2⟩
    have HO2 := Lib.hid o2.rd
    clear o2
    go_wp2_with fail
    refine (HS.out a2 _ HO2.out).mono ?_
    rintro e w3 ⟨⟨a3, rfl, f3⟩, x3⟩
    have Z3 := Lib.hid (hNew (w := w3) (o := Lg.zobj) rfl)
    have hHF3 := Lib.hid f3.rd
    have D3 := Lib.hid ((Ext.trans x2 x3).box D1.out)
    have X3 := Lib.hid (Ext.trans X1.out (Ext.trans x2 x3))
    have s3 := (Ext.trans x2 x3).size
    clear f3 x2 x3 D1 X1 HO2 HS
    (go_wp2_with (with_reducible refine wl_stopS 49 ?_); refine stop_store (w3.heap.size) (Lcs a3 F) rfl rfl (Z3.out) (by kernel_rfl) rfl (by simp [Value.oneCell']) ?_)
    intro W3 e3 k3
    have x3 := chg_new (ext_alloc w3 Lg.zobj) k3 (Nat.le_refl _)
    have E3 := Lib.hid e3
    have F3 := Lib.hid (hHF3.out.keep x3)
    have G1 := Lib.hid (x3.box D3.out)
    have Y3 := Lib.hid (Ext.trans X3.out x3)
    have s3' := bx_lt e3
    clear e3 k3 x3 Z3 D3 X3 hHF3
    (go_wp2_with (with_reducible refine wl_stop 28 ?_); refine stop_load (G1.out) rfl Try.underlying37 (by kernel_rfl) ?_; simp only [Act.put, List.setIfInBounds_toArray, List.set_cons_zero, List.set_cons_succ])
    go_wp2_with fail
    refine (HT.out _ Y3.out).mono ?_
    rintro e w4 ⟨a4, rfl, o4, x4⟩
    have Z4 := Lib.hid (hNew (w := w4) (o := Lg.zobj) rfl)
    have hO4 := Lib.hid o4
    have s4 := x4.size
    have hQ4 := Lib.hid x4
    clear o4 x4
    (go_wp2_with (with_reducible refine wl_stopS 49 ?_); refine stop_store (w4.heap.size) (Lcs a4 l) rfl rfl (Z4.out) (by kernel_rfl) rfl (by simp [Value.oneCell']) ?_)
    intro W4 e4 k4
    have x4 := chg_new (ext_alloc w4 Lg.zobj) k4 (Nat.le_refl _)
    have E4 := Lib.hid e4
    have O4 := Lib.hid (hO4.out.kept x4)
    have Q4 := Lib.hid (Ext.trans hQ4.out x4)
    have s4' := bx_lt e4
    clear e4 k4 x4 Z4 hO4 hQ4
    (go_wp2_with (with_reducible refine wl_stop 31 ?_); refine stop_load (E4.out) rfl Try.underlying49 (by kernel_rfl) ?_; simp only [Act.put, List.setIfInBounds_toArray, List.set_cons_zero, List.set_cons_succ])
    go_wp2_with fail
    refine (HI.out a4 _ O4.out.rd).mono ?_
    rintro e w5 ⟨⟨a5, rfl, o5⟩, x5⟩
    have Z5 := Lib.hid (hNew (w := w5) (o := Lg.zobj) rfl)
    have hO5 := Lib.hid o5
    have s5 := x5.size
    have hR5 := Lib.hid x5
    clear o5 x5
    (go_wp2_with (with_reducible refine wl_stopS 49 ?_); refine stop_store (w5.heap.size) (Lcs a5 F) rfl rfl (Z5.out) (by kernel_rfl) rfl (by simp [Value.oneCell']) ?_)
    intro W5 e5 k5
    have x5 := chg_new (ext_alloc w5 Lg.zobj) k5 (Nat.le_refl _)
    have E5 := Lib.hid e5
    have O5 := Lib.hid (hO5.out.kept x5)
    have R5 := Lib.hid (Ext.trans hR5.out x5)
    have s5' := bx_lt e5
    clear e5 k5 x5 Z5 hO5 hR5
    have hE3 := Lib.hid ((Ext.trans Q4.out R5.out).box E3.out)
    (go_wp2_with (with_reducible refine wl_stop 36 ?_); refine stop_load (E5.out) rfl Try.underlying49 (by kernel_rfl) ?_; simp only [Act.put, List.setIfInBounds_toArray, List.set_cons_zero, List.set_cons_succ])
    (go_wp2_with (with_reducible refine wl_stop 37 ?_); refine stop_load (hE3.out) rfl Try.underlying49 (by kernel_rfl) ?_; simp only [Act.put, List.setIfInBounds_toArray, List.set_cons_zero, List.set_cons_succ])
    go_wp2_with fail
    refine (c_eqLog_same a5 a3 F HFs.out _ O5.out.rd (F3.out.keep (Ext.trans Q4.out R5.out))).mono ?_
    rintro e w7 ⟨rfl, x7⟩
    have S7 := Lib.hid x7
    have hE4 := Lib.hid ((Ext.trans R5.out S7.out).box E4.out)
    have hG1 := Lib.hid ((Ext.trans (Ext.trans Q4.out R5.out) S7.out).box G1.out)
    have hO4 := Lib.hid (O4.out.kept (Ext.trans R5.out S7.out))
    have hY7 := Lib.hid (Ext.trans Y3.out (Ext.trans (Ext.trans Q4.out R5.out) S7.out))
    clear x7 hE3 O4
    go_wp2
    (refine wp_region_mix' (fun _ _ _ _ _ hq => hq) 5 (by kernel_rfl) (by kernel_rfl) (fun hg => ?_); simp only [headOps, List.take_succ_cons, List.take_zero, List.filter_cons, List.filter_nil, isAlloc, Bool.not_false, Bool.false_eq_true, if_true, if_false, List.append_nil, List.drop_succ_cons, List.drop_zero])
    (refine wpMix_load (hE4.out) rfl rfl rfl Try.underlying49 (by kernel_rfl) ?_; simp only [Act.put, List.setIfInBounds_toArray, List.set_cons_zero, List.set_cons_succ])
    (refine wpMix_load (hG1.out) rfl rfl rfl Try.underlying37 (by kernel_rfl) ?_; simp only [Act.put, List.setIfInBounds_toArray, List.set_cons_zero, List.set_cons_succ])
    refine wpMix_call (LgW l) rfl rfl rfl (enters Try.func29 (by kernel_rfl) rfl) (LgW.mono _) (fun W hW => (HT.out W (Ext.trans hY7.out hW)).mono fun e w' ⟨a', he, ho, hx⟩ => ⟨_, he, ⟨a', rfl, ho.rd⟩, hx⟩) rfl (fun v8 hv8 => ?_)
    simp only [Act.put, List.setIfInBounds_toArray, List.set_cons_zero, List.set_cons_succ]
    (repeat (first | (refine wpMix_plain rfl rfl ?_; go_big_quiet_step (fail); refine wpQuiet_nil ?_) | (refine wpMix_skip rfl rfl ?_; simp only [Act.put, List.setIfInBounds_toArray, List.set_cons_zero, List.set_cons_succ])))
    refine wpMix_det rfl rfl rfl (enters Try.func31 (by kernel_rfl) rfl) (fun W hW => c_eqAnewL a4 l HLog.out W (hO4.out.rd.keep hW.1) v8 hW.2) rfl ?_
    simp only [Act.put, List.setIfInBounds_toArray, List.set_cons_zero, List.set_cons_succ]
    (repeat (first | (refine wpMix_plain rfl rfl ?_; go_big_quiet_step (fail); refine wpQuiet_nil ?_) | (refine wpMix_skip rfl rfl ?_; simp only [Act.put, List.setIfInBounds_toArray, List.set_cons_zero, List.set_cons_succ])))
    refine wpMix_nil ?_
    rintro w8 ⟨x8', _⟩
    have x8 : Ext w7 w8 := x8'
    have S8 := Lib.hid (Ext.trans S7.out x8)
    have E8 := Lib.hid (x8.box hE4.out)
    have O8 := Lib.hid (hO4.out.kept x8)
    have HCM := Lib.hid (c_markLog a4 l _ _ 1 w8 O8.out (by omega) (by omega) HLog.out)
    obtain ⟨K4, hK4⟩ : ∃ K, 1 + l.mN = K := ⟨_, rfl⟩
    have hg14 : decide (K4 < 0) = false := by simp; omega
    rw [hK4] at HCM
    clear hK4 x8 x8' hv8 hE4 hG1 hO4 hY7 S7 hmL0 hmL1
    (go_wp2_with (with_reducible refine wl_stop 50 ?_); refine stop_load (E8.out) rfl Try.underlying49 (by kernel_rfl) ?_; simp only [Act.put, List.setIfInBounds_toArray, List.set_cons_zero, List.set_cons_succ])
    go_wp2_with fail
    refine HCM.out.mono ?_
    rintro e w9 ⟨rfl, _, c9⟩
    have D3 := Lib.hid (ext_chg (Ext.trans (Ext.trans Q4.out R5.out) S8.out) c9 (fun g hg => O8.out.low g hg))
    have DE3 := Lib.hid (D3.out.box E3.out)
    have DE5 := Lib.hid (box_stay (S8.out.box E5.out) c9 (fun hm => by have := O8.out.top _ hm; omega))
    have DO5 := Lib.hid ((O5.out.kept S8.out).chg c9 (fun k hk hm => by have := O8.out.top _ hm; have := O5.out.low k hk; omega))
    clear c9 HCM E8 O8 E5 O5 S8
    have e3 := bx_cell DE3.out
    have e5 := bx_cell DE5.out
    have z3 := bx_lt DE3.out
    have z5 := bx_lt DE5.out
    go_wp2_with fail
    refine (c_eqLog_same a5 a3 F HFs.out _ DO5.out.rd (F3.out.keep D3.out)).mono ?_
    rintro e w11 ⟨rfl, x11⟩
    have S11 := Lib.hid (Ext.trans D3.out x11)
    have E11 := Lib.hid (x11.box DE5.out)
    have O11 := Lib.hid (DO5.out.kept x11)
    clear e3 e5 z3 z5 x11 D3 DE3 DE5 DO5
    have HCM5 := Lib.hid (c_markLog a5 F _ _ 1 w11 O11.out (by omega) (by omega) HFs.out)
    have HCH5 := Lib.hid (fun W (h : LgR W a5 (F.mk' 1 F.base)) => c_heldLog a5 F.base F 1 W h (by omega) (by omega) HFs.out)
    obtain ⟨K5, hK5⟩ : ∃ K, 1 + F.mN = K := ⟨_, rfl⟩
    have hg21 : decide (K5 < 0) = false := by simp; omega
    simp only [hK5] at HCM5 HCH5
    clear hK5 hmF0 hmF1
    (go_wp2_with (with_reducible refine wl_stop 66 ?_); refine stop_load (E11.out) rfl Try.underlying49 (by kernel_rfl) ?_; simp only [Act.put, List.setIfInBounds_toArray, List.set_cons_zero, List.set_cons_succ])
    go_wp2_with fail
    refine HCM5.out.mono ?_
    rintro e w12 ⟨rfl, h12, c12⟩
    have E12 := Lib.hid (box_stay E11.out c12 (fun hm => by have := O11.out.top _ hm; omega))
    have S12 := Lib.hid (ext_chg S11.out c12 (fun g hg => by have := O11.out.low g hg; omega))
    have H12 := Lib.hid h12.rd
    clear c12 h12 E11 O11 S11 HCM5
    (go_wp2_with (with_reducible refine wl_stop 69 ?_); refine stop_load (E12.out) rfl Try.underlying49 (by kernel_rfl) ?_; simp only [Act.put, List.setIfInBounds_toArray, List.set_cons_zero, List.set_cons_succ])
    go_wp2_with fail
    refine (HCH5.out _ H12.out).mono ?_
    rintro e w15 ⟨rfl, x15⟩
    have S15 := Lib.hid (Ext.trans S12.out x15)
    have E15 := Lib.hid (x15.box E12.out)
    have H15 := Lib.hid (H12.out.keep x15)
    have hG1 := Lib.hid (S15.out.box G1.out)
    clear x15 S12 E12 H12
    (go_wp2_with (with_reducible refine wl_stop 78 ?_); refine stop_load (hG1.out) rfl Try.underlying37 (by kernel_rfl) ?_; simp only [Act.put, List.setIfInBounds_toArray, List.set_cons_zero, List.set_cons_succ])
    go_wp2_with fail
    refine (HT.out _ (Ext.trans Y3.out S15.out)).mono ?_
    rintro e w16 ⟨a6, rfl, o6, x16⟩
    have HO6 := Lib.hid o6.rd
    clear o6
    go_wp2_with fail
    refine (HI.out a6 _ HO6.out).mono ?_
    rintro e w17 ⟨⟨a7, rfl, o7⟩, x17⟩
    have Z7 := Lib.hid (hNew (w := w17) (o := Lg.zobj) rfl)
    have hO7 := Lib.hid o7.rd
    have hS17 := Lib.hid (Ext.trans x16 x17)
    have s17 := (Ext.trans x16 x17).size
    clear o7 x16 x17 hG1 HI HT HO6
    (go_wp2_with (with_reducible refine wl_stopS 49 ?_); refine stop_store (w17.heap.size) (Lcs a7 F) rfl rfl (Z7.out) (by kernel_rfl) rfl (by simp [Value.oneCell']) ?_)
    intro W7 e7 k7
    have x7 := chg_new (ext_alloc w17 Lg.zobj) k7 (Nat.le_refl _)
    have E7 := Lib.hid e7
    have O7 := Lib.hid (hO7.out.keep x7)
    have T7 := Lib.hid (Ext.trans hS17.out x7)
    have hE3 := Lib.hid ((Ext.trans S15.out (Ext.trans hS17.out x7)).box E3.out)
    clear e7 k7 x7 Z7 hO7 hS17
    (go_wp2_with (with_reducible refine wl_stop 84 ?_); refine stop_load (E7.out) rfl Try.underlying49 (by kernel_rfl) ?_; simp only [Act.put, List.setIfInBounds_toArray, List.set_cons_zero, List.set_cons_succ])
    (go_wp2_with (with_reducible refine wl_stop 85 ?_); refine stop_load (hE3.out) rfl Try.underlying49 (by kernel_rfl) ?_; simp only [Act.put, List.setIfInBounds_toArray, List.set_cons_zero, List.set_cons_succ])
    go_wp2_with fail
    refine (c_eqLog_same a7 a3 F HFs.out _ O7.out (F3.out.keep (Ext.trans S15.out T7.out))).mono ?_
    rintro e w19 ⟨rfl, x19⟩
    have T19 := Lib.hid (Ext.trans T7.out x19)
    have E19 := Lib.hid (T19.out.box E15.out)
    have H19 := Lib.hid (H15.out.keep T19.out)
    clear x19 T7 E7 O7 hE3 E15 H15
    (go_wp2_with (with_reducible refine wl_stop 93 ?_); refine stop_load (E19.out) rfl Try.underlying49 (by kernel_rfl) ?_; simp only [Act.put, List.setIfInBounds_toArray, List.set_cons_zero, List.set_cons_succ])
    go_wp2_with fail
    refine (HCH5.out _ H19.out).mono ?_
    rintro e w21 ⟨rfl, x21⟩
    have HX := Lib.hid (Ext.trans Y3.out (Ext.trans S15.out (Ext.trans T19.out x21)))
    clear x21 E19 H19
    go_wp2
    go_ret
    exact ⟨rfl, HX.out⟩
  · rw [szV_gt (by omega)] at hcon
    have HC := Lib.hid hcon
    clear hcon
    go_enter Try.func6, Try.ntmps6
    (go_wp2_with (with_reducible refine wl_stop 16 ?_); refine stop_load (D0.out) rfl Try.underlying37 (by kernel_rfl) ?_; simp only [Act.put, List.setIfInBounds_toArray, List.set_cons_zero, List.set_cons_succ])
    go_wp2_with fail
    refine HC.out.mono ?_
    rintro e w1 ⟨rfl, X1⟩
    clear HC
    go_wp2
    go_ret
    exact ⟨rfl, Ext.trans X0 X1⟩

set_option maxRecDepth 100000 in
theorem lifted (os : Os) (started : os.Started) (H : Type) (enc : TypeId × Value → H) :
    ReturnsInHanded {} Try.checked os 6 .any (Rows.fnExactLogFoldSpec.pre6 enc Try.prog Try.f6 Rows.fnExactLogFoldRow.domain false) (Rows.fnExactLogFoldSpec.post enc Try.prog Try.f6 false true false false) := by
  refine returnsInHanded_of_change (C := Try.checked) own started (by kernel_rfl) Try.func6
    (ChangeSpec.witness6 (enc := enc) (C := Try.checked) false ⟨#[], #[.agg #[.int .i64 0, .slice none 0 0, .slice none 0 0, .slice none 0 0], .int .i64 0], []⟩ 8 (by kernel_rfl) (by kernel_rfl) (by kernel_rfl) (by kernel_rfl)) ?_
  intro W base args ds gs before hval0 hW hcnd _
  have hval : ∀ (j : Nat) t v, Try.f6.params[j]? = some t → args[j]? = some v → Value.okWide Try.prog W .any base t v := hval0
  have hW' := hW
  obtain ⟨p, q, hA0, hV, rfl, hfz, hnd⟩ := hW
  have hA : DataW.TrodAll enc Try.prog W 0 (fun _ => true) true Try.f6.params.toList args.toList ds p := hA0
  rw [Try.params6] at hA hval
  obtain ⟨rfl, rfl⟩ := trodVars_none hV
  obtain ⟨v0, vs0, d0, ds0, p0, q0, hargs, rfl, rfl, h0, r0⟩ := trodAll_cons hA
  obtain ⟨v1, vs1, d1, ds1, p1, q1, rfl, rfl, rfl, h1, r1⟩ := trodAll_cons r0
  obtain ⟨rfl, rfl, rfl⟩ := trodAll_nil r1
  obtain rfl : args = #[v0, v1] := by cases args; simp_all
  clear hA0 hval0
  refine Calls.mono (R := fun e W' => e = .returned (.bool true) ∧ Ext W W') ?_ (fun e W' ⟨he, hx⟩ => by
    subst he
    exact ⟨_, rfl, law_post laidOut Try.underlying4 hW' hx rfl rfl rfl rfl (by kernel_rfl) rfl⟩)
  clear hW'
  exact (by obtain ⟨a, l, rfl, hr⟩ := open_Log (hval 0 _ _ rfl rfl) h0; obtain ⟨n, rfl, _, _, _⟩ := open_int Try.underlying3 (hval 1 _ _ rfl rfl) h1; exact walk a l n W hr)

theorem over : Rows.fnExactLogFoldRow.holds Try.pinned (OpenSpec.ofChange Rows.fnExactLogFoldSpec) :=
  OpenClaim.holds_of_wide 6 Try.f6 rfl rfl rfl rfl rfl rfl rfl ⟨rfl, rfl, rfl, rfl, rfl⟩ rfl rfl rfl rfl rfl (by kernel_rfl) Try.func6 (by kernel_rfl)
    (of_decide_eq_true (by kernel_rfl)) (by unfold Func.isWrapper; first | (rw [if_pos (by decide +kernel)]; kernel_rfl) | (rw [if_neg (by decide +kernel)]; exact ⟨rfl, rfl⟩))
    (fun os started H enc _ => lifted os started H enc)

theorem proved : Rows.FnExactLogFoldSaid := over
end Go.Proofs.Ytgpbdpmdlkdjcaa.l25
