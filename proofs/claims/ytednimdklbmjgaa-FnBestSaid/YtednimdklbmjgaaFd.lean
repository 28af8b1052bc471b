/- LogFold of the reference and of the program. -/
import Derived.Test.YtednimdklbmjgaaIf
namespace Go.Proofs.Ytednimdklbmjgaa
open Go.ChangeShapes Go.WideShapes Go.ChangeAt Go.RowKit Go.Sort
set_option linter.unusedVariables false
set_option linter.unusedSimpArgs false

/-- the log folded up to its j-th entry -/
def foldL (l : Lg) (j : Nat) : Lg := ⟨l.base + j, (allI (l.cells, l.seats) (l.ents.take j)).1, (allI (l.cells, l.seats) (l.ents.take j)).2, l.ents.drop j⟩
theorem foldL_eq {l : Lg} {j : Nat} {mc : List Cel} {ms : List Sea} (h : allI (l.cells, l.seats) (l.ents.take j) = (mc, ms)) : foldL l j = ⟨l.base + j, mc, ms, l.ents.drop j⟩ := by
  unfold foldL
  rw [h]
theorem Rd.empty {α : Type} {enc : α → List Value} {sz : Nat} {w : World} {A : Option Addr} {c : Nat} {l : List α} (hc : c ≤ maxLen) (hl : l.length = 0) : Rd enc sz w A c l := ⟨by omega, hc, fun h => absurd h (by omega)⟩
theorem Rd.from {α : Type} {enc : α → List Value} {sz : Nat} {w : World} {b o c : Nat} {l : List α} (h : Rd enc sz w (some ⟨b, o, none⟩) c l) {j : Nat} (hj : j < l.length) : Rd enc sz w (some ⟨b, o + j * sz, none⟩) (c - j) (l.drop j) := by
  obtain ⟨b', o', he, hb, hc⟩ := h.2.2 (by omega)
  simp only [Option.some.injEq, Addr.mk.injEq, and_true] at he
  obtain ⟨rfl, rfl⟩ := he
  refine ⟨by have := h.1; rw [List.length_drop]; omega, by have := h.2.1; omega, fun _ => ⟨b, o + j * sz, rfl, hb, fun k hk i u hu => ?_⟩⟩
  rw [List.length_drop] at hk
  rw [List.getElem_drop] at hu
  have := hc (j + k) (by omega) i u hu
  rw [show o + j * sz + k * sz = o + (j + k) * sz by rw [Nat.add_mul]; omega]
  exact this

abbrev Lg.zobj : Obj := .cells #[.int .i64 0, .slice Option.none 0 0, .slice Option.none 0 0, .slice Option.none 0 0] 33
set_option maxRecDepth 100000 in
set_option maxHeartbeats 8000000 in
theorem c_sLogFold (a : LAd) (l : Lg) (j : Nat) (w : World) (hr : LgR w a l) (hok : logOk l = true) (hj : j ≤ l.ents.length) :
    Calls Try.prog 32 #[Lg.val a l, .int .i64 (l.base + j)] w fun e9 w' => (∃ a', e9 = .returned (.tuple #[Lg.val a' (foldL l j), .bool true]) ∧ LgF w' w.heap.size a' (foldL l j)) ∧ Ext w w' := by
  obtain ⟨hb0, hb1, h60, hIm, hAll⟩ := log_b hok
  obtain ⟨i0, hi, hz0, hz1, hz2⟩ := info_parts Try.infoEnt
  obtain ⟨w1, hw1⟩ : ∃ w1, ((w.alloc (Lg.obj a l)).alloc Lg.zobj) = w1 := ⟨_, rfl⟩
  have X0 : Ext w w1 := by rw [← hw1]; exact ext_to (ext_alloc _ _) _
  have E1 := Lib.hid (show w1.heap[w.heap.size]? = some (Lg.obj a l) by rw [← hw1]; exact hOld (o := Lg.zobj) (hNew (w := w) (o := Lg.obj a l) rfl))
  have E2 := Lib.hid (show w1.heap[w.heap.size + 1]? = some Lg.zobj by rw [← hw1]; exact hNew (w := w.alloc (Lg.obj a l)) (o := Lg.zobj) (k := w.heap.size + 1) (by simp))
  have HR := Lib.hid hr
  have X := Lib.hid X0
  have hz1_ := bx_lt E2.out
  have HW0 := Lib.hid hw1
  have hsub : l.base + (j : Int) - l.base = (j : Int) := by omega
  have HEc := Lib.hid (show l.ents.length ≤ a.ec ∧ a.ec ≤ maxLen from ⟨HR.out.2.2.1, HR.out.2.2.2.1⟩)
  have hec := HEc.out.1
  have HCon := Lib.hid (c_sLogImage a l j w1 (hr.keep X0) hok hj)
  clear hr hok hw1 X0 hIm hAll
  go_enter Try.func32, Try.ntmps32
  go_wp2_with (with_reducible refine wl_stop 9 ?_)
  refine stop_go (F := fun W => W = w1) HW0.out ?_
  intro W1 hW1
  subst hW1
  clear HW0
  (go_wp2_with (with_reducible refine wl_stop 9 ?_); refine stop_load (E1.out) rfl Try.underlying33 (by kernel_rfl) ?_; simp only [Act.put, List.setIfInBounds_toArray, List.set_cons_zero, List.set_cons_succ])
  go_wp2_with fail
  refine HCon.out.mono ?_
  rintro e9 w2 ⟨⟨A2, c2, B2, d2, rfl, r2, s2⟩, x⟩
  obtain ⟨E1, E2, X⟩ : Hid _ ∧ Hid _ ∧ Hid _ := ⟨Lib.hid (x.box E1.out), Lib.hid (x.box E2.out), Lib.hid (Ext.trans X.out x)⟩
  have hz_w2 := x.size
  clear x HCon
  obtain ⟨mc, ms, hm⟩ : ∃ mc ms, allI (l.cells, l.seats) (l.ents.take j) = (mc, ms) := ⟨_, _, rfl⟩
  have HF := Lib.hid (foldL_eq hm)
  rw [hm] at r2 s2
  rw [hm]
  have R2 := Lib.hid (show RdF Cel.enc 63 2 w2 (w.heap.size + 1 + 1) A2 c2 mc from r2.less (by omega))
  have S2 := Lib.hid (show RdF Sea.enc 65 3 w2 (w.heap.size + 1 + 1) B2 d2 ms from s2.less (by omega))
  clear r2 s2 hm
  have EQ := Lib.hid (hNew (w := w2) (o := Im.zobj) rfl)
  (go_wp2_with (with_reducible refine wl_stopS 30 ?_); refine stop_store (w2.heap.size) (Im.cs A2 mc.length c2 B2 ms.length d2) rfl rfl (EQ.out) (by kernel_rfl) rfl (by simp [Value.oneCell']) ?_)
  intro w3 e3 k3
  have x3 := chg_new (ext_alloc w2 Im.zobj) k3 (Nat.le_refl _)
  obtain ⟨E1, E2, X⟩ : Hid _ ∧ Hid _ ∧ Hid _ := ⟨Lib.hid (x3.box E1.out), Lib.hid (x3.box E2.out), Lib.hid (Ext.trans X.out x3)⟩
  obtain ⟨R2, S2⟩ : Hid _ ∧ Hid _ := ⟨Lib.hid (R2.out.keep x3), Lib.hid (S2.out.keep x3)⟩
  have E6 := Lib.hid e3
  have hz_w3 := x3.size
  clear e3 k3 x3 EQ
  have d1 := bx_cell E1.out
  have z1 := bx_lt E1.out
  have d6 := bx_cell E6.out
  have z6 := bx_lt E6.out
  have g6 := bx_frozen E6.out
  by_cases hlt : j < l.ents.length
  · have HLn := Lib.hid (show l.ents.length - j = (l.ents.drop j).length by rw [List.length_drop])
    obtain ⟨eb, eo, hA, _⟩ := row_at (HR.out.2.2) hlt
    have hne : ¬ a.ec = j := by omega
    have HRd := Lib.hid (show ∀ W, Ext w3 W → Rd Ent.enc 5 W (some ⟨eb, eo + j * 5, none⟩) (a.ec - j) (l.ents.drop j) from fun W h => Rd.from (by have h9 := HR.out.2.2.keep (Ext.trans X.out h); rw [hA] at h9; exact h9) hlt)
    obtain ⟨cA, cc, sA, sc, eA, ec⟩ := a
    simp only at hA
    subst hA
    go_wp2
    (refine Ap.wp_region_mix' (fun d => if d = some 27 then SlV Ent.enc 53 5 w3.heap.size (l.ents.drop j) else fun _ _ => True) (fun _ _ _ _ _ hq => hq) 11 (by kernel_rfl) (by kernel_rfl) (fun hg => ?_); simp only [List.take_succ_cons, List.take_zero, List.drop_succ_cons, List.drop_zero])
    (iterate 2 (refine Ap.wpMix_plain rfl rfl ?_; go_big_quiet_step (fail); refine wpQuiet_nil ?_))
    (refine Ap.wpMix_alloc (.cells #[] 53) rfl (fun W => by kernel_rfl) ?_; intro p1 hp1 hps1 hpi1; simp only [layVal, Act.put, List.setIfInBounds_toArray, List.set_cons_zero, List.set_cons_succ])
    (iterate 6 (refine Ap.wpMix_plain rfl rfl ?_; go_big_quiet_step (fail); refine wpQuiet_nil ?_))
    (try simp only [hsub])
    (iterate 1 (refine Ap.wpMix_plain rfl rfl ?_; go_big_quiet_step (fail); refine wpQuiet_nil ?_))
    refine wpMix_app0 (enc := Ent.enc) _ _ 31 rfl rfl 53 i0 (.agg #[.int .i64 0, .int .i64 0, .int .i64 0, .int .i64 0, .int .i64 0]) 5 40 Try.underlying31 hi hz0 hz1 hz2 rfl (by decide) Ent.len p1 rfl (some ⟨eb, eo + j * 5, none⟩) (l.ents.length - j) (ec - j) (l.ents.drop j) HLn.out rfl (fun W hW => HRd.out W hW) rfl (by unfold maxLen; simp; omega) (by simp; omega) (fun A3 c3 => ?_)
    simp only [Act.put, List.setIfInBounds_toArray, List.set_cons_zero, List.set_cons_succ]
    refine Ap.wpMix_nil ?_
    rintro w4 ⟨⟨hw4, _⟩, o3⟩
    have x : Ext w3 w4 := hw4
    have o3r := o3.rdF
    obtain ⟨E1, E2, X⟩ : Hid _ ∧ Hid _ ∧ Hid _ := ⟨Lib.hid (x.box E1.out), Lib.hid (x.box E2.out), Lib.hid (Ext.trans X.out x)⟩
    obtain ⟨R2, S2⟩ : Hid _ ∧ Hid _ := ⟨Lib.hid (R2.out.keep x), Lib.hid (S2.out.keep x)⟩
    have T3 := Lib.hid (o3r.less (B' := w.heap.size + 1 + 1) (by omega))
    have hz_w4 := x.size
    clear hw4 x o3 o3r HRd d1 z1 d6 z6 g6 E6
    (go_wp2_with (with_reducible refine wl_stopS 33 ?_); refine stop_store ((w.heap.size + 1)) (#[.int .i64 (l.base + j), .slice A2 mc.length c2, .slice B2 ms.length d2, .slice A3 (l.ents.length - j) c3]) rfl rfl (E2.out) (by kernel_rfl) rfl (by simp [Value.oneCell']) ?_)
    intro W9 e8 k9
    have HE9 := Lib.hid e8
    have HX9 := Lib.hid (chg_new X.out k9 (by omega))
    have HR9 := Lib.hid (R2.out.boxed Cel.enc_len E2.out (by decide) k9)
    have HS9 := Lib.hid (S2.out.boxed Sea.enc_len E2.out (by decide) k9)
    have HT9 := Lib.hid (T3.out.boxed Ent.len E2.out (by decide) k9)
    clear e8 k9
    go_wp2
    exact bodyPost_ret (results_two Try.results32 rfl rfl Try.underlying33 (by kernel_rfl) HE9.out) rfl ⟨⟨⟨A2, c2, B2, d2, A3, c3⟩, by rw [HF.out]; show Ending.returned (.tuple #[.agg #[.int .i64 (l.base + j), .slice A2 mc.length c2, .slice B2 ms.length d2, .slice A3 (l.ents.length - j) c3], .bool true]) = .returned (.tuple #[.agg #[.int .i64 (l.base + j), .slice A2 mc.length c2, .slice B2 ms.length d2, .slice A3 (l.ents.drop j).length c3], .bool true]); rw [← HLn.out], by rw [HF.out]; exact ⟨HR9.out.less (by omega), HS9.out.less (by omega), HT9.out.less (by omega)⟩⟩, HX9.out⟩
  · have HLn := Lib.hid (show 0 = (l.ents.drop j).length by rw [List.length_drop]; omega)
    have hjl : l.ents.length - j = 0 := by omega
    have HRd := Lib.hid (show ∀ (A : Option Addr) (c : Nat), c ≤ a.ec → ∀ W, Ext w3 W → Rd Ent.enc 5 W A c (l.ents.drop j) from fun A c hc W h => Rd.empty (by have := HEc.out.2; omega) (by simp; omega))
    obtain ⟨cA, cc, sA, sc, eA, ec⟩ := a
    by_cases hje : ec = j
    · subst hje
      go_wp2
      (refine Ap.wp_region_mix' (fun d => if d = some 27 then SlV Ent.enc 53 5 w3.heap.size (l.ents.drop ec) else fun _ _ => True) (fun _ _ _ _ _ hq => hq) 11 (by kernel_rfl) (by kernel_rfl) (fun hg => ?_); simp only [List.take_succ_cons, List.take_zero, List.drop_succ_cons, List.drop_zero])
      (iterate 2 (refine Ap.wpMix_plain rfl rfl ?_; go_big_quiet_step (fail); refine wpQuiet_nil ?_))
      (refine Ap.wpMix_alloc (.cells #[] 53) rfl (fun W => by kernel_rfl) ?_; intro p1 hp1 hps1 hpi1; simp only [layVal, Act.put, List.setIfInBounds_toArray, List.set_cons_zero, List.set_cons_succ])
      (iterate 6 (refine Ap.wpMix_plain rfl rfl ?_; go_big_quiet_step (fail); refine wpQuiet_nil ?_))
      (try simp only [hsub])
      (iterate 1 (refine Ap.wpMix_plain rfl rfl ?_; go_big_quiet_step (fail); refine wpQuiet_nil ?_))
      refine wpMix_app0 (enc := Ent.enc) _ _ 31 rfl rfl 53 i0 (.agg #[.int .i64 0, .int .i64 0, .int .i64 0, .int .i64 0, .int .i64 0]) 5 40 Try.underlying31 hi hz0 hz1 hz2 rfl (by decide) Ent.len p1 rfl eA 0 0 (l.ents.drop ec) HLn.out rfl (fun W hW => HRd.out _ _ (by show _ ≤ ec; omega) W hW) rfl (by unfold maxLen; simp; omega) (by simp; omega) (fun A3 c3 => ?_)
      simp only [Act.put, List.setIfInBounds_toArray, List.set_cons_zero, List.set_cons_succ]
      refine Ap.wpMix_nil ?_
      rintro w4 ⟨⟨hw4, _⟩, o3⟩
      have x : Ext w3 w4 := hw4
      have o3r := o3.rdF
      obtain ⟨E1, E2, X⟩ : Hid _ ∧ Hid _ ∧ Hid _ := ⟨Lib.hid (x.box E1.out), Lib.hid (x.box E2.out), Lib.hid (Ext.trans X.out x)⟩
      obtain ⟨R2, S2⟩ : Hid _ ∧ Hid _ := ⟨Lib.hid (R2.out.keep x), Lib.hid (S2.out.keep x)⟩
      have T3 := Lib.hid (o3r.less (B' := w.heap.size + 1 + 1) (by omega))
      have hz_w4 := x.size
      clear hw4 x o3 o3r HRd d1 z1 d6 z6 g6 E6
      (go_wp2_with (with_reducible refine wl_stopS 33 ?_); refine stop_store ((w.heap.size + 1)) (#[.int .i64 (l.base + ec), .slice A2 mc.length c2, .slice B2 ms.length d2, .slice A3 0 c3]) rfl rfl (E2.out) (by kernel_rfl) rfl (by simp [Value.oneCell']) ?_)
      intro W9 e8 k9
      have HE9 := Lib.hid e8
      have HX9 := Lib.hid (chg_new X.out k9 (by omega))
      have HR9 := Lib.hid (R2.out.boxed Cel.enc_len E2.out (by decide) k9)
      have HS9 := Lib.hid (S2.out.boxed Sea.enc_len E2.out (by decide) k9)
      have HT9 := Lib.hid (T3.out.boxed Ent.len E2.out (by decide) k9)
      clear e8 k9
      go_wp2
      exact bodyPost_ret (results_two Try.results32 rfl rfl Try.underlying33 (by kernel_rfl) HE9.out) rfl ⟨⟨⟨A2, c2, B2, d2, A3, c3⟩, by rw [HF.out]; show Ending.returned (.tuple #[.agg #[.int .i64 (l.base + ec), .slice A2 mc.length c2, .slice B2 ms.length d2, .slice A3 0 c3], .bool true]) = .returned (.tuple #[.agg #[.int .i64 (l.base + ec), .slice A2 mc.length c2, .slice B2 ms.length d2, .slice A3 (l.ents.drop ec).length c3], .bool true]); rw [← HLn.out], by rw [HF.out]; exact ⟨HR9.out.less (by omega), HS9.out.less (by omega), HT9.out.less (by omega)⟩⟩, HX9.out⟩
    · rcases eA with _ | ad
      · go_wp2
        (refine Ap.wp_region_mix' (fun d => if d = some 27 then SlV Ent.enc 53 5 w3.heap.size (l.ents.drop j) else fun _ _ => True) (fun _ _ _ _ _ hq => hq) 11 (by kernel_rfl) (by kernel_rfl) (fun hg => ?_); simp only [List.take_succ_cons, List.take_zero, List.drop_succ_cons, List.drop_zero])
        (iterate 2 (refine Ap.wpMix_plain rfl rfl ?_; go_big_quiet_step (fail); refine wpQuiet_nil ?_))
        (refine Ap.wpMix_alloc (.cells #[] 53) rfl (fun W => by kernel_rfl) ?_; intro p1 hp1 hps1 hpi1; simp only [layVal, Act.put, List.setIfInBounds_toArray, List.set_cons_zero, List.set_cons_succ])
        (iterate 6 (refine Ap.wpMix_plain rfl rfl ?_; go_big_quiet_step (fail); refine wpQuiet_nil ?_))
        (try simp only [hsub])
        (iterate 1 (refine Ap.wpMix_plain rfl rfl ?_; go_big_quiet_step (fail); refine wpQuiet_nil ?_))
        refine wpMix_app0 (enc := Ent.enc) _ _ 31 rfl rfl 53 i0 (.agg #[.int .i64 0, .int .i64 0, .int .i64 0, .int .i64 0, .int .i64 0]) 5 40 Try.underlying31 hi hz0 hz1 hz2 rfl (by decide) Ent.len p1 rfl none 0 (ec - j) (l.ents.drop j) HLn.out rfl (fun W hW => HRd.out _ _ (by show _ ≤ ec; omega) W hW) rfl (by unfold maxLen; simp; omega) (by simp; omega) (fun A3 c3 => ?_)
        simp only [Act.put, List.setIfInBounds_toArray, List.set_cons_zero, List.set_cons_succ]
        refine Ap.wpMix_nil ?_
        rintro w4 ⟨⟨hw4, _⟩, o3⟩
        have x : Ext w3 w4 := hw4
        have o3r := o3.rdF
        obtain ⟨E1, E2, X⟩ : Hid _ ∧ Hid _ ∧ Hid _ := ⟨Lib.hid (x.box E1.out), Lib.hid (x.box E2.out), Lib.hid (Ext.trans X.out x)⟩
        obtain ⟨R2, S2⟩ : Hid _ ∧ Hid _ := ⟨Lib.hid (R2.out.keep x), Lib.hid (S2.out.keep x)⟩
        have T3 := Lib.hid (o3r.less (B' := w.heap.size + 1 + 1) (by omega))
        have hz_w4 := x.size
        clear hw4 x o3 o3r HRd d1 z1 d6 z6 g6 E6
        (go_wp2_with (with_reducible refine wl_stopS 33 ?_); refine stop_store ((w.heap.size + 1)) (#[.int .i64 (l.base + j), .slice A2 mc.length c2, .slice B2 ms.length d2, .slice A3 0 c3]) rfl rfl (E2.out) (by kernel_rfl) rfl (by simp [Value.oneCell']) ?_)
        intro W9 e8 k9
        have HE9 := Lib.hid e8
        have HX9 := Lib.hid (chg_new X.out k9 (by omega))
        have HR9 := Lib.hid (R2.out.boxed Cel.enc_len E2.out (by decide) k9)
        have HS9 := Lib.hid (S2.out.boxed Sea.enc_len E2.out (by decide) k9)
        have HT9 := Lib.hid (T3.out.boxed Ent.len E2.out (by decide) k9)
        clear e8 k9
        go_wp2
        exact bodyPost_ret (results_two Try.results32 rfl rfl Try.underlying33 (by kernel_rfl) HE9.out) rfl ⟨⟨⟨A2, c2, B2, d2, A3, c3⟩, by rw [HF.out]; show Ending.returned (.tuple #[.agg #[.int .i64 (l.base + j), .slice A2 mc.length c2, .slice B2 ms.length d2, .slice A3 0 c3], .bool true]) = .returned (.tuple #[.agg #[.int .i64 (l.base + j), .slice A2 mc.length c2, .slice B2 ms.length d2, .slice A3 (l.ents.drop j).length c3], .bool true]); rw [← HLn.out], by rw [HF.out]; exact ⟨HR9.out.less (by omega), HS9.out.less (by omega), HT9.out.less (by omega)⟩⟩, HX9.out⟩
      · go_wp2
        (refine Ap.wp_region_mix' (fun d => if d = some 27 then SlV Ent.enc 53 5 w3.heap.size (l.ents.drop j) else fun _ _ => True) (fun _ _ _ _ _ hq => hq) 11 (by kernel_rfl) (by kernel_rfl) (fun hg => ?_); simp only [List.take_succ_cons, List.take_zero, List.drop_succ_cons, List.drop_zero])
        (iterate 2 (refine Ap.wpMix_plain rfl rfl ?_; go_big_quiet_step (fail); refine wpQuiet_nil ?_))
        (refine Ap.wpMix_alloc (.cells #[] 53) rfl (fun W => by kernel_rfl) ?_; intro p1 hp1 hps1 hpi1; simp only [layVal, Act.put, List.setIfInBounds_toArray, List.set_cons_zero, List.set_cons_succ])
        (iterate 6 (refine Ap.wpMix_plain rfl rfl ?_; go_big_quiet_step (fail); refine wpQuiet_nil ?_))
        (try simp only [hsub])
        (iterate 1 (refine Ap.wpMix_plain rfl rfl ?_; go_big_quiet_step (fail); refine wpQuiet_nil ?_))
        refine wpMix_app0 (enc := Ent.enc) _ _ 31 rfl rfl 53 i0 (.agg #[.int .i64 0, .int .i64 0, .int .i64 0, .int .i64 0, .int .i64 0]) 5 40 Try.underlying31 hi hz0 hz1 hz2 rfl (by decide) Ent.len p1 rfl (some (ad.add (j * 5))) 0 (ec - j) (l.ents.drop j) HLn.out rfl (fun W hW => HRd.out _ _ (by show _ ≤ ec; omega) W hW) rfl (by unfold maxLen; simp; omega) (by simp; omega) (fun A3 c3 => ?_)
        simp only [Act.put, List.setIfInBounds_toArray, List.set_cons_zero, List.set_cons_succ]
        refine Ap.wpMix_nil ?_
        rintro w4 ⟨⟨hw4, _⟩, o3⟩
        have x : Ext w3 w4 := hw4
        have o3r := o3.rdF
        obtain ⟨E1, E2, X⟩ : Hid _ ∧ Hid _ ∧ Hid _ := ⟨Lib.hid (x.box E1.out), Lib.hid (x.box E2.out), Lib.hid (Ext.trans X.out x)⟩
        obtain ⟨R2, S2⟩ : Hid _ ∧ Hid _ := ⟨Lib.hid (R2.out.keep x), Lib.hid (S2.out.keep x)⟩
        have T3 := Lib.hid (o3r.less (B' := w.heap.size + 1 + 1) (by omega))
        have hz_w4 := x.size
        clear hw4 x o3 o3r HRd d1 z1 d6 z6 g6 E6
        (go_wp2_with (with_reducible refine wl_stopS 33 ?_); refine stop_store ((w.heap.size + 1)) (#[.int .i64 (l.base + j), .slice A2 mc.length c2, .slice B2 ms.length d2, .slice A3 0 c3]) rfl rfl (E2.out) (by kernel_rfl) rfl (by simp [Value.oneCell']) ?_)
        intro W9 e8 k9
        have HE9 := Lib.hid e8
        have HX9 := Lib.hid (chg_new X.out k9 (by omega))
        have HR9 := Lib.hid (R2.out.boxed Cel.enc_len E2.out (by decide) k9)
        have HS9 := Lib.hid (S2.out.boxed Sea.enc_len E2.out (by decide) k9)
        have HT9 := Lib.hid (T3.out.boxed Ent.len E2.out (by decide) k9)
        clear e8 k9
        go_wp2
        exact bodyPost_ret (results_two Try.results32 rfl rfl Try.underlying33 (by kernel_rfl) HE9.out) rfl ⟨⟨⟨A2, c2, B2, d2, A3, c3⟩, by rw [HF.out]; show Ending.returned (.tuple #[.agg #[.int .i64 (l.base + j), .slice A2 mc.length c2, .slice B2 ms.length d2, .slice A3 0 c3], .bool true]) = .returned (.tuple #[.agg #[.int .i64 (l.base + j), .slice A2 mc.length c2, .slice B2 ms.length d2, .slice A3 (l.ents.drop j).length c3], .bool true]); rw [← HLn.out], by rw [HF.out]; exact ⟨HR9.out.less (by omega), HS9.out.less (by omega), HT9.out.less (by omega)⟩⟩, HX9.out⟩
theorem ImW.mono (B : Nat) (cs : List Cel) (ss : List Sea) : Mono (ImW B cs ss) := fun v w w' ⟨A, c, A', c', h, h1, h2⟩ hx => ⟨A, c, A', c', h, h1.kept hx, h2.kept hx⟩
end Go.Proofs.Ytednimdklbmjgaa
