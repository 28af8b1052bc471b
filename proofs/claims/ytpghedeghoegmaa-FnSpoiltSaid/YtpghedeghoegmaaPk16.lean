/- LogFold of the reference and of the program. -/
import Derived.Test.YtpghedeghoegmaaPk15
import Derived.Test.YtpghedeghoegmaaProg
import Derived.Test.YtpghedeghoegmaaPk1
import Derived.Deep.QuietTactic
import Derived.BigQuiet
namespace Go.Proofs.Ytpghedeghoegmaa
open Go.ChangeShapes Go.WideShapes Go.ChangeAt Go.RowKit Go.Sort
set_option linter.unusedVariables false
set_option linter.unusedSimpArgs false
def foldL (l : Lg) (j : Nat) : Lg := ⟨l.base + j, (allI (l.cells, l.seats) (l.ents.take j)).1, (allI (l.cells, l.seats) (l.ents.take j)).2, l.ents.drop j⟩
theorem foldL_eq {l : Lg} {j : Nat} {mc : List Cel} {ms : List Sea} (h : allI (l.cells, l.seats) (l.ents.take j) = (mc, ms)) : foldL l j = ⟨l.base + j, mc, ms, l.ents.drop j⟩ := by
 unfold foldL
 rw [h]
theorem Rd.empty {α : Type} {enc : α → List Value} {sz : Nat} {w : World} {A : Option Addr} {c : Nat} {l : List α} (hc : c ≤ maxLen) (hl : l.length = 0) : Rd enc sz w A c l := ⟨by omega, hc, fun h => absurd h (by omega)⟩
theorem Rd.from {α : Type} {enc : α → List Value} {sz : Nat} {w : World} {b o c : Nat} {l : List α} (h : Rd enc sz w (some ⟨b, o, none⟩) c l) {j : Nat} (hj : j < l.length) : Rd enc sz w (some ⟨b, o + j * sz, none⟩) (c - j) (l.drop j) := by
 obtain ⟨b', o', he, hb, hc⟩ := h.2.2 (by omega)
 simp only [Option.some.injEq, Addr.mk.injEq, and_true] at he
 obtain ⟨rfl, rfl⟩ := he
 refine ⟨by have := h.1; rw [List.length_drop]; omega, by have := h.2.1; omega, fun _ => ⟨b, o + j * sz, rfl, hb, fun k hk i u hu => ?_⟩⟩
 rw [List.length_drop] at hk
 rw [List.getElem_drop] at hu
 have := hc (j + k) (by omega) i u hu
 rw [show o + j * sz + k * sz = o + (j + k) * sz by rw [Nat.add_mul]; omega]
 exact this
abbrev Lg.zobj : Obj := .cells #[.int .i64 0, .slice Option.none 0 0, .slice Option.none 0 0, .slice Option.none 0 0] 44
set_option maxRecDepth 100000 in
set_option maxHeartbeats 8000000 in
theorem c_sLogFold (a : LAd) (l : Lg) (j : Nat) (w : World) (hr : LgR w a l) (hok : logOk l = true) (hj : j ≤ l.ents.length) :
  Calls Try.prog 129 #[Lg.val a l, .int .i64 (l.base + j)] w fun e9 w' => (∃ a', e9 = .returned (.tuple #[Lg.val a' (foldL l j), .bool true]) ∧ LgF w' w.heap.size a' (foldL l j)) ∧ Ext w w' := by
 obtain ⟨hb0, hb1, h60, hIm, hAll⟩ := log_b hok
 obtain ⟨i0, hi, hz0, hz1, hz2⟩ := info_parts Try.infoEnt
 obtain ⟨w1, hw1⟩ : ∃ w1, ((w.alloc (Lg.obj a l)).alloc Lg.zobj) = w1 := ⟨_, rfl⟩
 have X0 : Ext w w1 := by rw [← hw1]; exact ext_to (ext_alloc _ _) _
 have E1 := Hd (show w1.heap[w.heap.size]? = some (Lg.obj a l) by rw [← hw1]; exact hOld (o := Lg.zobj) (hNew (w := w) (o := Lg.obj a l) rfl))
 have E2 := Hd (show w1.heap[w.heap.size + 1]? = some Lg.zobj by rw [← hw1]; exact hNew (w := w.alloc (Lg.obj a l)) (o := Lg.zobj) (k := w.heap.size + 1) (by simp))
 have HR := Hd hr
 have X := Hd X0
 have hz1_ := bx_lt E2.out
 have HW0 := Hd hw1
 have hsub : l.base + (j : Int) - l.base = (j : Int) := by omega
 have HEc := Hd (show l.ents.length ≤ a.ec ∧ a.ec ≤ maxLen from ⟨HR.out.2.2.1, HR.out.2.2.2.1⟩)
 have hec := HEc.out.1
 have HCon := Hd (c_sLogImage a l j w1 (hr.keep X0) hok hj)
 clear hr hok hw1 X0 hIm hAll
 go_enter Try.func129, Try.ntmps129
 go_wp2_with (with_reducible refine wl_stop 9 ?_)
 refine stop_go (F := fun W => W = w1) HW0.out ?_
 intro W1 hW1
 subst hW1
 clear HW0
 (go_wp2_with (with_reducible refine wl_stop 9 ?_); refine stop_load (E1.out) rfl Try.underlying44 (by kernel_rfl) ?_; simp only [Act.put, Sa, Sz, Ss])
 go_wp2_with fail
 refine HCon.out.mono ?_
 rintro e9 w2 ⟨⟨A2, c2, B2, d2, rfl, r2, s2⟩, x⟩
 obtain ⟨E1, E2, X⟩ : Hid _ ∧ Hid _ ∧ Hid _ := ⟨Hd (x.box E1.out), Hd (x.box E2.out), Hd (Ext.trans X.out x)⟩
 have hz_w2 := x.size
 clear x HCon
 obtain ⟨mc, ms, hm⟩ : ∃ mc ms, allI (l.cells, l.seats) (l.ents.take j) = (mc, ms) := ⟨_, _, rfl⟩
 have HF := Hd (foldL_eq hm)
 rw [hm] at r2 s2
 rw [hm]
 have R2 := Hd (show RdF Cel.enc 101 2 w2 (w.heap.size + 1 + 1) A2 c2 mc from r2.less (by omega))
 have S2 := Hd (show RdF Sea.enc 103 3 w2 (w.heap.size + 1 + 1) B2 d2 ms from s2.less (by omega))
 clear r2 s2 hm
 have EQ := Hd (hNew (w := w2) (o := Im.zobj) rfl)
 (go_wp2_with (with_reducible refine wl_stopS 41 ?_); refine stop_store (w2.heap.size) (Im.cs A2 mc.length c2 B2 ms.length d2) rfl rfl (EQ.out) (by kernel_rfl) rfl (by simp [Value.oneCell']) ?_)
 intro w3 e3 k3
 have x3 := chg_new (ext_alloc w2 Im.zobj) k3 (Nat.le_refl _)
 obtain ⟨E1, E2, X⟩ : Hid _ ∧ Hid _ ∧ Hid _ := ⟨Hd (x3.box E1.out), Hd (x3.box E2.out), Hd (Ext.trans X.out x3)⟩
 obtain ⟨R2, S2⟩ : Hid _ ∧ Hid _ := ⟨Hd (R2.out.keep x3), Hd (S2.out.keep x3)⟩
 have E6 := Hd e3
 have hz_w3 := x3.size
 clear e3 k3 x3 EQ
 have d1 := bx_cell E1.out
 have z1 := bx_lt E1.out
 have d6 := bx_cell E6.out
 have z6 := bx_lt E6.out
 have g6 := bx_frozen E6.out
 by_cases hlt : j < l.ents.length
 ·have HLn := Hd (show l.ents.length - j = (l.ents.drop j).length by rw [List.length_drop])
  obtain ⟨eb, eo, hA, _⟩ := row_at (HR.out.2.2) hlt
  have hne : ¬ a.ec = j := by omega
  have HRd := Hd (show ∀ W, Ext w3 W → Rd Ent.enc 5 W (some ⟨eb, eo + j * 5, none⟩) (a.ec - j) (l.ents.drop j) from fun W h => Rd.from (by have h9 := HR.out.2.2.keep (Ext.trans X.out h); rw [hA] at h9; exact h9) hlt)
  obtain ⟨cA, cc, sA, sc, eA, ec⟩ := a
  simp only at hA
  subst hA
  go_wp2
  (refine Ap.wp_region_mix' (fun d => if d = some 27 then SlV Ent.enc 105 5 w3.heap.size (l.ents.drop j) else fun _ _ => True) (fun _ _ _ _ _ hq => hq) 11 (by kernel_rfl) (by kernel_rfl) (fun hg => ?_); simp only [Tc, Tz, Dc, Dz])
  (iterate 2 (refine Ap.wpMix_plain rfl rfl ?_; go_big_quiet_step (fail); refine wpQuiet_nil ?_))
  (refine Ap.wpMix_alloc (.cells #[] 105) rfl (fun W => by kernel_rfl) ?_; intro p1 hp1 hps1 hpi1; simp only [layVal, Act.put, Sa, Sz, Ss])
  (iterate 6 (refine Ap.wpMix_plain rfl rfl ?_; go_big_quiet_step (fail); refine wpQuiet_nil ?_))
  (try simp only [hsub])
  (iterate 1 (refine Ap.wpMix_plain rfl rfl ?_; go_big_quiet_step (fail); refine wpQuiet_nil ?_))
  refine wpMix_app0 (enc := Ent.enc) _ _ 42 rfl rfl 105 i0 (.agg #[.int .i64 0, .int .i64 0, .int .i64 0, .int .i64 0, .int .i64 0]) 5 40 Try.underlying42 hi hz0 hz1 hz2 rfl (by decide) Ent.len p1 rfl (some ⟨eb, eo + j * 5, none⟩) (l.ents.length - j) (ec - j) (l.ents.drop j) HLn.out rfl (fun W hW => HRd.out W hW) rfl (by unfold maxLen; simp; omega) (by simp; omega) (fun A3 c3 => ?_)
  simp only [Act.put, Sa, Sz, Ss]
  refine Ap.wpMix_nil ?_
  rintro w4 ⟨⟨hw4, _⟩, o3⟩
  have x : Ext w3 w4 := hw4
  have o3r := o3.rdF
  obtain ⟨E1, E2, X⟩ : Hid _ ∧ Hid _ ∧ Hid _ := ⟨Hd (x.box E1.out), Hd (x.box E2.out), Hd (Ext.trans X.out x)⟩
  obtain ⟨R2, S2⟩ : Hid _ ∧ Hid _ := ⟨Hd (R2.out.keep x), Hd (S2.out.keep x)⟩
  have T3 := Hd (o3r.less (B' := w.heap.size + 1 + 1) (by omega))
  have hz_w4 := x.size
  clear hw4 x o3 o3r HRd d1 z1 d6 z6 g6 E6
  (go_wp2_with (with_reducible refine wl_stopS 44 ?_); refine stop_store ((w.heap.size + 1)) (#[.int .i64 (l.base + j), .slice A2 mc.length c2, .slice B2 ms.length d2, .slice A3 (l.ents.length - j) c3]) rfl rfl (E2.out) (by kernel_rfl) rfl (by simp [Value.oneCell']) ?_)
  intro W9 e8 k9
  have HE9 := Hd e8
  have HX9 := Hd (chg_new X.out k9 (by omega))
  have HR9 := Hd (R2.out.boxed Cel.enc_len E2.out (by decide) k9)
  have HS9 := Hd (S2.out.boxed Sea.enc_len E2.out (by decide) k9)
  have HT9 := Hd (T3.out.boxed Ent.len E2.out (by decide) k9)
  clear e8 k9
  go_wp2
  exact bodyPost_ret (results_two Try.results129 rfl rfl Try.underlying44 (by kernel_rfl) HE9.out) rfl ⟨⟨⟨A2, c2, B2, d2, A3, c3⟩, by rw [HF.out]; show Ending.returned (.tuple #[.agg #[.int .i64 (l.base + j), .slice A2 mc.length c2, .slice B2 ms.length d2, .slice A3 (l.ents.length - j) c3], .bool true]) = .returned (.tuple #[.agg #[.int .i64 (l.base + j), .slice A2 mc.length c2, .slice B2 ms.length d2, .slice A3 (l.ents.drop j).length c3], .bool true]); rw [← HLn.out], by rw [HF.out]; exact ⟨HR9.out.less (by omega), HS9.out.less (by omega), HT9.out.less (by omega)⟩⟩, HX9.out⟩
 ·have HLn := Hd (show 0 = (l.ents.drop j).length by rw [List.length_drop]; omega)
  have hjl : l.ents.length - j = 0 := by omega
  have HRd := Hd (show ∀ (A : Option Addr) (c : Nat), c ≤ a.ec → ∀ W, Ext w3 W → Rd Ent.enc 5 W A c (l.ents.drop j) from fun A c hc W h => Rd.empty (by have := HEc.out.2; omega) (by simp; omega))
  obtain ⟨cA, cc, sA, sc, eA, ec⟩ := a
  by_cases hje : ec = j
  ·subst hje
   go_wp2
   (refine Ap.wp_region_mix' (fun d => if d = some 27 then SlV Ent.enc 105 5 w3.heap.size (l.ents.drop ec) else fun _ _ => True) (fun _ _ _ _ _ hq => hq) 11 (by kernel_rfl) (by kernel_rfl) (fun hg => ?_); simp only [Tc, Tz, Dc, Dz])
   (iterate 2 (refine Ap.wpMix_plain rfl rfl ?_; go_big_quiet_step (fail); refine wpQuiet_nil ?_))
   (refine Ap.wpMix_alloc (.cells #[] 105) rfl (fun W => by kernel_rfl) ?_; intro p1 hp1 hps1 hpi1; simp only [layVal, Act.put, Sa, Sz, Ss])
   (iterate 6 (refine Ap.wpMix_plain rfl rfl ?_; go_big_quiet_step (fail); refine wpQuiet_nil ?_))
   (try simp only [hsub])
   (iterate 1 (refine Ap.wpMix_plain rfl rfl ?_; go_big_quiet_step (fail); refine wpQuiet_nil ?_))
   refine wpMix_app0 (enc := Ent.enc) _ _ 42 rfl rfl 105 i0 (.agg #[.int .i64 0, .int .i64 0, .int .i64 0, .int .i64 0, .int .i64 0]) 5 40 Try.underlying42 hi hz0 hz1 hz2 rfl (by decide) Ent.len p1 rfl eA 0 0 (l.ents.drop ec) HLn.out rfl (fun W hW => HRd.out _ _ (by show _ ≤ ec; omega) W hW) rfl (by unfold maxLen; simp; omega) (by simp; omega) (fun A3 c3 => ?_)
   simp only [Act.put, Sa, Sz, Ss]
   refine Ap.wpMix_nil ?_
   rintro w4 ⟨⟨hw4, _⟩, o3⟩
   have x : Ext w3 w4 := hw4
   have o3r := o3.rdF
   obtain ⟨E1, E2, X⟩ : Hid _ ∧ Hid _ ∧ Hid _ := ⟨Hd (x.box E1.out), Hd (x.box E2.out), Hd (Ext.trans X.out x)⟩
   obtain ⟨R2, S2⟩ : Hid _ ∧ Hid _ := ⟨Hd (R2.out.keep x), Hd (S2.out.keep x)⟩
   have T3 := Hd (o3r.less (B' := w.heap.size + 1 + 1) (by omega))
   have hz_w4 := x.size
   clear hw4 x o3 o3r HRd d1 z1 d6 z6 g6 E6
   (go_wp2_with (with_reducible refine wl_stopS 44 ?_); refine stop_store ((w.heap.size + 1)) (#[.int .i64 (l.base + ec), .slice A2 mc.length c2, .slice B2 ms.length d2, .slice A3 0 c3]) rfl rfl (E2.out) (by kernel_rfl) rfl (by simp [Value.oneCell']) ?_)
   intro W9 e8 k9
   have HE9 := Hd e8
   have HX9 := Hd (chg_new X.out k9 (by omega))
   have HR9 := Hd (R2.out.boxed Cel.enc_len E2.out (by decide) k9)
   have HS9 := Hd (S2.out.boxed Sea.enc_len E2.out (by decide) k9)
   have HT9 := Hd (T3.out.boxed Ent.len E2.out (by decide) k9)
   clear e8 k9
   go_wp2
   exact bodyPost_ret (results_two Try.results129 rfl rfl Try.underlying44 (by kernel_rfl) HE9.out) rfl ⟨⟨⟨A2, c2, B2, d2, A3, c3⟩, by rw [HF.out]; show Ending.returned (.tuple #[.agg #[.int .i64 (l.base + ec), .slice A2 mc.length c2, .slice B2 ms.length d2, .slice A3 0 c3], .bool true]) = .returned (.tuple #[.agg #[.int .i64 (l.base + ec), .slice A2 mc.length c2, .slice B2 ms.length d2, .slice A3 (l.ents.drop ec).length c3], .bool true]); rw [← HLn.out], by rw [HF.out]; exact ⟨HR9.out.less (by omega), HS9.out.less (by omega), HT9.out.less (by omega)⟩⟩, HX9.out⟩
  ·rcases eA with _ | ad
   ·go_wp2
    (refine Ap.wp_region_mix' (fun d => if d = some 27 then SlV Ent.enc 105 5 w3.heap.size (l.ents.drop j) else fun _ _ => True) (fun _ _ _ _ _ hq => hq) 11 (by kernel_rfl) (by kernel_rfl) (fun hg => ?_); simp only [Tc, Tz, Dc, Dz])
    (iterate 2 (refine Ap.wpMix_plain rfl rfl ?_; go_big_quiet_step (fail); refine wpQuiet_nil ?_))
    (refine Ap.wpMix_alloc (.cells #[] 105) rfl (fun W => by kernel_rfl) ?_; intro p1 hp1 hps1 hpi1; simp only [layVal, Act.put, Sa, Sz, Ss])
    (iterate 6 (refine Ap.wpMix_plain rfl rfl ?_; go_big_quiet_step (fail); refine wpQuiet_nil ?_))
    (try simp only [hsub])
    (iterate 1 (refine Ap.wpMix_plain rfl rfl ?_; go_big_quiet_step (fail); refine wpQuiet_nil ?_))
    refine wpMix_app0 (enc := Ent.enc) _ _ 42 rfl rfl 105 i0 (.agg #[.int .i64 0, .int .i64 0, .int .i64 0, .int .i64 0, .int .i64 0]) 5 40 Try.underlying42 hi hz0 hz1 hz2 rfl (by decide) Ent.len p1 rfl none 0 (ec - j) (l.ents.drop j) HLn.out rfl (fun W hW => HRd.out _ _ (by show _ ≤ ec; omega) W hW) rfl (by unfold maxLen; simp; omega) (by simp; omega) (fun A3 c3 => ?_)
    simp only [Act.put, Sa, Sz, Ss]
    refine Ap.wpMix_nil ?_
    rintro w4 ⟨⟨hw4, _⟩, o3⟩
    have x : Ext w3 w4 := hw4
    have o3r := o3.rdF
    obtain ⟨E1, E2, X⟩ : Hid _ ∧ Hid _ ∧ Hid _ := ⟨Hd (x.box E1.out), Hd (x.box E2.out), Hd (Ext.trans X.out x)⟩
    obtain ⟨R2, S2⟩ : Hid _ ∧ Hid _ := ⟨Hd (R2.out.keep x), Hd (S2.out.keep x)⟩
    have T3 := Hd (o3r.less (B' := w.heap.size + 1 + 1) (by omega))
    have hz_w4 := x.size
    clear hw4 x o3 o3r HRd d1 z1 d6 z6 g6 E6
    (go_wp2_with (with_reducible refine wl_stopS 44 ?_); refine stop_store ((w.heap.size + 1)) (#[.int .i64 (l.base + j), .slice A2 mc.length c2, .slice B2 ms.length d2, .slice A3 0 c3]) rfl rfl (E2.out) (by kernel_rfl) rfl (by simp [Value.oneCell']) ?_)
    intro W9 e8 k9
    have HE9 := Hd e8
    have HX9 := Hd (chg_new X.out k9 (by omega))
    have HR9 := Hd (R2.out.boxed Cel.enc_len E2.out (by decide) k9)
    have HS9 := Hd (S2.out.boxed Sea.enc_len E2.out (by decide) k9)
    have HT9 := Hd (T3.out.boxed Ent.len E2.out (by decide) k9)
    clear e8 k9
    go_wp2
    exact bodyPost_ret (results_two Try.results129 rfl rfl Try.underlying44 (by kernel_rfl) HE9.out) rfl ⟨⟨⟨A2, c2, B2, d2, A3, c3⟩, by rw [HF.out]; show Ending.returned (.tuple #[.agg #[.int .i64 (l.base + j), .slice A2 mc.length c2, .slice B2 ms.length d2, .slice A3 0 c3], .bool true]) = .returned (.tuple #[.agg #[.int .i64 (l.base + j), .slice A2 mc.length c2, .slice B2 ms.length d2, .slice A3 (l.ents.drop j).length c3], .bool true]); rw [← HLn.out], by rw [HF.out]; exact ⟨HR9.out.less (by omega), HS9.out.less (by omega), HT9.out.less (by omega)⟩⟩, HX9.out⟩
   ·go_wp2
    (refine Ap.wp_region_mix' (fun d => if d = some 27 then SlV Ent.enc 105 5 w3.heap.size (l.ents.drop j) else fun _ _ => True) (fun _ _ _ _ _ hq => hq) 11 (by kernel_rfl) (by kernel_rfl) (fun hg => ?_); simp only [Tc, Tz, Dc, Dz])
    (iterate 2 (refine Ap.wpMix_plain rfl rfl ?_; go_big_quiet_step (fail); refine wpQuiet_nil ?_))
    (refine Ap.wpMix_alloc (.cells #[] 105) rfl (fun W => by kernel_rfl) ?_; intro p1 hp1 hps1 hpi1; simp only [layVal, Act.put, Sa, Sz, Ss])
    (iterate 6 (refine Ap.wpMix_plain rfl rfl ?_; go_big_quiet_step (fail); refine wpQuiet_nil ?_))
    (try simp only [hsub])
    (iterate 1 (refine Ap.wpMix_plain rfl rfl ?_; go_big_quiet_step (fail); refine wpQuiet_nil ?_))
    refine wpMix_app0 (enc := Ent.enc) _ _ 42 rfl rfl 105 i0 (.agg #[.int .i64 0, .int .i64 0, .int .i64 0, .int .i64 0, .int .i64 0]) 5 40 Try.underlying42 hi hz0 hz1 hz2 rfl (by decide) Ent.len p1 rfl (some (ad.add (j * 5))) 0 (ec - j) (l.ents.drop j) HLn.out rfl (fun W hW => HRd.out _ _ (by show _ ≤ ec; omega) W hW) rfl (by unfold maxLen; simp; omega) (by simp; omega) (fun A3 c3 => ?_)
    simp only [Act.put, Sa, Sz, Ss]
    refine Ap.wpMix_nil ?_
    rintro w4 ⟨⟨hw4, _⟩, o3⟩
    have x : Ext w3 w4 := hw4
    have o3r := o3.rdF
    obtain ⟨E1, E2, X⟩ : Hid _ ∧ Hid _ ∧ Hid _ := ⟨Hd (x.box E1.out), Hd (x.box E2.out), Hd (Ext.trans X.out x)⟩
    obtain ⟨R2, S2⟩ : Hid _ ∧ Hid _ := ⟨Hd (R2.out.keep x), Hd (S2.out.keep x)⟩
    have T3 := Hd (o3r.less (B' := w.heap.size + 1 + 1) (by omega))
    have hz_w4 := x.size
    clear hw4 x o3 o3r HRd d1 z1 d6 z6 g6 E6
    (go_wp2_with (with_reducible refine wl_stopS 44 ?_); refine stop_store ((w.heap.size + 1)) (#[.int .i64 (l.base + j), .slice A2 mc.length c2, .slice B2 ms.length d2, .slice A3 0 c3]) rfl rfl (E2.out) (by kernel_rfl) rfl (by simp [Value.oneCell']) ?_)
    intro W9 e8 k9
    have HE9 := Hd e8
    have HX9 := Hd (chg_new X.out k9 (by omega))
    have HR9 := Hd (R2.out.boxed Cel.enc_len E2.out (by decide) k9)
    have HS9 := Hd (S2.out.boxed Sea.enc_len E2.out (by decide) k9)
    have HT9 := Hd (T3.out.boxed Ent.len E2.out (by decide) k9)
    clear e8 k9
    go_wp2
    exact bodyPost_ret (results_two Try.results129 rfl rfl Try.underlying44 (by kernel_rfl) HE9.out) rfl ⟨⟨⟨A2, c2, B2, d2, A3, c3⟩, by rw [HF.out]; show Ending.returned (.tuple #[.agg #[.int .i64 (l.base + j), .slice A2 mc.length c2, .slice B2 ms.length d2, .slice A3 0 c3], .bool true]) = .returned (.tuple #[.agg #[.int .i64 (l.base + j), .slice A2 mc.length c2, .slice B2 ms.length d2, .slice A3 (l.ents.drop j).length c3], .bool true]); rw [← HLn.out], by rw [HF.out]; exact ⟨HR9.out.less (by omega), HS9.out.less (by omega), HT9.out.less (by omega)⟩⟩, HX9.out⟩
theorem ImW.mono (B : Nat) (cs : List Cel) (ss : List Sea) : Mono (ImW B cs ss) := fun v w w' ⟨A, c, A', c', h, h1, h2⟩ hx => ⟨A, c, A', c', h, h1.kept hx, h2.kept hx⟩
def foldR (l : Lg) (n : Int) : Lg × Bool := if hasNum l n = true then (foldL l (n - l.base).toNat, true) else (Lg.none, false)
theorem foldR_no {l : Lg} {n : Int} (h : hasNum l n = false) : foldR l n = (Lg.none, false) := by unfold foldR; rw [h]; rfl
theorem foldR_yes {l : Lg} {n : Int} (h : hasNum l n = true) : ∃ j : Nat, n = l.base + (j : Int) ∧ j ≤ l.ents.length ∧ logOk l = true ∧ foldR l n = (foldL l j, true) := by
 have h2 := hasNum_ok h
 unfold Lg.fin at h2
 refine ⟨(n - l.base).toNat, by omega, by omega, h2.1, ?_⟩
 unfold foldR
 rw [if_pos h]
theorem lgF_none (w : World) (B : Nat) : LgF w B LAd.none Lg.none := ⟨RdF.nil _ _ _ _ _, RdF.nil _ _ _ _ _, RdF.nil _ _ _ _ _⟩
set_option maxRecDepth 100000 in
set_option maxHeartbeats 8000000 in
theorem c_sLogImageNo (a : LAd) (l : Lg) (n : Int) (w : World) (hr : LgR w a l) (hs : l.small) (hn : hasNum l n = false) :
  Calls Try.prog 137 #[Lg.val a l, .int .i64 n] w fun e9 w' => e9 = .returned (.tuple #[.agg #[.slice none 0 0, .slice none 0 0], .bool false]) ∧ Ext w w' := by
 obtain ⟨w1, hw1⟩ : ∃ w1, ((w.alloc (Lg.obj a l)).alloc Im.zobj) = w1 := ⟨_, rfl⟩
 have X0 : Ext w w1 := by rw [← hw1]; exact ext_to (ext_alloc _ _) _
 have E1 := Hd (show w1.heap[w.heap.size]? = some (Lg.obj a l) by rw [← hw1]; exact hOld (o := Im.zobj) (hNew (w := w) (o := Lg.obj a l) rfl))
 have E2 := Hd (show w1.heap[w.heap.size + 1]? = some Im.zobj by rw [← hw1]; exact hNew (w := w.alloc (Lg.obj a l)) (o := Im.zobj) (k := w.heap.size + 1) (by simp))
 have X := Hd X0
 have hz1_ := bx_lt E2.out
 have HW0 := Hd hw1
 have hcon := c_l3Among a l n hs w1 (hr.keep X0)
 rw [hn] at hcon
 have HCon := Hd hcon
 clear hcon
 clear hr hw1 X0
 go_enter Try.func137, Try.ntmps137
 go_wp2_with (with_reducible refine wl_stop 8 ?_)
 refine stop_go (F := fun W => W = w1) HW0.out ?_
 intro W1 hW1
 subst hW1
 clear HW0
 (go_wp2_with (with_reducible refine wl_stop 8 ?_); refine stop_load (E1.out) rfl Try.underlying44 (by kernel_rfl) ?_; simp only [Act.put, Sa, Sz, Ss])
 go_wp2_with fail
 refine HCon.out.mono ?_
 rintro e9 w2 ⟨rfl, x⟩
 obtain ⟨E1, E2, X⟩ : Hid _ ∧ Hid _ ∧ Hid _ := ⟨Hd (x.box E1.out), Hd (x.box E2.out), Hd (Ext.trans X.out x)⟩
 have hz_w2 := x.size
 clear x
 clear HCon
 (go_wp2_with (with_reducible refine wl_stopS 41 ?_); refine stop_store ((w.heap.size + 1)) #[.slice none 0 0, .slice none 0 0] rfl rfl (E2.out) (by kernel_rfl) rfl (by simp [Value.oneCell']) ?_)
 intro W9 e8 k9
 have HE9 := Hd e8
 have HX9 := Hd (chg_new X.out k9 (by omega))
 clear e8 k9
 go_wp2
 exact bodyPost_ret (results_two Try.results137 rfl rfl Try.underlying41 (by kernel_rfl) HE9.out) rfl ⟨rfl, HX9.out⟩
set_option maxRecDepth 100000 in
set_option maxHeartbeats 8000000 in
theorem c_sLogFoldNo (a : LAd) (l : Lg) (n : Int) (w : World) (hr : LgR w a l) (hs : l.small) (hn : hasNum l n = false) :
  Calls Try.prog 129 #[Lg.val a l, .int .i64 n] w fun e9 w' => e9 = .returned (.tuple #[.agg #[.int .i64 0, .slice none 0 0, .slice none 0 0, .slice none 0 0], .bool false]) ∧ Ext w w' := by
 obtain ⟨w1, hw1⟩ : ∃ w1, ((w.alloc (Lg.obj a l)).alloc Lg.zobj) = w1 := ⟨_, rfl⟩
 have X0 : Ext w w1 := by rw [← hw1]; exact ext_to (ext_alloc _ _) _
 have E1 := Hd (show w1.heap[w.heap.size]? = some (Lg.obj a l) by rw [← hw1]; exact hOld (o := Lg.zobj) (hNew (w := w) (o := Lg.obj a l) rfl))
 have E2 := Hd (show w1.heap[w.heap.size + 1]? = some Lg.zobj by rw [← hw1]; exact hNew (w := w.alloc (Lg.obj a l)) (o := Lg.zobj) (k := w.heap.size + 1) (by simp))
 have X := Hd X0
 have hz1_ := bx_lt E2.out
 have HW0 := Hd hw1
 have HCon := Hd (c_sLogImageNo a l n w1 (hr.keep X0) hs hn)
 clear hr hw1 X0
 go_enter Try.func129, Try.ntmps129
 go_wp2_with (with_reducible refine wl_stop 9 ?_)
 refine stop_go (F := fun W => W = w1) HW0.out ?_
 intro W1 hW1
 subst hW1
 clear HW0
 (go_wp2_with (with_reducible refine wl_stop 9 ?_); refine stop_load (E1.out) rfl Try.underlying44 (by kernel_rfl) ?_; simp only [Act.put, Sa, Sz, Ss])
 go_wp2_with fail
 refine HCon.out.mono ?_
 rintro e9 w2 ⟨rfl, x⟩
 obtain ⟨E1, E2, X⟩ : Hid _ ∧ Hid _ ∧ Hid _ := ⟨Hd (x.box E1.out), Hd (x.box E2.out), Hd (Ext.trans X.out x)⟩
 have hz_w2 := x.size
 clear x
 clear HCon
 have hz_w2 := X.out.size
 have EQ := Hd (hNew (w := w2) (o := Im.zobj) rfl)
 (go_wp2_with (with_reducible refine wl_stopS 41 ?_); refine stop_store (w2.heap.size) #[.slice none 0 0, .slice none 0 0] rfl rfl (EQ.out) (by kernel_rfl) rfl (by simp [Value.oneCell']) ?_)
 intro w3 e3 k3
 have x3 := chg_new (ext_alloc w2 Im.zobj) k3 (Nat.le_refl _)
 obtain ⟨E1, E2, X⟩ : Hid _ ∧ Hid _ ∧ Hid _ := ⟨Hd (x3.box E1.out), Hd (x3.box E2.out), Hd (Ext.trans X.out x3)⟩
 clear e3 k3 x3 EQ
 (go_wp2_with (with_reducible refine wl_stopS 44 ?_); refine stop_store ((w.heap.size + 1)) #[.int .i64 0, .slice none 0 0, .slice none 0 0, .slice none 0 0] rfl rfl (E2.out) (by kernel_rfl) rfl (by simp [Value.oneCell']) ?_)
 intro W9 e8 k9
 have HE9 := Hd e8
 have HX9 := Hd (chg_new X.out k9 (by omega))
 clear e8 k9
 go_wp2
 exact bodyPost_ret (results_two Try.results129 rfl rfl Try.underlying44 (by kernel_rfl) HE9.out) rfl ⟨rfl, HX9.out⟩
theorem c_sFold (a : LAd) (l : Lg) (n : Int) (w : World) (hr : LgR w a l) (hs : l.small) :
  Calls Try.prog 129 #[Lg.val a l, .int .i64 n] w fun e9 w' => (∃ a', e9 = .returned (.tuple #[Lg.val a' (foldR l n).1, .bool (foldR l n).2]) ∧ LgF w' w.heap.size a' (foldR l n).1) ∧ Ext w w' := by
 cases h : hasNum l n
 ·rw [foldR_no h]
  exact (c_sLogFoldNo a l n w hr hs h).mono fun e w' ⟨h1, hx⟩ => ⟨⟨LAd.none, h1, lgF_none _ _⟩, hx⟩
 ·obtain ⟨j, rfl, hj, hok, e⟩ := foldR_yes h
  rw [e]
  exact c_sLogFold a l j w hr hok hj
theorem bits_and_le (x : Int) (m : Nat) (hm : m < 9223372036854775808) : 0 ≤ bits .and .i64 x m ∧ bits .and .i64 x m ≤ m := by
 have e : bits .and .i64 x m = IntKind.i64.wrap ((BitVec.ofInt 64 x &&& BitVec.ofInt 64 (m : Int)).toNat : Int) := rfl
 have h1 : (BitVec.ofInt 64 x &&& BitVec.ofInt 64 (m : Int)).toNat ≤ m := by
  rw [BitVec.toNat_and]
  refine Nat.le_trans Nat.and_le_right ?_
  rw [BitVec.toNat_ofInt]
  omega
 rw [e, IntKind.wrap_i64]
 generalize (BitVec.ofInt 64 x &&& BitVec.ofInt 64 (m : Int)).toNat = q at *
 omega
def CodeOk (w : World) (A : Option Addr) (n P : Nat) : Prop := n ≤ 1048576 ∧ (0 < n → ∃ b o, A = some ⟨b, o, none⟩ ∧ b < P ∧ ∀ k, k < n → ∃ y : Nat, y ≤ 255 ∧ w.cell? ⟨b, o + k, none⟩ = some (.int .u8 y))
theorem CodeOk.grown {w w' : World} {A : Option Addr} {n P : Nat} (h : CodeOk w A n P) (hP : P ≤ w.heap.size) {row : Option Nat} (hg : w.grownBy w' row) (hr : ∀ g, row = some g → P ≤ g) : CodeOk w' A n P := by
 refine ⟨h.1, fun h0 => ?_⟩
 obtain ⟨b, o, e, hb, hc⟩ := h.2 h0
 refine ⟨b, o, e, hb, fun k hk => ?_⟩
 obtain ⟨y, hy, hcell⟩ := hc k hk
 refine ⟨y, hy, ?_⟩
 rw [World.cell?_of_block (a := ⟨b, o + k, none⟩) (hg.block b (by omega) (fun he => by have := hr b he.symm; omega))]
 exact hcell
theorem CodeOk.up {w : World} {A : Option Addr} {n P P' : Nat} (h : CodeOk w A n P) (hP : P ≤ P') : CodeOk w A n P' := ⟨h.1, fun h0 => by
 obtain ⟨b, o, e, hb, hc⟩ := h.2 h0
 exact ⟨b, o, e, by omega, hc⟩⟩
def Cur (w : World) (P : Nat) (A : Option Addr) (n c : Nat) : Prop := n ≤ c ∧ c ≤ 9223372036854775807 ∧ CodeOk w A n P ∧ ∃ (i : Nat) (h : Int), i ≤ n ∧ w.heap[P]? = some (.cells #[.slice A n c, .int .i64 i, .int .i64 h] 123 (0, 0))
theorem Cur.lt {w : World} {P : Nat} {A : Option Addr} {n c : Nat} (h : Cur w P A n c) : P < w.heap.size := by
 obtain ⟨_, _, _, i, x, _, hb⟩ := h
 exact bx_lt hb
theorem Cur.grown {w w' : World} {P : Nat} {A : Option Addr} {n c : Nat} (h : Cur w P A n c) {row : Option Nat} (hg : w.grownBy w' row) (hr : ∀ g, row = some g → P < g) : Cur w' P A n c := by
 have hl := h.lt
 obtain ⟨h1, h2, h3, i, x, hi, hb⟩ := h
 exact ⟨h1, h2, h3.grown (by omega) hg (fun g he => by have := hr g he; omega), i, x, hi, box_beside hb hg (fun he => by have := hr P he; omega)⟩
theorem Cur.ext {w w' : World} {P : Nat} {A : Option Addr} {n c : Nat} (h : Cur w P A n c) (hx : Ext w w') : Cur w' P A n c := h.grown (grown_of_ext (row := none) hx) (fun g he => by cases he)
def Drawn (w : World) (P : Nat) (A : Option Addr) (n c : Nat) (Q : Int → Prop) (e : Ending) (w' : World) : Prop := ∃ x : Int, Q x ∧ e = .returned (.int .i64 x) ∧ Cur w' P A n c ∧ w.grownBy w' (some P)
def Byte255 (x : Int) : Prop := 0 ≤ x ∧ x ≤ 255
theorem drawn_mk {w w' : World} {P : Nat} {A : Option Addr} {n c : Nat} {Q : Int → Prop} {x : Int} (hq : Q x) (hc : Cur w' P A n c) (hg : w.grownBy w' (some P)) : Drawn w P A n c Q (.returned (.int .i64 x)) w' := ⟨x, hq, rfl, hc, hg⟩
theorem grown_set {w w' : World} {p : Addr} {u : Value} {P : Nat} (h : w.grownBy w' (some P)) (hp : p.block = P) : w.grownBy (w'.setCell p u) (some P) :=
 ⟨h.os, h.tape, h.output, by simpa using h.size, fun k hk hne => (Below.heap_setCell _ _ _ _ (fun e => hne (by rw [e, hp]))).trans (h.block k hk hne)⟩
theorem grown_drewN {w w' : World} {row : Option Nat} (h : w.grownBy w' row) (n : Nat) : w.grownBy (w'.drewN n) row := ⟨h.os, h.tape, h.output, h.size, h.block⟩
theorem box_drewN {w : World} {P : Nat} {o : Obj} (h : w.heap[P]? = some o) (n : Nat) : (w.drewN n).heap[P]? = some o := h
set_option maxHeartbeats 1000000 in
theorem c_l1Byte (P : Nat) (A : Option Addr) (n c : Nat) (w : World) (hc : Cur w P A n c) : Calls Try.prog 104 #[.pointer (some ⟨P, 0, none⟩)] w (Drawn w P A n c Byte255) := by
 obtain ⟨h1, h2, h3, i, h, hi, hb⟩ := hc
 have hn20 := h3.1
 have cb := bx_cell hb
 have fb := bx_frozen hb
 have zb := bx_lt hb
 have H3 := Hd h3
 have HB := Hd hb
 clear h3 hb
 by_cases hlt : i < n
 ·obtain ⟨bb, oo, rfl, hbb, hcell⟩ := H3.out.2 (by omega)
  obtain ⟨y, hy, e0⟩ := hcell i hlt
  have hbw : bb < w.heap.size := by omega
  have hne : ¬ bb = P := by omega
  clear hcell
  go_enter Try.func104, Try.ntmps104
  go_wp2
  go_quiet (fail)
  go_wp2
  go_quiet (fail)
  go_wp2
  go_quiet (fail)
  go_wp2
  go_ret
  refine drawn_mk (bits_and_le _ 255 (by omega)) ?_ ?_
  ·exact ⟨h1, h2, H3.out.grown (by omega) (grown_set (grown_drewN (grown_set (World.grownBy.refl w _) rfl) _) rfl) (fun g he => by simp only [Option.some.injEq] at he; omega), i + 1, _, by omega, box_put (box_drewN (box_put HB.out 2 _) _) 1 _⟩
  ·exact grown_set (grown_drewN (grown_set (World.grownBy.refl w _) rfl) _) rfl
 ·obtain rfl : i = n := by omega
  go_enter Try.func104, Try.ntmps104
  go_wp2
  go_quiet (fail)
  go_wp2
  go_quiet (fail)
  go_wp2
  go_ret
  refine drawn_mk (bits_and_le _ 255 (by omega)) ?_ ?_
  ·exact ⟨h1, h2, H3.out.grown (by omega) (grown_drewN (grown_drewN (grown_set (World.grownBy.refl w _) rfl) _) _) (fun g he => by simp only [Option.some.injEq] at he; omega), i, _, by omega, box_drewN (box_drewN (box_put HB.out 2 _) _) _⟩
  ·exact grown_drewN (grown_drewN (grown_set (World.grownBy.refl w _) rfl) _) _
def Less (m : Int) (x : Int) : Prop := 0 ≤ x ∧ (x < m ∨ m ≤ 0 ∧ x = 0)
set_option maxRecDepth 100000 in
set_option maxHeartbeats 1000000 in
theorem c_l1Below (P : Nat) (A : Option Addr) (n c : Nat) (m : Int) (w : World) (hc : Cur w P A n c) (hm : m ≤ 9223372036854775807) : Calls Try.prog 66 #[.pointer (some ⟨P, 0, none⟩), .int .i64 m] w (Drawn w P A n c (Less m)) := by
 by_cases h0 : m ≤ 0
 ·go_enter Try.func66, Try.ntmps66
  go_wp2
  go_ret
  exact drawn_mk ⟨by omega, .inr ⟨h0, rfl⟩⟩ hc (World.grownBy.refl _ _)
 ·by_cases h1 : m ≤ 256
  ·go_enter Try.func66, Try.ntmps66
   go_wp2_with fail
   refine (c_l1Byte P A n c w hc).mono ?_
   rintro e w1 ⟨x, ⟨hx0, hx1⟩, rfl, hc1, hg1⟩
   have hr := Int.emod_nonneg x (show m ≠ 0 by omega)
   have hr2 := Int.emod_lt_of_pos x (show 0 < m by omega)
   go_wp2
   go_ret
   exact drawn_mk ⟨hr, .inl hr2⟩ hc1 hg1
  ·go_enter Try.func66, Try.ntmps66
   go_wp2_with fail
   refine (c_l1Byte P A n c w hc).mono ?_
   rintro e w1 ⟨x1, ⟨p1, q1⟩, rfl, hc1, hg1⟩
   go_wp2_with fail
   refine (c_l1Byte P A n c _ hc1).mono ?_
   rintro e w2 ⟨x2, ⟨p2, q2⟩, rfl, hc2, hg2⟩
   go_wp2_with fail
   refine (c_l1Byte P A n c _ hc2).mono ?_
   rintro e w3 ⟨x3, ⟨p3, q3⟩, rfl, hc3, hg3⟩
   go_wp2_with fail
   refine (c_l1Byte P A n c _ hc3).mono ?_
   rintro e w4 ⟨x4, ⟨p4, q4⟩, rfl, hc4, hg4⟩
   have hr := Int.emod_nonneg (x1 * 16777216 + x2 * 65536 + x3 * 256 + x4) (show m ≠ 0 by omega)
   have hr2 := Int.emod_lt_of_pos (x1 * 16777216 + x2 * 65536 + x3 * 256 + x4) (show 0 < m by omega)
   go_wp2
   go_ret
   exact drawn_mk ⟨hr, .inl hr2⟩ hc4 (grown_trans hg1 (grown_trans hg2 (grown_trans hg3 hg4)))
def DrawnB (w : World) (P : Nat) (A : Option Addr) (n c : Nat) (e : Ending) (w' : World) : Prop := ∃ b : Bool, e = .returned (.bool b) ∧ Cur w' P A n c ∧ w.grownBy w' (some P)
theorem c_l1Once (P : Nat) (A : Option Addr) (n c : Nat) (m : Int) (w : World) (hc : Cur w P A n c) (hm : m ≤ 9223372036854775807) : Calls Try.prog 68 #[.pointer (some ⟨P, 0, none⟩), .int .i64 m] w (DrawnB w P A n c) := by
 go_enter Try.func68, Try.ntmps68
 go_wp2_with fail
 refine (c_l1Below P A n c m w hc hm).mono ?_
 rintro e w1 ⟨x, _, rfl, hc1, hg1⟩
 go_wp2
 go_ret
 exact ⟨_, rfl, hc1, hg1⟩
def OneOf (l : List Int) (x : Int) : Prop := x ∈ l
set_option maxRecDepth 100000 in
set_option maxHeartbeats 1000000 in
theorem c_l1PickInt (P : Nat) (A : Option Addr) (n c : Nat) (g : Nat) (l : List Int) (w : World) (hc : Cur w P A n c) (hl : 0 < l.length) (hl2 : l.length ≤ 256) (hg : w.heap[g]? = some (.cells (l.map (Value.int .i64)).toArray 3 (0, 0))) (hgP : g ≠ P) :
  Calls Try.prog 67 #[.pointer (some ⟨P, 0, none⟩), .slice (some ⟨g, 0, none⟩) l.length l.length] w (Drawn w P A n c (OneOf l)) := by
 go_enter Try.func67, Try.ntmps67
 go_wp2_with fail
 refine (c_l1Below P A n c l.length w hc (by omega)).mono ?_
 rintro e w1 ⟨x, ⟨hx0, hx1⟩, rfl, hc1, hg1⟩
 obtain ⟨k, rfl⟩ : ∃ k : Nat, x = k := ⟨x.toNat, by omega⟩
 have hk : k < l.length := by omega
 have hcell : w1.cell? ⟨g, k, none⟩ = some (.int .i64 l[k]) := by
  rw [bx_cell (box_beside hg hg1 (by simp only [ne_eq, Option.some.injEq]; omega)) k]
  simp [hk]
 clear hx1
 go_wp2
 go_ret
 exact drawn_mk (List.getElem_mem hk) hc1 hg1
set_option maxHeartbeats 1000000 in
theorem c_l1Size (A : Option Addr) (n c : Nat) (most : Int) (w : World) (hn : n ≤ 1048576) (h0 : 0 ≤ most) (h1 : most ≤ 1000000) : Calls Try.prog 56 #[.slice A n c, .int .i64 most] w fun e w' => (∃ x : Int, (0 ≤ x ∧ x ≤ most) ∧ e = .returned (.int .i64 x)) ∧ w' = w := by
 go_enter Try.func56, Try.ntmps56
 go_wp2
 all_goals
  go_ret
  exact ⟨⟨_, ⟨by omega, by omega⟩, rfl⟩, rfl⟩
set_option maxRecDepth 100000 in
set_option maxHeartbeats 1000000 in
theorem c_l1New (A : Option Addr) (n c : Nat) (w : World) (hc : CodeOk w A n w.heap.size) (hnc : n ≤ c) (hcm : c ≤ 9223372036854775807) : Calls Try.prog 55 #[.slice A n c] w fun e w' => (∃ P, e = .returned (.pointer (some ⟨P, 0, none⟩)) ∧ w.heap.size ≤ P ∧ Cur w' P A n c) ∧ Ext w w' := by
 have hn20 := hc.1
 go_enter Try.func55, Try.ntmps55
 go_wp2
 go_loop [3, 4] (fun h i => ∃ (k : Nat) (x : Int), k ≤ n ∧ i = .int .i64 k ∧ h = .int .i64 x) (fun _ i => n - (intOf i).toNat)
 case atStart => exact ⟨0, _, Nat.zero_le _, rfl, rfl⟩
 case round =>
  obtain ⟨k, x, hk, rfl, rfl⟩ := hrel
  by_cases hlt : k < n
  ·by_cases h4 : k < 4000
   ·obtain ⟨b, o, rfl, hb, hcell⟩ := hc.2 (by omega)
    obtain ⟨y, hy, e0⟩ := hcell k hlt
    clear hcell
    go_wp2
    go_round
    case rel => exact ⟨k + 1, _, by omega, by go_num, rfl⟩
    case measure => simp [intOf] <;> omega
   ·have h4' : decide ((k : Int) < 4000) = false := by simp; omega
    go_wp2
    go_ret
    exact ⟨⟨_, rfl, Nat.le_refl _, hnc, hcm, (hc.up (Nat.le_refl _)).grown (Nat.le_refl _) (grown_of_ext (row := none) (ext_alloc _ _)) (fun g he => by cases he), 0, _, Nat.zero_le _, hNew rfl⟩, ext_alloc _ _⟩
  ·go_wp2
   go_ret
   exact ⟨⟨_, rfl, Nat.le_refl _, hnc, hcm, (hc.up (Nat.le_refl _)).grown (Nat.le_refl _) (grown_of_ext (row := none) (ext_alloc _ _)) (fun g he => by cases he), 0, _, Nat.zero_le _, hNew rfl⟩, ext_alloc _ _⟩
theorem c_big_no (A : Option Addr) (n c : Nat) (w : World) (h : n ≤ 1048576) : Calls Try.prog 20 #[.slice A n c] w fun e w' => e = .returned (.bool false) ∧ Ext w w' := by
 have h' : decide ((1048576 : Int) < (n : Int)) = false := by simp; omega
 go_enter Try.func20, Try.ntmps20
 go_wp2
 go_ret
 exact ⟨rfl, ext_refl _⟩
theorem c_big_yes (A : Option Addr) (n c : Nat) (w : World) (h : 1048576 < n) (h2 : n ≤ 9223372036854775807) : Calls Try.prog 20 #[.slice A n c] w fun e w' => e = .returned (.bool true) ∧ Ext w w' := by
 have h' : decide ((1048576 : Int) < (n : Int)) = true := by simp; omega
 go_enter Try.func20, Try.ntmps20
 go_wp2
 go_ret
 exact ⟨rfl, ext_refl _⟩
theorem old_cell {w w' : World} (hx : Ext w w') {b y : Nat} (hb : b < w.heap.size) : w'.cell? ⟨b, y, none⟩ = w.cell? ⟨b, y, none⟩ := hx.rules.1 b y hb
end Go.Proofs.Ytpghedeghoegmaa
