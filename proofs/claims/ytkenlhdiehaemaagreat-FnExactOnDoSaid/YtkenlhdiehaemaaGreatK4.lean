/- The keeper begins to turn; what is done at a message to turn, and at what others say of themselves. -/
import Derived.Test.YtkenlhdiehaemaaGreatK3
import Derived.Test.YtkenlhdiehaemaaGreatK0
namespace Go.Proofs.YtkenlhdiehaemaaGreat
open Go.ChangeShapes Go.WideShapes Go.ChangeAt Go.RowKit Go.Sort
set_option linter.unusedVariables false
set_option linter.unusedSimpArgs false

section
variable {W0 w : World} {p : Nat} {a : LAd} {A : Option Addr} {c : Nat} {qs : List VtE} {R : Rp} {Ao : Option Addr} {co : Nat} {os : List OtE}
theorem none_F (w : World) (B : Nat) : LgF w B LAd.none Lg.none := ⟨RdF.nil _ _ _ _ _, RdF.nil _ _ _ _ _, RdF.nil _ _ _ _ _⟩
theorem none_ok : logOk Lg.none = true ∧ Lg.none.base ≤ 0 ∧ (0 : Int) ≤ Lg.none.fin := by decide +kernel
set_option maxRecDepth 100000 in
set_option maxHeartbeats 8000000 in
theorem c_begin (hk : KZ W0 w p a A c qs R Ao co os) (ht : RpT R) (view : Int) (h0 : 0 ≤ view) (h1 : view ≤ 1000000000) (hos : os.length ≤ 20000) :
    Calls Tryz.prog 94 #[.pointer (some ⟨p, 0, none⟩), .int .i64 view] w fun e w' => e = .returned (.tuple #[]) ∧ ∃ a' A' c' qs' A2 c2 os', KZ W0 w' p a' A' c' qs' (beginR R view) A2 c2 (os ++ os') ∧ List.map Prod.snd os' = beginO R view := by
  have B0 := hk.box
  have d := bx_cell B0
  have g := bx_frozen B0
  have z := bx_lt B0
  have P0 := box_put (box_put (box_put (box_put B0 2 (.int .i64 2)) 3 (.int .i64 view)) 11 (.int .i64 view)) 10 (.slice none 0 0)
  simp only [List.setIfInBounds_toArray, List.set_cons_zero, List.set_cons_succ] at P0
  have c0 := chg_set (chg_set (chg_set (chg_set (Chg.refl w [p]) (p := ⟨p, 2, none⟩) (by simp) (.int .i64 2)) (p := ⟨p, 3, none⟩) (by simp) (.int .i64 view)) (p := ⟨p, 11, none⟩) (by simp) (.int .i64 view)) (p := ⟨p, 10, none⟩) (by simp) (.slice none 0 0)
  have HP0 := Lib.hid (hk.novotes (R' := R.turned view) c0 P0 rfl rfl)
  have HT := Lib.hid ht
  have HTT := Lib.hid (ht.turned h0 h1)
  clear hk B0 P0 c0 ht
  go_enter Tryz.func94, Tryz.ntmps94
  go_wp2_with fail
  refine (c_sendAllZ W0 p a none 0 [] (R.turned view) os Ao co LAd.none (turnM R.me view) _ W0.heap.size R.of.toNat HP0.out (show R.of = _ by have := HT.out.of; omega) (by have := HT.out.of; omega) (none_F _ _) (show Lg.none.small from none_small) (by omega)).mono ?_
  rintro e w2 ⟨rfl, A2, c2, os2, k2, ho2⟩
  have hl2 : os2.length ≤ 5 := by
    have h2 := congrArg List.length ho2
    rw [List.length_map] at h2
    have h3 := allTo_len (R.turned view).me (turnM R.me view) R.of.toNat
    have h4 := HT.out.of
    omega
  have K2 := Lib.hid k2
  have HO2 := Lib.hid ho2
  clear k2 ho2 d g z HP0
  go_wp2_with fail
  refine (c_look K2.out HTT.out (by rw [List.length_append]; omega)).mono ?_
  rintro e w3 ⟨rfl, a3, A3, c3, qs3, A4, c4, os3, k3, ho3⟩
  have K3 := Lib.hid (show KZ W0 w3 p a3 A3 c3 qs3 (beginR R view) A4 c4 (os ++ (os2 ++ os3)) by rw [← List.append_assoc]; exact k3)
  have HO3 := Lib.hid (show List.map Prod.snd (os2 ++ os3) = beginO R view by rw [List.map_append, HO2.out, ho3]; rfl)
  clear k3 ho3 K2
  go_wp2
  exact bodyPost_end (v := .tuple #[]) (by simp [results, Tryz.results94, go_sem]) rfl ⟨rfl, a3, A3, c3, qs3, A4, c4, os2 ++ os3, K3.out, HO3.out⟩
theorem beginO_len {r : Rp} (h : RpT r) {v : Int} (h0 : 0 ≤ v) (h1 : v ≤ 1000000000) : (beginO r v).length ≤ 11 := by
  unfold beginO
  have h2 := allTo_len r.me (turnM r.me v) r.of.toNat
  have h3 := lookO_len (h.turned h0 h1)
  have h4 := h.of
  rw [List.length_append]
  omega
set_option maxRecDepth 100000 in
set_option maxHeartbeats 8000000 in
theorem c_turnsTo (hk : KZ W0 w p a A c qs R Ao co os) (hl : liveB R = true → RpT R) (view : Int) (h0 : 0 ≤ view) (h1 : view ≤ 1000000000) (hos : os.length ≤ 10000) :
    Calls Tryz.prog 99 #[.pointer (some ⟨p, 0, none⟩), .int .i64 view] w fun e w' => e = .returned (.bool (ttB R view)) ∧ ∃ a' A' c' qs' A2 c2 os', KZ W0 w' p a' A' c' qs' (ttR R view) A2 c2 (os ++ os') ∧ List.map Prod.snd os' = ttO R view := by
  have HK := Lib.hid hk
  have HL := Lib.hid hl
  clear hk hl
  go_enter Tryz.func99, Tryz.ntmps99
  go_wp2_with fail
  refine (c_awake p a A qs.length c R _ _ HK.out.box).mono ?_
  rintro e w1 ⟨rfl, x1⟩
  have K1 := Lib.hid (HK.out.keep x1)
  clear HK x1
  cases gl : liveB R
  · have HF := Lib.hid (show false = ttB R view ∧ R = ttR R view ∧ List.map Prod.snd ([] : List OtE) = ttO R view by
      refine ⟨?_, ?_, ?_⟩
      · unfold ttB; rw [gl]; rfl
      · unfold ttR; rw [gl]; rfl
      · unfold ttO; rw [gl]; rfl)
    clear gl
    go_wp2
    go_ret
    exact ⟨ret_bool HF.out.1, a, A, c, qs, Ao, co, [], by rw [List.append_nil]; exact K1.out.cast HF.out.2.1, HF.out.2.2⟩
  · have HT := Lib.hid (HL.out gl)
    cases g0 : decide (R.view < view)
    · have HF := Lib.hid (show R = ttR R view ∧ List.map Prod.snd ([] : List OtE) = ttO R view by
        constructor
        · unfold ttR; rw [gl, g0]; rfl
        · unfold ttO; rw [gl, g0]; rfl)
      have HB := Lib.hid (show ttB R view = ((R.mode == 2) && (view == R.view)) by
        unfold ttB; rw [← HF.out.1, gl]; rfl)
      have d := bx_cell K1.out.box
      have z := bx_lt K1.out.box
      clear gl
      cases g3 : (R.mode == 2)
      · go_wp2
        go_ret
        exact ⟨ret_bool (by rw [HB.out, g3]; rfl), a, A, c, qs, Ao, co, [], by rw [List.append_nil]; exact K1.out.cast HF.out.1, HF.out.2⟩
      · go_wp2
        go_ret
        exact ⟨ret_bool (by rw [HB.out, g3]; rfl), a, A, c, qs, Ao, co, [], by rw [List.append_nil]; exact K1.out.cast HF.out.1, HF.out.2⟩
    · have HF := Lib.hid (show beginR R view = ttR R view ∧ beginO R view = ttO R view by
        constructor
        · unfold ttR; rw [gl, g0]; rfl
        · unfold ttO; rw [gl, g0]; rfl)
      have HB := Lib.hid (show ttB R view = (((ttR R view).mode == 2) && (view == (ttR R view).view)) by
        unfold ttB; rw [gl]; rfl)
      have d := bx_cell K1.out.box
      have z := bx_lt K1.out.box
      clear gl
      go_wp2_with fail
      refine (c_begin K1.out HT.out view h0 h1 (by omega)).mono ?_
      rintro e w2 ⟨rfl, a3, A3, c3, qs3, A4, c4, os3, k3, ho3⟩
      have K3 := Lib.hid (k3.cast HF.out.1)
      have HO3 := Lib.hid (ho3.trans HF.out.2)
      clear d z k3 ho3 K1 HF
      have d := bx_cell K3.out.box
      have z := bx_lt K3.out.box
      cases g3 : ((ttR R view).mode == 2)
      · go_wp2
        go_ret
        exact ⟨ret_bool (by rw [HB.out, g3]; rfl), a3, A3, c3, qs3, A4, c4, os3, K3.out, HO3.out⟩
      · go_wp2
        go_ret
        exact ⟨ret_bool (by rw [HB.out, g3]; rfl), a3, A3, c3, qs3, A4, c4, os3, K3.out, HO3.out⟩
theorem ttO_len {r : Rp} (hl : liveB r = true → RpT r) {v : Int} (h0 : 0 ≤ v) (h1 : v ≤ 1000000000) : (ttO r v).length ≤ 11 := by
  unfold ttO
  split
  · rename_i h
    simp only [Bool.and_eq_true] at h
    exact beginO_len (hl h.1) h0 h1
  · simp
end
section
variable {W0 W : World} {p P Q : Nat} {r : Rp} {am : LAd} {m : Mg}
set_option maxRecDepth 100000 in
set_option maxHeartbeats 8000000 in
theorem c_turn1 (hk : KO W0 W p r []) (hP : W0.heap[P]? = some (Mg.obj am m)) (hM : LgR W0 am m.log) (hs : r.log.small) (hms : m.log.small) (hb : (rpOk r && hearB r m 5) = true) :
    Calls Tryz.prog 98 #[.pointer (some ⟨p, 0, none⟩), .pointer (some ⟨P, 0, none⟩)] W fun e w' => e = .returned (.tuple #[]) ∧ KO W0 w' p (onTurnR r m) (onTurnO r m) := by
  obtain ⟨a, A, c, qs, Ao, co, os, hk, hos⟩ := hk
  obtain rfl : os = [] := by simpa using hos
  obtain ⟨hq1, hq2, hq3⟩ := hear_facts hb
  have HL := Lib.hid (show liveB r = true → RpT r from fun h => rpOk_T hq1 h)
  have HV := Lib.hid (fits_view hq2 (by rw [hq3]; decide +kernel))
  have hv0 := HV.out.1
  have hv1 := HV.out.2
  have HK := Lib.hid hk
  have HP := Lib.hid hP
  have HM := Lib.hid (hk.x.box hP)
  have d := bx_cell HM.out
  have z := bx_lt HM.out
  clear hk hP hM hos hq1 hq2 hq3
  go_enter Tryz.func98, Tryz.ntmps98
  go_wp2_with fail
  refine (c_turnsTo HK.out HL.out m.view hv0 hv1 (by simp)).mono ?_
  rintro e w1 ⟨rfl, a1, A1, c1, qs1, A2, c2, os1, k1, ho1⟩
  have hl1 : os1.length ≤ 11 := by
    have h2 := congrArg List.length ho1
    rw [List.length_map] at h2
    have := ttO_len HL.out hv0 hv1
    omega
  have K1 := Lib.hid (show KZ W0 w1 p a1 A1 c1 qs1 (ttR r m.view) A2 c2 os1 from k1)
  have HO1 := Lib.hid ho1
  have M1 := Lib.hid (k1.x.box HP.out)
  clear k1 ho1 HK HM d z
  cases gt : ttB r m.view
  · have HF := Lib.hid (show ttR r m.view = onTurnR r m ∧ ttO r m.view = onTurnO r m by
      constructor
      · unfold onTurnR; rw [gt]; rfl
      · unfold onTurnO; rw [gt]; simp)
    clear gt
    go_wp2
    exact bodyPost_ret (v := .tuple #[]) (by simp [results, Tryz.results98, go_sem]) rfl ⟨rfl, K1.out.ko HF.out.1 (HO1.out.trans HF.out.2)⟩
  · have HT := Lib.hid (ttB_T HL.out hv0 hv1 gt)
    have hq20 : qs1.length ≤ 20 := by have := K1.out.qlen; have := HT.out.votes; omega
    have d1 := bx_cell M1.out
    have z1 := bx_lt M1.out
    have HG := Lib.hid (show lookR (heard 5 (ttR r m.view) m (turnV m)) = onTurnR r m ∧ ttO r m.view ++ lookO (heard 5 (ttR r m.view) m (turnV m)) = onTurnO r m by
      constructor
      · unfold onTurnR; rw [gt]; rfl
      · unfold onTurnO; rw [gt]; rfl)
    clear gt
    go_wp2_with fail
    refine (c_find 5 m.frm p a1 A1 c1 qs1 (ttR r m.view) _ w1 K1.out.box (votes_rd K1.out) K1.out.rp.e (by omega)).mono ?_
    rintro e w2 ⟨rfl, x2⟩
    have K2 := Lib.hid (K1.out.keep x2)
    have M2 := Lib.hid (x2.box M1.out)
    clear K1 M1 x2 d1 z1
    have d2 := bx_cell M2.out
    have z2 := bx_lt M2.out
    cases gf : decide (findV 5 m.frm (ttR r m.view).votes < 0)
    · have HH := Lib.hid (show ttR r m.view = heard 5 (ttR r m.view) m (turnV m) by unfold heard; rw [gf]; rfl)
      clear d2 z2
      go_wp2_with fail
      refine (c_look K2.out HT.out (by omega)).mono ?_
      rintro e w3 ⟨rfl, a3, A3, c3, qs3, A4, c4, os3, k3, ho3⟩
      have K3 := Lib.hid k3
      have HO3 := Lib.hid ho3
      clear k3 ho3 K2
      go_wp2
      exact bodyPost_end (v := .tuple #[]) (by simp [results, Tryz.results98, go_sem]) rfl ⟨rfl, K3.out.ko (by rw [← HG.out.1, ← HH.out]) (by rw [← HG.out.2, ← HH.out, List.map_append, HO1.out, HO3.out])⟩
    · have HH := Lib.hid (show (ttR r m.view).voted (turnV m) = heard 5 (ttR r m.view) m (turnV m) by unfold heard; rw [gf]; rfl)
      go_wp2_with fail
      refine (c_vote K2.out LAd.none (turnV m) (none_rd _) (show Lg.none.small from none_small)).mono ?_
      rintro e w3 ⟨rfl, A5, c5, qs5, k5⟩
      have K5 := Lib.hid (k5.cast HH.out)
      have HT5 := Lib.hid (show RpT (heard 5 (ttR r m.view) m (turnV m)) by rw [← HH.out]; exact HT.out.voted none_ok)
      clear k5 K2 d2 z2
      go_wp2_with fail
      refine (c_look K5.out HT5.out (by omega)).mono ?_
      rintro e w6 ⟨rfl, a3, A3, c3, qs3, A4, c4, os3, k3, ho3⟩
      have K3 := Lib.hid k3
      have HO3 := Lib.hid ho3
      clear k3 ho3 K5
      go_wp2
      exact bodyPost_end (v := .tuple #[]) (by simp [results, Tryz.results98, go_sem]) rfl ⟨rfl, K3.out.ko HG.out.1 (by rw [← HG.out.2, List.map_append, HO1.out, HO3.out])⟩
end
end Go.Proofs.YtkenlhdiehaemaaGreat
