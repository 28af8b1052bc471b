/- Messages as bytes: PackMsg of the reference and of the program. -/
import Derived.Test.YtpghedeghoegmaaPk30
import Derived.Test.YtpghedeghoegmaaPk26
namespace Go.Proofs.Ytpghedeghoegmaa
open Go.ChangeShapes Go.WideShapes Go.ChangeAt Go.RowKit Go.Sort
set_option linter.unusedVariables false
set_option linter.unusedSimpArgs false
def packV (m : Mg) : List Nat × Bool := if iFits m = true then (packM m, true) else ([], false)
def sMap (c : Nat) : Nat := if c = 102 then 70 else if c = 118 then 86 else if c = 111 then 79 else if c = 99 then 67 else if c = 110 then 78 else if c = 107 then 110 else if c = 67 then 99 else if c = 82 then 114 else if c = 65 then 65 else if c = 100 then 120 else 76
def SL : List Nat := [102, 118, 111, 99, 110, 107, 67, 82, 65, 100, 108]
def IL : List Nat := [70, 86, 79, 67, 78, 110, 99, 114, 65, 120, 76]
def SForm (f : ByteArray) (k : Int) : Prop := f.size = (formL k).length ∧ f.size ≤ 100 ∧ ∀ (i : Nat) (h : i < f.size), f[i].toNat ∈ SL ∧ (formL k)[i]? = some (sMap f[i].toNat)
def IForm (f : ByteArray) (k : Int) : Prop := f.size = (formL k).length ∧ f.size ≤ 100 ∧ ∀ (i : Nat) (h : i < f.size), f[i].toNat ∈ IL ∧ (formL k)[i]? = some f[i].toNat
instance (f : ByteArray) (k : Int) : Decidable (SForm f k) := inferInstanceAs (Decidable (_ ∧ _ ∧ ∀ (i : Nat) (h : i < f.size), _))
instance (f : ByteArray) (k : Int) : Decidable (IForm f k) := inferInstanceAs (Decidable (_ ∧ _ ∧ ∀ (i : Nat) (h : i < f.size), _))
theorem sForm_of {m : Mg} (h : iFits m = true) : SForm (sForm m.kind) m.kind := by
 rcases fit_kind h with e | e | e | e | e | e | e | e | e | e | e | e <;> rw [e] <;> decide
theorem iForm_of {m : Mg} (h : iFits m = true) : IForm (iForm m.kind) m.kind := by
 rcases fit_kind h with e | e | e | e | e | e | e | e | e | e | e | e <;> rw [e] <;> decide
def preM (m : Mg) (i : Nat) : List Nat := packZ (m.kind :: ((formL m.kind).take i).flatMap (fNums m))
theorem preM_next {m : Mg} {i c : Nat} (h : (formL m.kind)[i]? = some c) : preM m (i + 1) = preM m i ++ packZ (fNums m c) := by
 obtain ⟨hi, he⟩ := List.getElem?_eq_some_iff.1 h
 unfold preM
 rw [List.take_succ_eq_append_getElem hi, List.flatMap_append, List.flatMap_cons, List.flatMap_nil, List.append_nil, he, ← List.cons_append, packZ_append]
theorem preM_all (m : Mg) : preM m (formL m.kind).length = packZ (msgNums m) := by
 unfold preM msgNums
 rw [List.take_length]
theorem preM_le (m : Mg) (i : Nat) : (preM m i).length ≤ (packZ (msgNums m)).length := by
 have h : packZ (msgNums m) = preM m i ++ packZ (((formL m.kind).drop i).flatMap (fNums m)) := by
  unfold preM msgNums
  rw [← packZ_append, List.cons_append, ← List.flatMap_append, List.take_append_drop]
 rw [h, List.length_append]
 omega
theorem pack_one (x : Int) : packZ [x] = putN x.toNat := by simp [packZ]
theorem fit_let {m : Mg} (h : FitW m) {i c : Nat} (hc : (formL m.kind)[i]? = some c) : ∀ x ∈ fNums m c, 0 ≤ x ∧ x ≤ 1000000001 := fun x hx =>
 h.nums x (List.mem_cons_of_mem _ (List.mem_flatMap.2 ⟨c, List.mem_of_getElem? hc, hx⟩))
set_option maxRecDepth 100000 in
set_option maxHeartbeats 16000000 in
theorem c_sPackMsg (a : LAd) (m : Mg) (w : World) (hs : m.log.small) (hr : LgR w a m.log) : Calls Try.prog 8 #[Mg.val a m] w fun e w' => (∃ A' c', e = .returned (.tuple #[.slice A' (packV m).1.length c', .bool (packV m).2]) ∧ Ow bEnc 5 1 w' w.heap.size (.slice A' (packV m).1.length c') (packV m).1) ∧ Ext w w' := by
 obtain ⟨i0, hi, hz0, hz1, hz2⟩ := info_parts Try.infoU8
 have X0 := ext_alloc w (Mg.obj a m)
 have HCon := Hd (c_sMsgFits a m _ hs (hr.keep X0))
 rw [← fits_eq] at HCon
 have HR := Hd hr
 clear hr
 cases q : iFits m
 ·have HV := Hd (show packV m = ([], false) by unfold packV; rw [if_neg (by rw [q]; simp)])
  rw [q] at HCon
  go_enter Try.func8, Try.ntmps8
  (go_wp2_with (with_reducible refine wl_stop 9 ?_); refine stop_load (hNew (w := w) (o := Mg.obj a m) rfl) rfl Try.underlying46 (by kernel_rfl) ?_; simp only [Act.put, Sa, Sz, Ss])
  go_wp2_with fail
  refine HCon.out.mono ?_
  rintro e w1 ⟨rfl, x1⟩
  have hs1 := (Ext.trans X0 x1).size
  clear HCon
  go_wp2
  exact bodyPost_ret (v := .tuple #[.slice (some ⟨w1.heap.size, 0, none⟩) 0 0, .bool false]) (by simp [results, Try.results8, go_sem]) rfl ⟨⟨_, 0, by rw [HV.out]; rfl, by rw [HV.out]; exact own_empty (hNew rfl) (by omega)⟩, ext_to (Ext.trans X0 x1) _⟩
 ·have HV := Hd (show packV m = (packM m, true) by unfold packV; rw [if_pos q])
  have HF := Hd (fitW q)
  have HB := Hd (body_put q).2
  obtain ⟨f, hf⟩ : ∃ f, sForm m.kind = f := ⟨_, rfl⟩
  have hsf := sForm_of q
  rw [hf] at hsf
  obtain ⟨hfl, hf100, hfa⟩ := hsf
  have HFa := Hd hfa
  have hk := fit_kind q
  obtain ⟨kn, hkn⟩ : ∃ n : Nat, m.kind = (n : Int) := ⟨m.kind.toNat, by omega⟩
  have hk12 : kn ≤ 12 := by omega
  have HK := Hd (show preM m 0 = putN kn by unfold preM; rw [Tz]; show packZ [m.kind] = _; rw [pack_one, hkn]; rfl)
  have HKn := Hd hkn
  clear hkn
  rw [q] at HCon
  clear q hk hfa
  go_enter Try.func8, Try.ntmps8
  (go_wp2_with (with_reducible refine wl_stop 9 ?_); refine stop_load (hNew (w := w) (o := Mg.obj a m) rfl) rfl Try.underlying46 (by kernel_rfl) ?_; simp only [Act.put, Sa, Sz, Ss])
  go_wp2_with fail
  refine HCon.out.mono ?_
  rintro e w1 ⟨rfl, x1⟩
  have HE1 := Hd (x1.box (hNew (w := w) (o := Mg.obj a m) rfl))
  have HX1 := Hd (Ext.trans X0 x1)
  clear HCon X0 x1
  have d1 := bx_cell HE1.out
  have z1 := bx_lt HE1.out
  go_wp2_with fail
  refine (c_l4Has m.kind w1).mono ?_
  rintro e w2 ⟨rfl, x2⟩
  rw [hf]
  have HE2 := Hd (x2.box HE1.out)
  have HX2 := Hd (Ext.trans HX1.out x2)
  clear d1 z1 x2 HE1 HX1
  have d1 := bx_cell HE2.out
  have z1 := bx_lt HE2.out
  have HPN := Hd (c_sPutNum kn (by omega) w2)
  rw [← HKn.out] at HPN
  go_wp2_with fail
  refine HPN.out.mono ?_
  rintro e w3 ⟨⟨A3, c3, rfl, o3⟩, x3⟩
  have HE3 := Hd (x3.box HE2.out)
  have hs3 := HX2.out.size
  have HX3 := Hd (Ext.trans HX2.out x3)
  have HO3 := Hd (show Ow bEnc 5 1 w3 w.heap.size (.slice A3 (putN kn).length c3) (preM m 0) by rw [HK.out]; exact o3.less hs3)
  clear d1 z1 x3 HE2 HX2 o3 HPN
  have d1 := bx_cell HE3.out
  have z1 := bx_lt HE3.out
  go_wp2
  clear d1 z1
  go_loopw [5, 6, 7, 8] (fun v i _ _ wr => ∃ k : Nat, k ≤ f.size ∧ i = .int .i64 k ∧ Ow bEnc 5 1 wr w.heap.size v (preM m k) ∧ Hid (wr.heap[w.heap.size]? = some (Mg.obj a m)) ∧ Hid (Ext w wr)) (fun _ i _ _ _ => f.size - (intOf i).toNat)
  case atStart => exact ⟨0, Nat.zero_le _, rfl, HO3.out, HE3, HX3⟩
  case round =>
   clear HO3 HE3 HX3
   obtain ⟨k, hk, rfl, ho, HE, HX⟩ := hrel
   obtain ⟨Ao, co, rfl⟩ := ho.form
   have HO := Hd ho
   have d1 := bx_cell HE.out
   have z1 := bx_lt HE.out
   have hle : (preM m k).length ≤ 4000 := Nat.le_trans (preM_le m k) HB.out
   have hs := HX.out.size
   clear ho
   by_cases hlt : k < f.size
   ·obtain ⟨hmem, hform⟩ := HFa.out k hlt
    simp only [SL, List.mem_cons, List.not_mem_nil, or_false] at hmem
    rcases hmem with hq | hq | hq | hq | hq | hq | hq | hq | hq | hq | hq
    ·rw [hq] at hform
     have hform : (formL m.kind)[k]? = some 70 := hform
     have hqi : ((f[k].toNat : Nat) : Int) = 102 := by rw [hq]; rfl
     clear hq
     have HN0 := preM_next hform
     rw [show fNums m 70 = [m.frm] from rfl, pack_one] at HN0
     obtain ⟨hx0, hx1⟩ := fit_let HF.out hform (m.frm) (by simp [fNums, getF])
     obtain ⟨y, hy⟩ : ∃ y : Nat, m.frm = (y : Int) := ⟨(m.frm).toNat, by omega⟩
     rw [hy, show ((y : Int)).toNat = y by omega] at HN0
     have hy9 : y < 9223372036854775808 := by omega
     have HN := Hd HN0
     have HY := Hd hy
     clear HN0 hx0 hx1 hform hy
     have HPN := Hd (c_sPutNum y hy9 wr)
     rw [← HY.out] at HPN
     go_wp2_with fail
     refine HPN.out.mono ?_
     rintro e w5 ⟨⟨A5, c5, rfl, o5⟩, x5⟩
     have h9 := putN_len9 (x := y) (by omega)
     have HQ := Hd (o5.rd bEnc_len).2
     have HP := Hd (HO.out.kept x5)
     have HX5 := Hd (Ext.trans HX.out x5)
     have HE5 := Hd (x5.box HE.out)
     have hs5 := HX5.out.size
     clear o5 x5 HO HX HE HPN
     obtain ⟨Q, hQ⟩ : ∃ Q, putN y = Q := ⟨_, rfl⟩
     rw [hQ] at HQ HN h9 ⊢
     clear hQ
     generalize hP : preM m k = P at HP HN hle ⊢
     go_wp2_with (at_builtin; refine wl_app (enc := bEnc) rfl _ _ 34 rfl w.heap.size 5 i0 (.int .u8 0) 1 1 Try.underlying34 hi hz0 hz1 hz2 rfl (by decide) bEnc_len bEnc_one (.slice Ao P.length co) P rfl HP.out A5 c5 Q Q.length rfl rfl HQ.out (by unfold maxLen; omega) (by omega) (by omega) ?_)
     intro v' w6 ho6 hg6
     have X6 := Hd (ext_app3 HX5.out hg6 HP.out (Nat.le_refl _))
     have E6 := Hd (box_own HE5.out HP.out hg6 (by decide))
     have ho7 : Ow bEnc 5 1 w6 w.heap.size v' (preM m (k + 1)) := by rw [HN.out]; exact ho6
     clear hg6 HP HQ HX5 HE5 ho6
     go_wp2
     go_roundw
     case rel => exact ⟨k + 1, by omega, by go_num, ho7, E6, X6⟩
     case measure => simp [intOf] <;> omega
    ·rw [hq] at hform
     have hform : (formL m.kind)[k]? = some 86 := hform
     have hqi : ((f[k].toNat : Nat) : Int) = 118 := by rw [hq]; rfl
     clear hq
     have HN0 := preM_next hform
     rw [show fNums m 86 = [m.view] from rfl, pack_one] at HN0
     obtain ⟨hx0, hx1⟩ := fit_let HF.out hform (m.view) (by simp [fNums, getF])
     obtain ⟨y, hy⟩ : ∃ y : Nat, m.view = (y : Int) := ⟨(m.view).toNat, by omega⟩
     rw [hy, show ((y : Int)).toNat = y by omega] at HN0
     have hy9 : y < 9223372036854775808 := by omega
     have HN := Hd HN0
     have HY := Hd hy
     clear HN0 hx0 hx1 hform hy
     have HPN := Hd (c_sPutNum y hy9 wr)
     rw [← HY.out] at HPN
     go_wp2_with fail
     refine HPN.out.mono ?_
     rintro e w5 ⟨⟨A5, c5, rfl, o5⟩, x5⟩
     have h9 := putN_len9 (x := y) (by omega)
     have HQ := Hd (o5.rd bEnc_len).2
     have HP := Hd (HO.out.kept x5)
     have HX5 := Hd (Ext.trans HX.out x5)
     have HE5 := Hd (x5.box HE.out)
     have hs5 := HX5.out.size
     clear o5 x5 HO HX HE HPN
     obtain ⟨Q, hQ⟩ : ∃ Q, putN y = Q := ⟨_, rfl⟩
     rw [hQ] at HQ HN h9 ⊢
     clear hQ
     generalize hP : preM m k = P at HP HN hle ⊢
     go_wp2_with (at_builtin; refine wl_app (enc := bEnc) rfl _ _ 34 rfl w.heap.size 5 i0 (.int .u8 0) 1 1 Try.underlying34 hi hz0 hz1 hz2 rfl (by decide) bEnc_len bEnc_one (.slice Ao P.length co) P rfl HP.out A5 c5 Q Q.length rfl rfl HQ.out (by unfold maxLen; omega) (by omega) (by omega) ?_)
     intro v' w6 ho6 hg6
     have X6 := Hd (ext_app3 HX5.out hg6 HP.out (Nat.le_refl _))
     have E6 := Hd (box_own HE5.out HP.out hg6 (by decide))
     have ho7 : Ow bEnc 5 1 w6 w.heap.size v' (preM m (k + 1)) := by rw [HN.out]; exact ho6
     clear hg6 HP HQ HX5 HE5 ho6
     go_wp2
     go_roundw
     case rel => exact ⟨k + 1, by omega, by go_num, ho7, E6, X6⟩
     case measure => simp [intOf] <;> omega
    ·rw [hq] at hform
     have hform : (formL m.kind)[k]? = some 79 := hform
     have hqi : ((f[k].toNat : Nat) : Int) = 111 := by rw [hq]; rfl
     clear hq
     have HN0 := preM_next hform
     rw [show fNums m 79 = [m.op] from rfl, pack_one] at HN0
     obtain ⟨hx0, hx1⟩ := fit_let HF.out hform (m.op) (by simp [fNums, getF])
     obtain ⟨y, hy⟩ : ∃ y : Nat, m.op = (y : Int) := ⟨(m.op).toNat, by omega⟩
     rw [hy, show ((y : Int)).toNat = y by omega] at HN0
     have hy9 : y < 9223372036854775808 := by omega
     have HN := Hd HN0
     have HY := Hd hy
     clear HN0 hx0 hx1 hform hy
     have HPN := Hd (c_sPutNum y hy9 wr)
     rw [← HY.out] at HPN
     go_wp2_with fail
     refine HPN.out.mono ?_
     rintro e w5 ⟨⟨A5, c5, rfl, o5⟩, x5⟩
     have h9 := putN_len9 (x := y) (by omega)
     have HQ := Hd (o5.rd bEnc_len).2
     have HP := Hd (HO.out.kept x5)
     have HX5 := Hd (Ext.trans HX.out x5)
     have HE5 := Hd (x5.box HE.out)
     have hs5 := HX5.out.size
     clear o5 x5 HO HX HE HPN
     obtain ⟨Q, hQ⟩ : ∃ Q, putN y = Q := ⟨_, rfl⟩
     rw [hQ] at HQ HN h9 ⊢
     clear hQ
     generalize hP : preM m k = P at HP HN hle ⊢
     go_wp2_with (at_builtin; refine wl_app (enc := bEnc) rfl _ _ 34 rfl w.heap.size 5 i0 (.int .u8 0) 1 1 Try.underlying34 hi hz0 hz1 hz2 rfl (by decide) bEnc_len bEnc_one (.slice Ao P.length co) P rfl HP.out A5 c5 Q Q.length rfl rfl HQ.out (by unfold maxLen; omega) (by omega) (by omega) ?_)
     intro v' w6 ho6 hg6
     have X6 := Hd (ext_app3 HX5.out hg6 HP.out (Nat.le_refl _))
     have E6 := Hd (box_own HE5.out HP.out hg6 (by decide))
     have ho7 : Ow bEnc 5 1 w6 w.heap.size v' (preM m (k + 1)) := by rw [HN.out]; exact ho6
     clear hg6 HP HQ HX5 HE5 ho6
     go_wp2
     go_roundw
     case rel => exact ⟨k + 1, by omega, by go_num, ho7, E6, X6⟩
     case measure => simp [intOf] <;> omega
    ·rw [hq] at hform
     have hform : (formL m.kind)[k]? = some 67 := hform
     have hqi : ((f[k].toNat : Nat) : Int) = 99 := by rw [hq]; rfl
     clear hq
     have HN0 := preM_next hform
     rw [show fNums m 67 = [m.commit] from rfl, pack_one] at HN0
     obtain ⟨hx0, hx1⟩ := fit_let HF.out hform (m.commit) (by simp [fNums, getF])
     obtain ⟨y, hy⟩ : ∃ y : Nat, m.commit = (y : Int) := ⟨(m.commit).toNat, by omega⟩
     rw [hy, show ((y : Int)).toNat = y by omega] at HN0
     have hy9 : y < 9223372036854775808 := by omega
     have HN := Hd HN0
     have HY := Hd hy
     clear HN0 hx0 hx1 hform hy
     have HPN := Hd (c_sPutNum y hy9 wr)
     rw [← HY.out] at HPN
     go_wp2_with fail
     refine HPN.out.mono ?_
     rintro e w5 ⟨⟨A5, c5, rfl, o5⟩, x5⟩
     have h9 := putN_len9 (x := y) (by omega)
     have HQ := Hd (o5.rd bEnc_len).2
     have HP := Hd (HO.out.kept x5)
     have HX5 := Hd (Ext.trans HX.out x5)
     have HE5 := Hd (x5.box HE.out)
     have hs5 := HX5.out.size
     clear o5 x5 HO HX HE HPN
     obtain ⟨Q, hQ⟩ : ∃ Q, putN y = Q := ⟨_, rfl⟩
     rw [hQ] at HQ HN h9 ⊢
     clear hQ
     generalize hP : preM m k = P at HP HN hle ⊢
     go_wp2_with (at_builtin; refine wl_app (enc := bEnc) rfl _ _ 34 rfl w.heap.size 5 i0 (.int .u8 0) 1 1 Try.underlying34 hi hz0 hz1 hz2 rfl (by decide) bEnc_len bEnc_one (.slice Ao P.length co) P rfl HP.out A5 c5 Q Q.length rfl rfl HQ.out (by unfold maxLen; omega) (by omega) (by omega) ?_)
     intro v' w6 ho6 hg6
     have X6 := Hd (ext_app3 HX5.out hg6 HP.out (Nat.le_refl _))
     have E6 := Hd (box_own HE5.out HP.out hg6 (by decide))
     have ho7 : Ow bEnc 5 1 w6 w.heap.size v' (preM m (k + 1)) := by rw [HN.out]; exact ho6
     clear hg6 HP HQ HX5 HE5 ho6
     go_wp2
     go_roundw
     case rel => exact ⟨k + 1, by omega, by go_num, ho7, E6, X6⟩
     case measure => simp [intOf] <;> omega
    ·rw [hq] at hform
     have hform : (formL m.kind)[k]? = some 78 := hform
     have hqi : ((f[k].toNat : Nat) : Int) = 110 := by rw [hq]; rfl
     clear hq
     have HN0 := preM_next hform
     rw [show fNums m 78 = [m.normal] from rfl, pack_one] at HN0
     obtain ⟨hx0, hx1⟩ := fit_let HF.out hform (m.normal) (by simp [fNums, getF])
     obtain ⟨y, hy⟩ : ∃ y : Nat, m.normal = (y : Int) := ⟨(m.normal).toNat, by omega⟩
     rw [hy, show ((y : Int)).toNat = y by omega] at HN0
     have hy9 : y < 9223372036854775808 := by omega
     have HN := Hd HN0
     have HY := Hd hy
     clear HN0 hx0 hx1 hform hy
     have HPN := Hd (c_sPutNum y hy9 wr)
     rw [← HY.out] at HPN
     go_wp2_with fail
     refine HPN.out.mono ?_
     rintro e w5 ⟨⟨A5, c5, rfl, o5⟩, x5⟩
     have h9 := putN_len9 (x := y) (by omega)
     have HQ := Hd (o5.rd bEnc_len).2
     have HP := Hd (HO.out.kept x5)
     have HX5 := Hd (Ext.trans HX.out x5)
     have HE5 := Hd (x5.box HE.out)
     have hs5 := HX5.out.size
     clear o5 x5 HO HX HE HPN
     obtain ⟨Q, hQ⟩ : ∃ Q, putN y = Q := ⟨_, rfl⟩
     rw [hQ] at HQ HN h9 ⊢
     clear hQ
     generalize hP : preM m k = P at HP HN hle ⊢
     go_wp2_with (at_builtin; refine wl_app (enc := bEnc) rfl _ _ 34 rfl w.heap.size 5 i0 (.int .u8 0) 1 1 Try.underlying34 hi hz0 hz1 hz2 rfl (by decide) bEnc_len bEnc_one (.slice Ao P.length co) P rfl HP.out A5 c5 Q Q.length rfl rfl HQ.out (by unfold maxLen; omega) (by omega) (by omega) ?_)
     intro v' w6 ho6 hg6
     have X6 := Hd (ext_app3 HX5.out hg6 HP.out (Nat.le_refl _))
     have E6 := Hd (box_own HE5.out HP.out hg6 (by decide))
     have ho7 : Ow bEnc 5 1 w6 w.heap.size v' (preM m (k + 1)) := by rw [HN.out]; exact ho6
     clear hg6 HP HQ HX5 HE5 ho6
     go_wp2
     go_roundw
     case rel => exact ⟨k + 1, by omega, by go_num, ho7, E6, X6⟩
     case measure => simp [intOf] <;> omega
    ·rw [hq] at hform
     have hform : (formL m.kind)[k]? = some 110 := hform
     have hqi : ((f[k].toNat : Nat) : Int) = 107 := by rw [hq]; rfl
     clear hq
     have HN0 := preM_next hform
     rw [show fNums m 110 = [m.nonce] from rfl, pack_one] at HN0
     obtain ⟨hx0, hx1⟩ := fit_let HF.out hform (m.nonce) (by simp [fNums, getF])
     obtain ⟨y, hy⟩ : ∃ y : Nat, m.nonce = (y : Int) := ⟨(m.nonce).toNat, by omega⟩
     rw [hy, show ((y : Int)).toNat = y by omega] at HN0
     have hy9 : y < 9223372036854775808 := by omega
     have HN := Hd HN0
     have HY := Hd hy
     clear HN0 hx0 hx1 hform hy
     have HPN := Hd (c_sPutNum y hy9 wr)
     rw [← HY.out] at HPN
     go_wp2_with fail
     refine HPN.out.mono ?_
     rintro e w5 ⟨⟨A5, c5, rfl, o5⟩, x5⟩
     have h9 := putN_len9 (x := y) (by omega)
     have HQ := Hd (o5.rd bEnc_len).2
     have HP := Hd (HO.out.kept x5)
     have HX5 := Hd (Ext.trans HX.out x5)
     have HE5 := Hd (x5.box HE.out)
     have hs5 := HX5.out.size
     clear o5 x5 HO HX HE HPN
     obtain ⟨Q, hQ⟩ : ∃ Q, putN y = Q := ⟨_, rfl⟩
     rw [hQ] at HQ HN h9 ⊢
     clear hQ
     generalize hP : preM m k = P at HP HN hle ⊢
     go_wp2_with (at_builtin; refine wl_app (enc := bEnc) rfl _ _ 34 rfl w.heap.size 5 i0 (.int .u8 0) 1 1 Try.underlying34 hi hz0 hz1 hz2 rfl (by decide) bEnc_len bEnc_one (.slice Ao P.length co) P rfl HP.out A5 c5 Q Q.length rfl rfl HQ.out (by unfold maxLen; omega) (by omega) (by omega) ?_)
     intro v' w6 ho6 hg6
     have X6 := Hd (ext_app3 HX5.out hg6 HP.out (Nat.le_refl _))
     have E6 := Hd (box_own HE5.out HP.out hg6 (by decide))
     have ho7 : Ow bEnc 5 1 w6 w.heap.size v' (preM m (k + 1)) := by rw [HN.out]; exact ho6
     clear hg6 HP HQ HX5 HE5 ho6
     go_wp2
     go_roundw
     case rel => exact ⟨k + 1, by omega, by go_num, ho7, E6, X6⟩
     case measure => simp [intOf] <;> omega
    ·rw [hq] at hform
     have hform : (formL m.kind)[k]? = some 99 := hform
     have hqi : ((f[k].toNat : Nat) : Int) = 67 := by rw [hq]; rfl
     clear hq
     have HN0 := preM_next hform
     rw [show fNums m 99 = [m.client] from rfl, pack_one] at HN0
     obtain ⟨hx0, hx1⟩ := fit_let HF.out hform (m.client) (by simp [fNums, getF])
     obtain ⟨y, hy⟩ : ∃ y : Nat, m.client = (y : Int) := ⟨(m.client).toNat, by omega⟩
     rw [hy, show ((y : Int)).toNat = y by omega] at HN0
     have hy9 : y < 9223372036854775808 := by omega
     have HN := Hd HN0
     have HY := Hd hy
     clear HN0 hx0 hx1 hform hy
     have HPN := Hd (c_sPutNum y hy9 wr)
     rw [← HY.out] at HPN
     go_wp2_with fail
     refine HPN.out.mono ?_
     rintro e w5 ⟨⟨A5, c5, rfl, o5⟩, x5⟩
     have h9 := putN_len9 (x := y) (by omega)
     have HQ := Hd (o5.rd bEnc_len).2
     have HP := Hd (HO.out.kept x5)
     have HX5 := Hd (Ext.trans HX.out x5)
     have HE5 := Hd (x5.box HE.out)
     have hs5 := HX5.out.size
     clear o5 x5 HO HX HE HPN
     obtain ⟨Q, hQ⟩ : ∃ Q, putN y = Q := ⟨_, rfl⟩
     rw [hQ] at HQ HN h9 ⊢
     clear hQ
     generalize hP : preM m k = P at HP HN hle ⊢
     go_wp2_with (at_builtin; refine wl_app (enc := bEnc) rfl _ _ 34 rfl w.heap.size 5 i0 (.int .u8 0) 1 1 Try.underlying34 hi hz0 hz1 hz2 rfl (by decide) bEnc_len bEnc_one (.slice Ao P.length co) P rfl HP.out A5 c5 Q Q.length rfl rfl HQ.out (by unfold maxLen; omega) (by omega) (by omega) ?_)
     intro v' w6 ho6 hg6
     have X6 := Hd (ext_app3 HX5.out hg6 HP.out (Nat.le_refl _))
     have E6 := Hd (box_own HE5.out HP.out hg6 (by decide))
     have ho7 : Ow bEnc 5 1 w6 w.heap.size v' (preM m (k + 1)) := by rw [HN.out]; exact ho6
     clear hg6 HP HQ HX5 HE5 ho6
     go_wp2
     go_roundw
     case rel => exact ⟨k + 1, by omega, by go_num, ho7, E6, X6⟩
     case measure => simp [intOf] <;> omega
    ·rw [hq] at hform
     have hform : (formL m.kind)[k]? = some 114 := hform
     have hqi : ((f[k].toNat : Nat) : Int) = 82 := by rw [hq]; rfl
     clear hq
     have HN0 := preM_next hform
     rw [show fNums m 114 = [m.req] from rfl, pack_one] at HN0
     obtain ⟨hx0, hx1⟩ := fit_let HF.out hform (m.req) (by simp [fNums, getF])
     obtain ⟨y, hy⟩ : ∃ y : Nat, m.req = (y : Int) := ⟨(m.req).toNat, by omega⟩
     rw [hy, show ((y : Int)).toNat = y by omega] at HN0
     have hy9 : y < 9223372036854775808 := by omega
     have HN := Hd HN0
     have HY := Hd hy
     clear HN0 hx0 hx1 hform hy
     have HPN := Hd (c_sPutNum y hy9 wr)
     rw [← HY.out] at HPN
     go_wp2_with fail
     refine HPN.out.mono ?_
     rintro e w5 ⟨⟨A5, c5, rfl, o5⟩, x5⟩
     have h9 := putN_len9 (x := y) (by omega)
     have HQ := Hd (o5.rd bEnc_len).2
     have HP := Hd (HO.out.kept x5)
     have HX5 := Hd (Ext.trans HX.out x5)
     have HE5 := Hd (x5.box HE.out)
     have hs5 := HX5.out.size
     clear o5 x5 HO HX HE HPN
     obtain ⟨Q, hQ⟩ : ∃ Q, putN y = Q := ⟨_, rfl⟩
     rw [hQ] at HQ HN h9 ⊢
     clear hQ
     generalize hP : preM m k = P at HP HN hle ⊢
     go_wp2_with (at_builtin; refine wl_app (enc := bEnc) rfl _ _ 34 rfl w.heap.size 5 i0 (.int .u8 0) 1 1 Try.underlying34 hi hz0 hz1 hz2 rfl (by decide) bEnc_len bEnc_one (.slice Ao P.length co) P rfl HP.out A5 c5 Q Q.length rfl rfl HQ.out (by unfold maxLen; omega) (by omega) (by omega) ?_)
     intro v' w6 ho6 hg6
     have X6 := Hd (ext_app3 HX5.out hg6 HP.out (Nat.le_refl _))
     have E6 := Hd (box_own HE5.out HP.out hg6 (by decide))
     have ho7 : Ow bEnc 5 1 w6 w.heap.size v' (preM m (k + 1)) := by rw [HN.out]; exact ho6
     clear hg6 HP HQ HX5 HE5 ho6
     go_wp2
     go_roundw
     case rel => exact ⟨k + 1, by omega, by go_num, ho7, E6, X6⟩
     case measure => simp [intOf] <;> omega
    ·rw [hq] at hform
     have hform : (formL m.kind)[k]? = some 65 := hform
     have hqi : ((f[k].toNat : Nat) : Int) = 65 := by rw [hq]; rfl
     clear hq
     have HN0 := preM_next hform
     rw [show fNums m 65 = [m.answer + 1] from rfl, pack_one] at HN0
     obtain ⟨hx0, hx1⟩ := fit_let HF.out hform (m.answer + 1) (by simp [fNums, getF])
     obtain ⟨y, hy⟩ : ∃ y : Nat, m.answer + 1 = (y : Int) := ⟨(m.answer + 1).toNat, by omega⟩
     rw [hy, show ((y : Int)).toNat = y by omega] at HN0
     have hy9 : y < 9223372036854775808 := by omega
     have hwa : IntKind.i64.wrap (m.answer + 1) = m.answer + 1 := by rw [IntKind.wrap_i64]; omega
     have HN := Hd HN0
     have HY := Hd hy
     clear HN0 hx0 hx1 hform hy
     have HPN := Hd (c_sPutNum y hy9 wr)
     rw [← HY.out] at HPN
     go_wp2_with fail
     refine HPN.out.mono ?_
     rintro e w5 ⟨⟨A5, c5, rfl, o5⟩, x5⟩
     have h9 := putN_len9 (x := y) (by omega)
     have HQ := Hd (o5.rd bEnc_len).2
     have HP := Hd (HO.out.kept x5)
     have HX5 := Hd (Ext.trans HX.out x5)
     have HE5 := Hd (x5.box HE.out)
     have hs5 := HX5.out.size
     clear o5 x5 HO HX HE HPN
     obtain ⟨Q, hQ⟩ : ∃ Q, putN y = Q := ⟨_, rfl⟩
     rw [hQ] at HQ HN h9 ⊢
     clear hQ
     generalize hP : preM m k = P at HP HN hle ⊢
     go_wp2_with (at_builtin; refine wl_app (enc := bEnc) rfl _ _ 34 rfl w.heap.size 5 i0 (.int .u8 0) 1 1 Try.underlying34 hi hz0 hz1 hz2 rfl (by decide) bEnc_len bEnc_one (.slice Ao P.length co) P rfl HP.out A5 c5 Q Q.length rfl rfl HQ.out (by unfold maxLen; omega) (by omega) (by omega) ?_)
     intro v' w6 ho6 hg6
     have X6 := Hd (ext_app3 HX5.out hg6 HP.out (Nat.le_refl _))
     have E6 := Hd (box_own HE5.out HP.out hg6 (by decide))
     have ho7 : Ow bEnc 5 1 w6 w.heap.size v' (preM m (k + 1)) := by rw [HN.out]; exact ho6
     clear hg6 HP HQ HX5 HE5 ho6
     go_wp2
     go_roundw
     case rel => exact ⟨k + 1, by omega, by go_num, ho7, E6, X6⟩
     case measure => simp [intOf] <;> omega
    ·rw [hq] at hform
     have hform : (formL m.kind)[k]? = some 120 := hform
     have hqi : ((f[k].toNat : Nat) : Int) = 100 := by rw [hq]; rfl
     clear hq
     have HN0 := preM_next hform
     rw [show fNums m 120 = [m.ck, m.cx, m.cv] from rfl] at HN0
     have hnn := fit_let HF.out hform
     have HNn := Hd (show Nn [m.ck, m.cx, m.cv] from fun x hx => by have := hnn x hx; omega)
     have HN := Hd HN0
     clear HN0 hnn hform
     have x2 := ext_alloc wr (.cells #[.int .i64 m.ck, .int .i64 m.cx, .int .i64 m.cv] 3)
     have HE2 := Hd (x2.box HE.out)
     have HX2 := Hd (Ext.trans HX.out x2)
     have HO2 := Hd (HO.out.kept x2)
     have HC := Hd (c_sPutNums (some ⟨wr.heap.size, 0, none⟩) 3 [m.ck, m.cx, m.cv] (wr.alloc (.cells #[.int .i64 m.ck, .int .i64 m.cx, .int .i64 m.cv] 3)) (rd_boxZ (hNew rfl) rfl (by unfold maxLen; simp)) HNn.out (by simp))
     clear x2
     go_wp2_with fail
     refine HC.out.mono ?_
     rintro e w5 ⟨⟨A5, c5, rfl, o5⟩, x5⟩
     have h9 := packZ_len9 HNn.out
     have HQ := Hd (o5.rd bEnc_len).2
     have HP := Hd (HO2.out.kept x5)
     have HX5 := Hd (Ext.trans HX2.out x5)
     have HE5 := Hd (x5.box HE2.out)
     have hs5 := HX5.out.size
     clear o5 x5 HC HO HX HE HO2 HX2 HE2 d1 z1
     obtain ⟨Q, hQ⟩ : ∃ Q, packZ [m.ck, m.cx, m.cv] = Q := ⟨_, rfl⟩
     rw [hQ] at HQ HN h9 ⊢
     clear hQ
     simp only [List.length_cons, List.length_nil] at h9
     generalize hP : preM m k = P at HP HN hle ⊢
     go_wp2_with (at_builtin; refine wl_app (enc := bEnc) rfl _ _ 34 rfl w.heap.size 5 i0 (.int .u8 0) 1 1 Try.underlying34 hi hz0 hz1 hz2 rfl (by decide) bEnc_len bEnc_one (.slice Ao P.length co) P rfl HP.out A5 c5 Q Q.length rfl rfl HQ.out (by unfold maxLen; omega) (by omega) (by omega) ?_)
     intro v' w6 ho6 hg6
     have X6 := Hd (ext_app3 HX5.out hg6 HP.out (Nat.le_refl _))
     have E6 := Hd (box_own HE5.out HP.out hg6 (by decide))
     have ho7 : Ow bEnc 5 1 w6 w.heap.size v' (preM m (k + 1)) := by rw [HN.out]; exact ho6
     clear hg6 HP HQ HX5 HE5 ho6
     go_wp2
     go_roundw
     case rel => exact ⟨k + 1, by omega, by go_num, ho7, E6, X6⟩
     case measure => simp [intOf] <;> omega
    ·rw [hq] at hform
     have hform : (formL m.kind)[k]? = some 76 := hform
     have hqi : ((f[k].toNat : Nat) : Int) = 108 := by rw [hq]; rfl
     clear hq
     have HN0 := preM_next hform
     rw [show fNums m 76 = logNums m.log from rfl] at HN0
     have hlog := HF.out.log (List.mem_of_getElem? hform)
     have h414 := logNums_len hlog
     have hnn := fit_let HF.out hform
     have HNn := Hd (show Nn (logNums m.log) from fun x hx => by have := hnn x hx; omega)
     have HN := Hd HN0
     have HC := Hd (c_sPackLog a m.log wr (HR.out.keep HX.out) hlog)
     clear HN0 hnn hform hlog
     go_wp2_with fail
     refine HC.out.mono ?_
     rintro e w5 ⟨⟨A5, c5, rfl, o5⟩, x5⟩
     have h9 := packZ_len9 HNn.out
     have HQ := Hd (o5.rd bEnc_len).2
     have HP := Hd (HO.out.kept x5)
     have HX5 := Hd (Ext.trans HX.out x5)
     have HE5 := Hd (x5.box HE.out)
     have hs5 := HX5.out.size
     clear o5 x5 HC HO HX HE d1 z1
     obtain ⟨Q, hQ⟩ : ∃ Q, packZ (logNums m.log) = Q := ⟨_, rfl⟩
     rw [hQ] at HQ HN h9 ⊢
     clear hQ
     generalize hP : preM m k = P at HP HN hle ⊢
     go_wp2_with (at_builtin; refine wl_app (enc := bEnc) rfl _ _ 34 rfl w.heap.size 5 i0 (.int .u8 0) 1 1 Try.underlying34 hi hz0 hz1 hz2 rfl (by decide) bEnc_len bEnc_one (.slice Ao P.length co) P rfl HP.out A5 c5 Q Q.length rfl rfl HQ.out (by unfold maxLen; omega) (by omega) (by omega) ?_)
     intro v' w6 ho6 hg6
     have X6 := Hd (ext_app3 HX5.out hg6 HP.out (Nat.le_refl _))
     have E6 := Hd (box_own HE5.out HP.out hg6 (by decide))
     have ho7 : Ow bEnc 5 1 w6 w.heap.size v' (preM m (k + 1)) := by rw [HN.out]; exact ho6
     clear hg6 HP HQ HX5 HE5 ho6
     go_wp2
     go_roundw
     case rel => exact ⟨k + 1, by omega, by go_num, ho7, E6, X6⟩
     case measure => simp [intOf] <;> omega
   ·obtain rfl : k = f.size := by omega
    rw [hfl, preM_all] at HO
    rw [hfl, preM_all] at hle
    have hpe : preM m f.size = packZ (msgNums m) := by rw [hfl, preM_all]
    rw [hpe]
    obtain ⟨Q, hQ⟩ : ∃ Q, packZ (msgNums m) = Q := ⟨_, rfl⟩
    have HPM := Hd (show frame Q = packM m by rw [← hQ]; rfl)
    have HBy := Hd (show Byt Q by rw [← hQ]; exact packZ_bytes _)
    rw [hQ] at HO hle ⊢
    have HC := Hd (c_sFrame Ao co Q wr (HO.out.rd bEnc_len).2 HBy.out hle)
    rw [HPM.out] at HC
    clear hpe hQ
    go_wp2_with fail
    refine HC.out.mono ?_
    rintro e w9 ⟨⟨A9, c9, rfl, o9⟩, x9⟩
    have HO9 := Hd (o9.less hs)
    clear o9
    go_wp2
    exact bodyPost_ret (v := .tuple #[.slice A9 (packM m).length c9, .bool true]) (by simp [results, Try.results8, go_sem]) rfl ⟨⟨A9, c9, by rw [HV.out], by rw [HV.out]; exact HO9.out⟩, Ext.trans HX.out x9⟩
set_option maxRecDepth 100000 in
set_option maxHeartbeats 16000000 in
theorem c_iPackMsg (a : LAd) (m : Mg) (w : World) (hs : m.log.small) (hr : LgR w a m.log) : Calls Try.prog 10 #[Mg.val a m] w fun e w' => (∃ A' c', e = .returned (.tuple #[.slice A' (packV m).1.length c', .bool (packV m).2]) ∧ Ow bEnc 5 1 w' w.heap.size (.slice A' (packV m).1.length c') (packV m).1) ∧ Ext w w' := by
 obtain ⟨i0, hi, hz0, hz1, hz2⟩ := info_parts Try.infoU8
 have X0 := ext_alloc w (Mg.obj a m)
 have HCon := Hd (c_iMsgFits a m _ hs (hr.keep X0))
 skip
 have HR := Hd hr
 clear hr
 cases q : iFits m
 ·have HV := Hd (show packV m = ([], false) by unfold packV; rw [if_neg (by rw [q]; simp)])
  rw [q] at HCon
  go_enter Try.func10, Try.ntmps10
  (go_wp2_with (with_reducible refine wl_stop 9 ?_); refine stop_load (hNew (w := w) (o := Mg.obj a m) rfl) rfl Try.underlying46 (by kernel_rfl) ?_; simp only [Act.put, Sa, Sz, Ss])
  go_wp2_with fail
  refine HCon.out.mono ?_
  rintro e w1 ⟨rfl, x1⟩
  have hs1 := (Ext.trans X0 x1).size
  clear HCon
  go_wp2
  exact bodyPost_ret (v := .tuple #[.slice none 0 0, .bool false]) (by simp [results, Try.results10, go_sem]) rfl ⟨⟨_, 0, by rw [HV.out]; rfl, by rw [HV.out]; exact ⟨by simp, .inl ⟨rfl, rfl⟩⟩⟩, Ext.trans X0 x1⟩
 ·have HV := Hd (show packV m = (packM m, true) by unfold packV; rw [if_pos q])
  have HF := Hd (fitW q)
  have HB := Hd (body_put q).2
  obtain ⟨f, hf⟩ : ∃ f, iForm m.kind = f := ⟨_, rfl⟩
  have hsf := iForm_of q
  rw [hf] at hsf
  obtain ⟨hfl, hf100, hfa⟩ := hsf
  have HFa := Hd hfa
  have hk := fit_kind q
  obtain ⟨kn, hkn⟩ : ∃ n : Nat, m.kind = (n : Int) := ⟨m.kind.toNat, by omega⟩
  have hk12 : kn ≤ 12 := by omega
  have HK := Hd (show preM m 0 = putN kn by unfold preM; rw [Tz]; show packZ [m.kind] = _; rw [pack_one, hkn]; rfl)
  have HKn := Hd hkn
  clear hkn
  rw [q] at HCon
  clear q hk hfa
  go_enter Try.func10, Try.ntmps10
  (go_wp2_with (with_reducible refine wl_stop 9 ?_); refine stop_load (hNew (w := w) (o := Mg.obj a m) rfl) rfl Try.underlying46 (by kernel_rfl) ?_; simp only [Act.put, Sa, Sz, Ss])
  go_wp2_with fail
  refine HCon.out.mono ?_
  rintro e w1 ⟨rfl, x1⟩
  have HE1 := Hd (x1.box (hNew (w := w) (o := Mg.obj a m) rfl))
  have HX1 := Hd (Ext.trans X0 x1)
  clear HCon X0 x1
  have d1 := bx_cell HE1.out
  have z1 := bx_lt HE1.out
  have HPN := Hd (c_iPutNum kn (by omega) w1)
  rw [← HKn.out] at HPN
  go_wp2_with fail
  refine HPN.out.mono ?_
  rintro e w2 ⟨⟨A2, c2, rfl, o2⟩, x2⟩
  have HE2 := Hd (x2.box HE1.out)
  have hs2 := HX1.out.size
  have HX2 := Hd (Ext.trans HX1.out x2)
  have HO2 := Hd (show Ow bEnc 5 1 w2 w.heap.size (.slice A2 (putN kn).length c2) (preM m 0) by rw [HK.out]; exact o2.less hs2)
  clear d1 z1 x2 HE1 HX1 o2 HPN
  have d1 := bx_cell HE2.out
  have z1 := bx_lt HE2.out
  go_wp2_with fail
  refine (c_fields m.kind w2).mono ?_
  rintro e w3 ⟨rfl, x3⟩
  rw [hf]
  have HE3 := Hd (x3.box HE2.out)
  have HX3 := Hd (Ext.trans HX2.out x3)
  have HO3 := Hd (HO2.out.kept x3)
  clear HO2
  clear d1 z1 x3 HE2 HX2
  have d1 := bx_cell HE3.out
  have z1 := bx_lt HE3.out
  go_wp2
  clear d1 z1
  go_loopw [4, 6, 7, 8, 20] (fun v _ _ _ i wr => ∃ k : Nat, k ≤ f.size ∧ i = .int .i64 k ∧ Ow bEnc 5 1 wr w.heap.size v (preM m k) ∧ Hid (wr.heap[w.heap.size]? = some (Mg.obj a m)) ∧ Hid (Ext w wr)) (fun _ _ _ _ i _ => f.size - (intOf i).toNat)
  case atStart => exact ⟨0, Nat.zero_le _, rfl, HO3.out, HE3, HX3⟩
  case round =>
   clear HO3 HE3 HX3
   obtain ⟨k, hk, rfl, ho, HE, HX⟩ := hrel
   obtain ⟨Ao, co, rfl⟩ := ho.form
   have HO := Hd ho
   have d1 := bx_cell HE.out
   have z1 := bx_lt HE.out
   have hle : (preM m k).length ≤ 4000 := Nat.le_trans (preM_le m k) HB.out
   have hs := HX.out.size
   clear ho
   by_cases hlt : k < f.size
   ·obtain ⟨hmem, hform⟩ := HFa.out k hlt
    simp only [IL, List.mem_cons, List.not_mem_nil, or_false] at hmem
    rcases hmem with hq | hq | hq | hq | hq | hq | hq | hq | hq | hq | hq
    ·rw [hq] at hform
     have hform : (formL m.kind)[k]? = some 70 := hform
     have hqi : ((f[k].toNat : Nat) : Int) = 70 := by rw [hq]; rfl
     clear hq
     have HN0 := preM_next hform
     rw [show fNums m 70 = [m.frm] from rfl, pack_one] at HN0
     obtain ⟨hx0, hx1⟩ := fit_let HF.out hform (m.frm) (by simp [fNums, getF])
     obtain ⟨y, hy⟩ : ∃ y : Nat, m.frm = (y : Int) := ⟨(m.frm).toNat, by omega⟩
     rw [hy, show ((y : Int)).toNat = y by omega] at HN0
     have hy9 : y < 9223372036854775808 := by omega
     have HN := Hd HN0
     have HY := Hd hy
     clear HN0 hx0 hx1 hform hy
     go_wp2_with fail
     refine (c_numOf w.heap.size 70 wr).mono ?_
     rintro e w2 ⟨rfl, x2⟩
     have HE2 := Hd (x2.box HE.out)
     have HX2 := Hd (Ext.trans HX.out x2)
     have HO2 := Hd (HO.out.kept x2)
     have d2 := bx_cell HE2.out
     have z2 := bx_lt HE2.out
     have hoff : nOff 70 = 1 := rfl
     clear x2 HE HX HO d1 z1
     have HPN := Hd (c_iPutNum y hy9 w2)
     rw [← HY.out] at HPN
     go_wp2_with fail
     refine HPN.out.mono ?_
     rintro e w5 ⟨⟨A5, c5, rfl, o5⟩, x5⟩
     have h9 := putN_len9 (x := y) (by omega)
     have HQ := Hd (o5.rd bEnc_len).2
     have HP := Hd (HO2.out.kept x5)
     have HX5 := Hd (Ext.trans HX2.out x5)
     have HE5 := Hd (x5.box HE2.out)
     have hs5 := HX5.out.size
     clear o5 x5 HO2 HX2 HE2 HPN
     obtain ⟨Q, hQ⟩ : ∃ Q, putN y = Q := ⟨_, rfl⟩
     rw [hQ] at HQ HN h9 ⊢
     clear hQ
     generalize hP : preM m k = P at HP HN hle ⊢
     go_wp2_with (at_builtin; refine wl_app (enc := bEnc) rfl _ _ 34 rfl w.heap.size 5 i0 (.int .u8 0) 1 1 Try.underlying34 hi hz0 hz1 hz2 rfl (by decide) bEnc_len bEnc_one (.slice Ao P.length co) P rfl HP.out A5 c5 Q Q.length rfl rfl HQ.out (by unfold maxLen; omega) (by omega) (by omega) ?_)
     intro v' w6 ho6 hg6
     have X6 := Hd (ext_app3 HX5.out hg6 HP.out (Nat.le_refl _))
     have E6 := Hd (box_own HE5.out HP.out hg6 (by decide))
     have ho7 : Ow bEnc 5 1 w6 w.heap.size v' (preM m (k + 1)) := by rw [HN.out]; exact ho6
     clear hg6 HP HQ HX5 HE5 ho6
     go_wp2
     go_roundw
     case rel => exact ⟨k + 1, by omega, by go_num, ho7, E6, X6⟩
     case measure => simp [intOf] <;> omega
    ·rw [hq] at hform
     have hform : (formL m.kind)[k]? = some 86 := hform
     have hqi : ((f[k].toNat : Nat) : Int) = 86 := by rw [hq]; rfl
     clear hq
     have HN0 := preM_next hform
     rw [show fNums m 86 = [m.view] from rfl, pack_one] at HN0
     obtain ⟨hx0, hx1⟩ := fit_let HF.out hform (m.view) (by simp [fNums, getF])
     obtain ⟨y, hy⟩ : ∃ y : Nat, m.view = (y : Int) := ⟨(m.view).toNat, by omega⟩
     rw [hy, show ((y : Int)).toNat = y by omega] at HN0
     have hy9 : y < 9223372036854775808 := by omega
     have HN := Hd HN0
     have HY := Hd hy
     clear HN0 hx0 hx1 hform hy
     go_wp2_with fail
     refine (c_numOf w.heap.size 86 wr).mono ?_
     rintro e w2 ⟨rfl, x2⟩
     have HE2 := Hd (x2.box HE.out)
     have HX2 := Hd (Ext.trans HX.out x2)
     have HO2 := Hd (HO.out.kept x2)
     have d2 := bx_cell HE2.out
     have z2 := bx_lt HE2.out
     have hoff : nOff 86 = 2 := rfl
     clear x2 HE HX HO d1 z1
     have HPN := Hd (c_iPutNum y hy9 w2)
     rw [← HY.out] at HPN
     go_wp2_with fail
     refine HPN.out.mono ?_
     rintro e w5 ⟨⟨A5, c5, rfl, o5⟩, x5⟩
     have h9 := putN_len9 (x := y) (by omega)
     have HQ := Hd (o5.rd bEnc_len).2
     have HP := Hd (HO2.out.kept x5)
     have HX5 := Hd (Ext.trans HX2.out x5)
     have HE5 := Hd (x5.box HE2.out)
     have hs5 := HX5.out.size
     clear o5 x5 HO2 HX2 HE2 HPN
     obtain ⟨Q, hQ⟩ : ∃ Q, putN y = Q := ⟨_, rfl⟩
     rw [hQ] at HQ HN h9 ⊢
     clear hQ
     generalize hP : preM m k = P at HP HN hle ⊢
     go_wp2_with (at_builtin; refine wl_app (enc := bEnc) rfl _ _ 34 rfl w.heap.size 5 i0 (.int .u8 0) 1 1 Try.underlying34 hi hz0 hz1 hz2 rfl (by decide) bEnc_len bEnc_one (.slice Ao P.length co) P rfl HP.out A5 c5 Q Q.length rfl rfl HQ.out (by unfold maxLen; omega) (by omega) (by omega) ?_)
     intro v' w6 ho6 hg6
     have X6 := Hd (ext_app3 HX5.out hg6 HP.out (Nat.le_refl _))
     have E6 := Hd (box_own HE5.out HP.out hg6 (by decide))
     have ho7 : Ow bEnc 5 1 w6 w.heap.size v' (preM m (k + 1)) := by rw [HN.out]; exact ho6
     clear hg6 HP HQ HX5 HE5 ho6
     go_wp2
     go_roundw
     case rel => exact ⟨k + 1, by omega, by go_num, ho7, E6, X6⟩
     case measure => simp [intOf] <;> omega
    ·rw [hq] at hform
     have hform : (formL m.kind)[k]? = some 79 := hform
     have hqi : ((f[k].toNat : Nat) : Int) = 79 := by rw [hq]; rfl
     clear hq
     have HN0 := preM_next hform
     rw [show fNums m 79 = [m.op] from rfl, pack_one] at HN0
     obtain ⟨hx0, hx1⟩ := fit_let HF.out hform (m.op) (by simp [fNums, getF])
     obtain ⟨y, hy⟩ : ∃ y : Nat, m.op = (y : Int) := ⟨(m.op).toNat, by omega⟩
     rw [hy, show ((y : Int)).toNat = y by omega] at HN0
     have hy9 : y < 9223372036854775808 := by omega
     have HN := Hd HN0
     have HY := Hd hy
     clear HN0 hx0 hx1 hform hy
     go_wp2_with fail
     refine (c_numOf w.heap.size 79 wr).mono ?_
     rintro e w2 ⟨rfl, x2⟩
     have HE2 := Hd (x2.box HE.out)
     have HX2 := Hd (Ext.trans HX.out x2)
     have HO2 := Hd (HO.out.kept x2)
     have d2 := bx_cell HE2.out
     have z2 := bx_lt HE2.out
     have hoff : nOff 79 = 3 := rfl
     clear x2 HE HX HO d1 z1
     have HPN := Hd (c_iPutNum y hy9 w2)
     rw [← HY.out] at HPN
     go_wp2_with fail
     refine HPN.out.mono ?_
     rintro e w5 ⟨⟨A5, c5, rfl, o5⟩, x5⟩
     have h9 := putN_len9 (x := y) (by omega)
     have HQ := Hd (o5.rd bEnc_len).2
     have HP := Hd (HO2.out.kept x5)
     have HX5 := Hd (Ext.trans HX2.out x5)
     have HE5 := Hd (x5.box HE2.out)
     have hs5 := HX5.out.size
     clear o5 x5 HO2 HX2 HE2 HPN
     obtain ⟨Q, hQ⟩ : ∃ Q, putN y = Q := ⟨_, rfl⟩
     rw [hQ] at HQ HN h9 ⊢
     clear hQ
     generalize hP : preM m k = P at HP HN hle ⊢
     go_wp2_with (at_builtin; refine wl_app (enc := bEnc) rfl _ _ 34 rfl w.heap.size 5 i0 (.int .u8 0) 1 1 Try.underlying34 hi hz0 hz1 hz2 rfl (by decide) bEnc_len bEnc_one (.slice Ao P.length co) P rfl HP.out A5 c5 Q Q.length rfl rfl HQ.out (by unfold maxLen; omega) (by omega) (by omega) ?_)
     intro v' w6 ho6 hg6
     have X6 := Hd (ext_app3 HX5.out hg6 HP.out (Nat.le_refl _))
     have E6 := Hd (box_own HE5.out HP.out hg6 (by decide))
     have ho7 : Ow bEnc 5 1 w6 w.heap.size v' (preM m (k + 1)) := by rw [HN.out]; exact ho6
     clear hg6 HP HQ HX5 HE5 ho6
     go_wp2
     go_roundw
     case rel => exact ⟨k + 1, by omega, by go_num, ho7, E6, X6⟩
     case measure => simp [intOf] <;> omega
    ·rw [hq] at hform
     have hform : (formL m.kind)[k]? = some 67 := hform
     have hqi : ((f[k].toNat : Nat) : Int) = 67 := by rw [hq]; rfl
     clear hq
     have HN0 := preM_next hform
     rw [show fNums m 67 = [m.commit] from rfl, pack_one] at HN0
     obtain ⟨hx0, hx1⟩ := fit_let HF.out hform (m.commit) (by simp [fNums, getF])
     obtain ⟨y, hy⟩ : ∃ y : Nat, m.commit = (y : Int) := ⟨(m.commit).toNat, by omega⟩
     rw [hy, show ((y : Int)).toNat = y by omega] at HN0
     have hy9 : y < 9223372036854775808 := by omega
     have HN := Hd HN0
     have HY := Hd hy
     clear HN0 hx0 hx1 hform hy
     go_wp2_with fail
     refine (c_numOf w.heap.size 67 wr).mono ?_
     rintro e w2 ⟨rfl, x2⟩
     have HE2 := Hd (x2.box HE.out)
     have HX2 := Hd (Ext.trans HX.out x2)
     have HO2 := Hd (HO.out.kept x2)
     have d2 := bx_cell HE2.out
     have z2 := bx_lt HE2.out
     have hoff : nOff 67 = 4 := rfl
     clear x2 HE HX HO d1 z1
     have HPN := Hd (c_iPutNum y hy9 w2)
     rw [← HY.out] at HPN
     go_wp2_with fail
     refine HPN.out.mono ?_
     rintro e w5 ⟨⟨A5, c5, rfl, o5⟩, x5⟩
     have h9 := putN_len9 (x := y) (by omega)
     have HQ := Hd (o5.rd bEnc_len).2
     have HP := Hd (HO2.out.kept x5)
     have HX5 := Hd (Ext.trans HX2.out x5)
     have HE5 := Hd (x5.box HE2.out)
     have hs5 := HX5.out.size
     clear o5 x5 HO2 HX2 HE2 HPN
     obtain ⟨Q, hQ⟩ : ∃ Q, putN y = Q := ⟨_, rfl⟩
     rw [hQ] at HQ HN h9 ⊢
     clear hQ
     generalize hP : preM m k = P at HP HN hle ⊢
     go_wp2_with (at_builtin; refine wl_app (enc := bEnc) rfl _ _ 34 rfl w.heap.size 5 i0 (.int .u8 0) 1 1 Try.underlying34 hi hz0 hz1 hz2 rfl (by decide) bEnc_len bEnc_one (.slice Ao P.length co) P rfl HP.out A5 c5 Q Q.length rfl rfl HQ.out (by unfold maxLen; omega) (by omega) (by omega) ?_)
     intro v' w6 ho6 hg6
     have X6 := Hd (ext_app3 HX5.out hg6 HP.out (Nat.le_refl _))
     have E6 := Hd (box_own HE5.out HP.out hg6 (by decide))
     have ho7 : Ow bEnc 5 1 w6 w.heap.size v' (preM m (k + 1)) := by rw [HN.out]; exact ho6
     clear hg6 HP HQ HX5 HE5 ho6
     go_wp2
     go_roundw
     case rel => exact ⟨k + 1, by omega, by go_num, ho7, E6, X6⟩
     case measure => simp [intOf] <;> omega
    ·rw [hq] at hform
     have hform : (formL m.kind)[k]? = some 78 := hform
     have hqi : ((f[k].toNat : Nat) : Int) = 78 := by rw [hq]; rfl
     clear hq
     have HN0 := preM_next hform
     rw [show fNums m 78 = [m.normal] from rfl, pack_one] at HN0
     obtain ⟨hx0, hx1⟩ := fit_let HF.out hform (m.normal) (by simp [fNums, getF])
     obtain ⟨y, hy⟩ : ∃ y : Nat, m.normal = (y : Int) := ⟨(m.normal).toNat, by omega⟩
     rw [hy, show ((y : Int)).toNat = y by omega] at HN0
     have hy9 : y < 9223372036854775808 := by omega
     have HN := Hd HN0
     have HY := Hd hy
     clear HN0 hx0 hx1 hform hy
     go_wp2_with fail
     refine (c_numOf w.heap.size 78 wr).mono ?_
     rintro e w2 ⟨rfl, x2⟩
     have HE2 := Hd (x2.box HE.out)
     have HX2 := Hd (Ext.trans HX.out x2)
     have HO2 := Hd (HO.out.kept x2)
     have d2 := bx_cell HE2.out
     have z2 := bx_lt HE2.out
     have hoff : nOff 78 = 5 := rfl
     clear x2 HE HX HO d1 z1
     have HPN := Hd (c_iPutNum y hy9 w2)
     rw [← HY.out] at HPN
     go_wp2_with fail
     refine HPN.out.mono ?_
     rintro e w5 ⟨⟨A5, c5, rfl, o5⟩, x5⟩
     have h9 := putN_len9 (x := y) (by omega)
     have HQ := Hd (o5.rd bEnc_len).2
     have HP := Hd (HO2.out.kept x5)
     have HX5 := Hd (Ext.trans HX2.out x5)
     have HE5 := Hd (x5.box HE2.out)
     have hs5 := HX5.out.size
     clear o5 x5 HO2 HX2 HE2 HPN
     obtain ⟨Q, hQ⟩ : ∃ Q, putN y = Q := ⟨_, rfl⟩
     rw [hQ] at HQ HN h9 ⊢
     clear hQ
     generalize hP : preM m k = P at HP HN hle ⊢
     go_wp2_with (at_builtin; refine wl_app (enc := bEnc) rfl _ _ 34 rfl w.heap.size 5 i0 (.int .u8 0) 1 1 Try.underlying34 hi hz0 hz1 hz2 rfl (by decide) bEnc_len bEnc_one (.slice Ao P.length co) P rfl HP.out A5 c5 Q Q.length rfl rfl HQ.out (by unfold maxLen; omega) (by omega) (by omega) ?_)
     intro v' w6 ho6 hg6
     have X6 := Hd (ext_app3 HX5.out hg6 HP.out (Nat.le_refl _))
     have E6 := Hd (box_own HE5.out HP.out hg6 (by decide))
     have ho7 : Ow bEnc 5 1 w6 w.heap.size v' (preM m (k + 1)) := by rw [HN.out]; exact ho6
     clear hg6 HP HQ HX5 HE5 ho6
     go_wp2
     go_roundw
     case rel => exact ⟨k + 1, by omega, by go_num, ho7, E6, X6⟩
     case measure => simp [intOf] <;> omega
    ·rw [hq] at hform
     have hform : (formL m.kind)[k]? = some 110 := hform
     have hqi : ((f[k].toNat : Nat) : Int) = 110 := by rw [hq]; rfl
     clear hq
     have HN0 := preM_next hform
     rw [show fNums m 110 = [m.nonce] from rfl, pack_one] at HN0
     obtain ⟨hx0, hx1⟩ := fit_let HF.out hform (m.nonce) (by simp [fNums, getF])
     obtain ⟨y, hy⟩ : ∃ y : Nat, m.nonce = (y : Int) := ⟨(m.nonce).toNat, by omega⟩
     rw [hy, show ((y : Int)).toNat = y by omega] at HN0
     have hy9 : y < 9223372036854775808 := by omega
     have HN := Hd HN0
     have HY := Hd hy
     clear HN0 hx0 hx1 hform hy
     go_wp2_with fail
     refine (c_numOf w.heap.size 110 wr).mono ?_
     rintro e w2 ⟨rfl, x2⟩
     have HE2 := Hd (x2.box HE.out)
     have HX2 := Hd (Ext.trans HX.out x2)
     have HO2 := Hd (HO.out.kept x2)
     have d2 := bx_cell HE2.out
     have z2 := bx_lt HE2.out
     have hoff : nOff 110 = 6 := rfl
     clear x2 HE HX HO d1 z1
     have HPN := Hd (c_iPutNum y hy9 w2)
     rw [← HY.out] at HPN
     go_wp2_with fail
     refine HPN.out.mono ?_
     rintro e w5 ⟨⟨A5, c5, rfl, o5⟩, x5⟩
     have h9 := putN_len9 (x := y) (by omega)
     have HQ := Hd (o5.rd bEnc_len).2
     have HP := Hd (HO2.out.kept x5)
     have HX5 := Hd (Ext.trans HX2.out x5)
     have HE5 := Hd (x5.box HE2.out)
     have hs5 := HX5.out.size
     clear o5 x5 HO2 HX2 HE2 HPN
     obtain ⟨Q, hQ⟩ : ∃ Q, putN y = Q := ⟨_, rfl⟩
     rw [hQ] at HQ HN h9 ⊢
     clear hQ
     generalize hP : preM m k = P at HP HN hle ⊢
     go_wp2_with (at_builtin; refine wl_app (enc := bEnc) rfl _ _ 34 rfl w.heap.size 5 i0 (.int .u8 0) 1 1 Try.underlying34 hi hz0 hz1 hz2 rfl (by decide) bEnc_len bEnc_one (.slice Ao P.length co) P rfl HP.out A5 c5 Q Q.length rfl rfl HQ.out (by unfold maxLen; omega) (by omega) (by omega) ?_)
     intro v' w6 ho6 hg6
     have X6 := Hd (ext_app3 HX5.out hg6 HP.out (Nat.le_refl _))
     have E6 := Hd (box_own HE5.out HP.out hg6 (by decide))
     have ho7 : Ow bEnc 5 1 w6 w.heap.size v' (preM m (k + 1)) := by rw [HN.out]; exact ho6
     clear hg6 HP HQ HX5 HE5 ho6
     go_wp2
     go_roundw
     case rel => exact ⟨k + 1, by omega, by go_num, ho7, E6, X6⟩
     case measure => simp [intOf] <;> omega
    ·rw [hq] at hform
     have hform : (formL m.kind)[k]? = some 99 := hform
     have hqi : ((f[k].toNat : Nat) : Int) = 99 := by rw [hq]; rfl
     clear hq
     have HN0 := preM_next hform
     rw [show fNums m 99 = [m.client] from rfl, pack_one] at HN0
     obtain ⟨hx0, hx1⟩ := fit_let HF.out hform (m.client) (by simp [fNums, getF])
     obtain ⟨y, hy⟩ : ∃ y : Nat, m.client = (y : Int) := ⟨(m.client).toNat, by omega⟩
     rw [hy, show ((y : Int)).toNat = y by omega] at HN0
     have hy9 : y < 9223372036854775808 := by omega
     have HN := Hd HN0
     have HY := Hd hy
     clear HN0 hx0 hx1 hform hy
     go_wp2_with fail
     refine (c_numOf w.heap.size 99 wr).mono ?_
     rintro e w2 ⟨rfl, x2⟩
     have HE2 := Hd (x2.box HE.out)
     have HX2 := Hd (Ext.trans HX.out x2)
     have HO2 := Hd (HO.out.kept x2)
     have d2 := bx_cell HE2.out
     have z2 := bx_lt HE2.out
     have hoff : nOff 99 = 7 := rfl
     clear x2 HE HX HO d1 z1
     have HPN := Hd (c_iPutNum y hy9 w2)
     rw [← HY.out] at HPN
     go_wp2_with fail
     refine HPN.out.mono ?_
     rintro e w5 ⟨⟨A5, c5, rfl, o5⟩, x5⟩
     have h9 := putN_len9 (x := y) (by omega)
     have HQ := Hd (o5.rd bEnc_len).2
     have HP := Hd (HO2.out.kept x5)
     have HX5 := Hd (Ext.trans HX2.out x5)
     have HE5 := Hd (x5.box HE2.out)
     have hs5 := HX5.out.size
     clear o5 x5 HO2 HX2 HE2 HPN
     obtain ⟨Q, hQ⟩ : ∃ Q, putN y = Q := ⟨_, rfl⟩
     rw [hQ] at HQ HN h9 ⊢
     clear hQ
     generalize hP : preM m k = P at HP HN hle ⊢
     go_wp2_with (at_builtin; refine wl_app (enc := bEnc) rfl _ _ 34 rfl w.heap.size 5 i0 (.int .u8 0) 1 1 Try.underlying34 hi hz0 hz1 hz2 rfl (by decide) bEnc_len bEnc_one (.slice Ao P.length co) P rfl HP.out A5 c5 Q Q.length rfl rfl HQ.out (by unfold maxLen; omega) (by omega) (by omega) ?_)
     intro v' w6 ho6 hg6
     have X6 := Hd (ext_app3 HX5.out hg6 HP.out (Nat.le_refl _))
     have E6 := Hd (box_own HE5.out HP.out hg6 (by decide))
     have ho7 : Ow bEnc 5 1 w6 w.heap.size v' (preM m (k + 1)) := by rw [HN.out]; exact ho6
     clear hg6 HP HQ HX5 HE5 ho6
     go_wp2
     go_roundw
     case rel => exact ⟨k + 1, by omega, by go_num, ho7, E6, X6⟩
     case measure => simp [intOf] <;> omega
    ·rw [hq] at hform
     have hform : (formL m.kind)[k]? = some 114 := hform
     have hqi : ((f[k].toNat : Nat) : Int) = 114 := by rw [hq]; rfl
     clear hq
     have HN0 := preM_next hform
     rw [show fNums m 114 = [m.req] from rfl, pack_one] at HN0
     obtain ⟨hx0, hx1⟩ := fit_let HF.out hform (m.req) (by simp [fNums, getF])
     obtain ⟨y, hy⟩ : ∃ y : Nat, m.req = (y : Int) := ⟨(m.req).toNat, by omega⟩
     rw [hy, show ((y : Int)).toNat = y by omega] at HN0
     have hy9 : y < 9223372036854775808 := by omega
     have HN := Hd HN0
     have HY := Hd hy
     clear HN0 hx0 hx1 hform hy
     go_wp2_with fail
     refine (c_numOf w.heap.size 114 wr).mono ?_
     rintro e w2 ⟨rfl, x2⟩
     have HE2 := Hd (x2.box HE.out)
     have HX2 := Hd (Ext.trans HX.out x2)
     have HO2 := Hd (HO.out.kept x2)
     have d2 := bx_cell HE2.out
     have z2 := bx_lt HE2.out
     have hoff : nOff 114 = 8 := rfl
     clear x2 HE HX HO d1 z1
     have HPN := Hd (c_iPutNum y hy9 w2)
     rw [← HY.out] at HPN
     go_wp2_with fail
     refine HPN.out.mono ?_
     rintro e w5 ⟨⟨A5, c5, rfl, o5⟩, x5⟩
     have h9 := putN_len9 (x := y) (by omega)
     have HQ := Hd (o5.rd bEnc_len).2
     have HP := Hd (HO2.out.kept x5)
     have HX5 := Hd (Ext.trans HX2.out x5)
     have HE5 := Hd (x5.box HE2.out)
     have hs5 := HX5.out.size
     clear o5 x5 HO2 HX2 HE2 HPN
     obtain ⟨Q, hQ⟩ : ∃ Q, putN y = Q := ⟨_, rfl⟩
     rw [hQ] at HQ HN h9 ⊢
     clear hQ
     generalize hP : preM m k = P at HP HN hle ⊢
     go_wp2_with (at_builtin; refine wl_app (enc := bEnc) rfl _ _ 34 rfl w.heap.size 5 i0 (.int .u8 0) 1 1 Try.underlying34 hi hz0 hz1 hz2 rfl (by decide) bEnc_len bEnc_one (.slice Ao P.length co) P rfl HP.out A5 c5 Q Q.length rfl rfl HQ.out (by unfold maxLen; omega) (by omega) (by omega) ?_)
     intro v' w6 ho6 hg6
     have X6 := Hd (ext_app3 HX5.out hg6 HP.out (Nat.le_refl _))
     have E6 := Hd (box_own HE5.out HP.out hg6 (by decide))
     have ho7 : Ow bEnc 5 1 w6 w.heap.size v' (preM m (k + 1)) := by rw [HN.out]; exact ho6
     clear hg6 HP HQ HX5 HE5 ho6
     go_wp2
     go_roundw
     case rel => exact ⟨k + 1, by omega, by go_num, ho7, E6, X6⟩
     case measure => simp [intOf] <;> omega
    ·rw [hq] at hform
     have hform : (formL m.kind)[k]? = some 65 := hform
     have hqi : ((f[k].toNat : Nat) : Int) = 65 := by rw [hq]; rfl
     clear hq
     have HN0 := preM_next hform
     rw [show fNums m 65 = [m.answer + 1] from rfl, pack_one] at HN0
     obtain ⟨hx0, hx1⟩ := fit_let HF.out hform (m.answer + 1) (by simp [fNums, getF])
     obtain ⟨y, hy⟩ : ∃ y : Nat, m.answer + 1 = (y : Int) := ⟨(m.answer + 1).toNat, by omega⟩
     rw [hy, show ((y : Int)).toNat = y by omega] at HN0
     have hy9 : y < 9223372036854775808 := by omega
     have hwa : IntKind.i64.wrap (m.answer + 1) = m.answer + 1 := by rw [IntKind.wrap_i64]; omega
     have HN := Hd HN0
     have HY := Hd hy
     clear HN0 hx0 hx1 hform hy
     have HPN := Hd (c_iPutNum y hy9 wr)
     rw [← HY.out] at HPN
     go_wp2_with fail
     refine HPN.out.mono ?_
     rintro e w5 ⟨⟨A5, c5, rfl, o5⟩, x5⟩
     have h9 := putN_len9 (x := y) (by omega)
     have HQ := Hd (o5.rd bEnc_len).2
     have HP := Hd (HO.out.kept x5)
     have HX5 := Hd (Ext.trans HX.out x5)
     have HE5 := Hd (x5.box HE.out)
     have hs5 := HX5.out.size
     clear o5 x5 HO HX HE HPN
     obtain ⟨Q, hQ⟩ : ∃ Q, putN y = Q := ⟨_, rfl⟩
     rw [hQ] at HQ HN h9 ⊢
     clear hQ
     generalize hP : preM m k = P at HP HN hle ⊢
     go_wp2_with (at_builtin; refine wl_app (enc := bEnc) rfl _ _ 34 rfl w.heap.size 5 i0 (.int .u8 0) 1 1 Try.underlying34 hi hz0 hz1 hz2 rfl (by decide) bEnc_len bEnc_one (.slice Ao P.length co) P rfl HP.out A5 c5 Q Q.length rfl rfl HQ.out (by unfold maxLen; omega) (by omega) (by omega) ?_)
     intro v' w6 ho6 hg6
     have X6 := Hd (ext_app3 HX5.out hg6 HP.out (Nat.le_refl _))
     have E6 := Hd (box_own HE5.out HP.out hg6 (by decide))
     have ho7 : Ow bEnc 5 1 w6 w.heap.size v' (preM m (k + 1)) := by rw [HN.out]; exact ho6
     clear hg6 HP HQ HX5 HE5 ho6
     go_wp2
     go_roundw
     case rel => exact ⟨k + 1, by omega, by go_num, ho7, E6, X6⟩
     case measure => simp [intOf] <;> omega
    ·rw [hq] at hform
     have hform : (formL m.kind)[k]? = some 120 := hform
     have hqi : ((f[k].toNat : Nat) : Int) = 120 := by rw [hq]; rfl
     clear hq
     have HN0 := preM_next hform
     rw [show fNums m 120 = [m.ck, m.cx, m.cv] from rfl] at HN0
     have hnn := fit_let HF.out hform
     have HNn := Hd (show Nn [m.ck, m.cx, m.cv] from fun x hx => by have := hnn x hx; omega)
     have HN := Hd HN0
     clear HN0 hnn hform
     have x2 := ext_alloc wr (.cells #[.int .i64 m.ck, .int .i64 m.cx, .int .i64 m.cv] 3)
     have HE2 := Hd (x2.box HE.out)
     have HX2 := Hd (Ext.trans HX.out x2)
     have HO2 := Hd (HO.out.kept x2)
     have HC := Hd (c_iPutNums (some ⟨wr.heap.size, 0, none⟩) 3 [m.ck, m.cx, m.cv] (wr.alloc (.cells #[.int .i64 m.ck, .int .i64 m.cx, .int .i64 m.cv] 3)) (rd_boxZ (hNew rfl) rfl (by unfold maxLen; simp)) HNn.out (by simp))
     clear x2
     go_wp2_with fail
     refine HC.out.mono ?_
     rintro e w5 ⟨⟨A5, c5, rfl, o5⟩, x5⟩
     have h9 := packZ_len9 HNn.out
     have HQ := Hd (o5.rd bEnc_len).2
     have HP := Hd (HO2.out.kept x5)
     have HX5 := Hd (Ext.trans HX2.out x5)
     have HE5 := Hd (x5.box HE2.out)
     have hs5 := HX5.out.size
     clear o5 x5 HC HO HX HE HO2 HX2 HE2 d1 z1
     obtain ⟨Q, hQ⟩ : ∃ Q, packZ [m.ck, m.cx, m.cv] = Q := ⟨_, rfl⟩
     rw [hQ] at HQ HN h9 ⊢
     clear hQ
     simp only [List.length_cons, List.length_nil] at h9
     generalize hP : preM m k = P at HP HN hle ⊢
     go_wp2_with (at_builtin; refine wl_app (enc := bEnc) rfl _ _ 34 rfl w.heap.size 5 i0 (.int .u8 0) 1 1 Try.underlying34 hi hz0 hz1 hz2 rfl (by decide) bEnc_len bEnc_one (.slice Ao P.length co) P rfl HP.out A5 c5 Q Q.length rfl rfl HQ.out (by unfold maxLen; omega) (by omega) (by omega) ?_)
     intro v' w6 ho6 hg6
     have X6 := Hd (ext_app3 HX5.out hg6 HP.out (Nat.le_refl _))
     have E6 := Hd (box_own HE5.out HP.out hg6 (by decide))
     have ho7 : Ow bEnc 5 1 w6 w.heap.size v' (preM m (k + 1)) := by rw [HN.out]; exact ho6
     clear hg6 HP HQ HX5 HE5 ho6
     go_wp2
     go_roundw
     case rel => exact ⟨k + 1, by omega, by go_num, ho7, E6, X6⟩
     case measure => simp [intOf] <;> omega
    ·rw [hq] at hform
     have hform : (formL m.kind)[k]? = some 76 := hform
     have hqi : ((f[k].toNat : Nat) : Int) = 76 := by rw [hq]; rfl
     clear hq
     have HN0 := preM_next hform
     rw [show fNums m 76 = logNums m.log from rfl] at HN0
     have hlog := HF.out.log (List.mem_of_getElem? hform)
     have h414 := logNums_len hlog
     have hnn := fit_let HF.out hform
     have HNn := Hd (show Nn (logNums m.log) from fun x hx => by have := hnn x hx; omega)
     have HN := Hd HN0
     have HC := Hd (c_iPackLog a m.log wr (HR.out.keep HX.out) hlog)
     clear HN0 hnn hform hlog
     go_wp2_with fail
     refine HC.out.mono ?_
     rintro e w5 ⟨⟨A5, c5, rfl, o5⟩, x5⟩
     have h9 := packZ_len9 HNn.out
     have HQ := Hd (o5.rd bEnc_len).2
     have HP := Hd (HO.out.kept x5)
     have HX5 := Hd (Ext.trans HX.out x5)
     have HE5 := Hd (x5.box HE.out)
     have hs5 := HX5.out.size
     clear o5 x5 HC HO HX HE d1 z1
     obtain ⟨Q, hQ⟩ : ∃ Q, packZ (logNums m.log) = Q := ⟨_, rfl⟩
     rw [hQ] at HQ HN h9 ⊢
     clear hQ
     generalize hP : preM m k = P at HP HN hle ⊢
     go_wp2_with (at_builtin; refine wl_app (enc := bEnc) rfl _ _ 34 rfl w.heap.size 5 i0 (.int .u8 0) 1 1 Try.underlying34 hi hz0 hz1 hz2 rfl (by decide) bEnc_len bEnc_one (.slice Ao P.length co) P rfl HP.out A5 c5 Q Q.length rfl rfl HQ.out (by unfold maxLen; omega) (by omega) (by omega) ?_)
     intro v' w6 ho6 hg6
     have X6 := Hd (ext_app3 HX5.out hg6 HP.out (Nat.le_refl _))
     have E6 := Hd (box_own HE5.out HP.out hg6 (by decide))
     have ho7 : Ow bEnc 5 1 w6 w.heap.size v' (preM m (k + 1)) := by rw [HN.out]; exact ho6
     clear hg6 HP HQ HX5 HE5 ho6
     go_wp2
     go_roundw
     case rel => exact ⟨k + 1, by omega, by go_num, ho7, E6, X6⟩
     case measure => simp [intOf] <;> omega
   ·obtain rfl : k = f.size := by omega
    rw [hfl, preM_all] at HO
    rw [hfl, preM_all] at hle
    have hpe : preM m f.size = packZ (msgNums m) := by rw [hfl, preM_all]
    rw [hpe]
    obtain ⟨Q, hQ⟩ : ∃ Q, packZ (msgNums m) = Q := ⟨_, rfl⟩
    have HPM := Hd (show frame Q = packM m by rw [← hQ]; rfl)
    have HBy := Hd (show Byt Q by rw [← hQ]; exact packZ_bytes _)
    rw [hQ] at HO hle ⊢
    have HC := Hd (c_iFrame Ao co Q wr (HO.out.rd bEnc_len).2 HBy.out hle)
    rw [HPM.out] at HC
    clear hpe hQ
    go_wp2_with fail
    refine HC.out.mono ?_
    rintro e w9 ⟨⟨A9, c9, rfl, o9⟩, x9⟩
    have HO9 := Hd (o9.less hs)
    clear o9
    go_wp2
    exact bodyPost_ret (v := .tuple #[.slice A9 (packM m).length c9, .bool true]) (by simp [results, Try.results10, go_sem]) rfl ⟨⟨A9, c9, by rw [HV.out], by rw [HV.out]; exact HO9.out⟩, Ext.trans HX.out x9⟩
end Go.Proofs.Ytpghedeghoegmaa
