/- Committed of the reference and of the program. -/
import Derived.Test.YtkenlhdiehaemaaGreatPk29
import Derived.Test.YtkenlhdiehaemaaGreatPk30
namespace Go.Proofs.YtkenlhdiehaemaaGreat
open Go.ChangeShapes Go.WideShapes Go.ChangeAt Go.RowKit Go.Sort
set_option linter.unusedVariables false
set_option linter.unusedSimpArgs false
abbrev Lg.cs2 (a : LAd) (l : Lg) : Array Value := #[.int .i64 l.base, .slice a.cA l.cells.length a.cc, .slice a.sA l.seats.length a.sc, .slice a.eA l.ents.length a.ec]
abbrev Ent.zbox : Obj := .cells #[.int .i64 0, .int .i64 0, .int .i64 0, .int .i64 0, .int .i64 0] 119
set_option maxRecDepth 100000 in
set_option maxHeartbeats 4000000 in
theorem c_iLogAt (a : LAd) (l : Lg) (j : Nat) (w : World) (hr : LgR w a l) (hok : logOk l = true) (hj : j < l.ents.length) :
  Calls Tryz.prog 169 #[Lg.val a l, .int .i64 (l.base + j + 1)] w fun e9 w' => e9 = .returned (.tuple #[l.ents[j].val, .bool true]) ∧ Ext w w' := by
 obtain ⟨hb0, hb1, h60, hIm, hAll⟩ := log_b hok
 have hsm := logOk_sm hok
 obtain ⟨w1, hw1⟩ : ∃ w1, ((w.alloc (Lg.obj a l)).alloc Ent.zbox) = w1 := ⟨_, rfl⟩
 have X0 : Ext w w1 := by rw [← hw1]; exact ext_to (ext_alloc _ _) _
 have E1 := Hd (show w1.heap[w.heap.size]? = some (Lg.obj a l) by rw [← hw1]; exact hOld (o := Ent.zbox) (hNew (w := w) (o := Lg.obj a l) rfl))
 have E2 := Hd (show w1.heap[w.heap.size + 1]? = some Ent.zbox by rw [← hw1]; exact hNew (w := w.alloc (Lg.obj a l)) (o := Ent.zbox) (k := w.heap.size + 1) (by simp))
 have HK := Hd (show ∀ W, Ext w1 W → Calls Tryz.prog 178 #[Lg.val a l] W fun e w' => e = .returned (.bool true) ∧ Ext W w' from fun W h => by
  have h5 := c_iLogOk a l hsm.1 hsm.2.1 hsm.2.2 W (hr.keep (Ext.trans X0 h))
  rw [hok] at h5
  exact h5)
 have HF := Hd (show ∀ W, Calls Tryz.prog 132 #[.int .i64 (l.base + j + 1), .int .i64 (l.base + 1), .int .i64 l.fin] W fun e w' => e = .returned (.bool true) ∧ Ext W w' from fun W => by
  have h5 := c_from (l.base + j + 1) (l.base + 1) l.fin W
  rw [show inB (l.base + j + 1) (l.base + 1) l.fin = true by rw [inB_yes]; unfold Lg.fin; omega] at h5
  exact h5)
 have HR := Hd hr
 have X := Hd X0
 have hz1_ := bx_lt E2.out
 have HW0 := Hd hw1
 have hsub : l.base + (j : Int) + 1 - l.base - 1 = (j : Int) := by omega
 clear hr hok hw1 X0 hIm hAll hsm
 go_enter Tryz.func169, Tryz.ntmps169
 go_wp2
 refine code_go (F := fun W => W = w1) HW0.out ?_
 intro W1 hW1
 subst hW1
 clear HW0
 have d1 := bx_cell E1.out
 have z1 := bx_lt E1.out
 (refine wp_region_mix' (fun _ _ _ _ _ hq => hq) 13 (by kernel_rfl) (by kernel_rfl) (fun hg => ?_); simp only [headOps, Tc, Tz, List.filter_cons, List.filter_nil, isAlloc, Bool.not_false, Bf, if_true, if_false, List.append_nil, Dc, Dz])
 (repeat (first | (refine wpMix_plain rfl rfl ?_; go_big_quiet_step (fail); refine wpQuiet_nil ?_) | (refine wpMix_skip rfl rfl ?_; simp only [Act.put, Sa, Sz, Ss]) | (refine wpMix_det rfl rfl rfl (enters Tryz.func178 (by kernel_rfl) rfl) (fun W hW => HK.out W hW) rfl ?_; simp only [Act.put, Sa, Sz, Ss]) | (refine wpMix_det rfl rfl rfl (enters Tryz.func76 (by kernel_rfl) rfl) (fun W hW => c_end a l W (by omega) (by omega) (by omega)) rfl ?_; simp only [Act.put, Sa, Sz, Ss]) | (refine wpMix_det rfl rfl rfl (enters Tryz.func132 (by kernel_rfl) rfl) (fun W hW => HF.out W) rfl ?_; simp only [Act.put, Sa, Sz, Ss])))
 (refine wpMix_nil ?_; intro w2 hw2)
 obtain ⟨E1, E2, X⟩ : Hid _ ∧ Hid _ ∧ Hid _ := ⟨Hd (hw2.box E1.out), Hd (hw2.box E2.out), Hd (Ext.trans X.out hw2)⟩
 have hsz2 := hw2.size
 obtain ⟨ab, ao, hA, hab, a0, a1, a2, a3, a4⟩ := (HR.out.2.2.keep X.out).atEnt hj
 clear hw2 d1 z1 HK HF
 have d1 := bx_cell E1.out
 have z1 := bx_lt E1.out
 (go_wp2_with (with_reducible refine wl_stopS 119 ?_); refine stop_store ((w.heap.size + 1)) #[.int .i64 l.ents[j].client, .int .i64 l.ents[j].req, .int .i64 l.ents[j].kind, .int .i64 l.ents[j].key, .int .i64 l.ents[j].value] rfl rfl (E2.out) (by kernel_rfl) rfl (by simp [Value.oneCell']) ?_)
 intro W9 e8 k9
 have HE9 := Hd e8
 have HX9 := Hd (chg_new X.out k9 (by omega))
 clear e8 k9
 go_wp2
 exact bodyPost_ret (results_two Tryz.results169 rfl rfl Tryz.underlying119 (by kernel_rfl) HE9.out) rfl ⟨rfl, HX9.out⟩
set_option maxRecDepth 100000 in
set_option maxHeartbeats 4000000 in
theorem c_sLogAt (a : LAd) (l : Lg) (j : Nat) (w : World) (hr : LgR w a l) (hok : logOk l = true) (hj : j < l.ents.length) :
  Calls Tryz.prog 166 #[Lg.val a l, .int .i64 (l.base + j + 1)] w fun e9 w' => e9 = .returned (.tuple #[l.ents[j].val, .bool true]) ∧ Ext w w' := by
 obtain ⟨hb0, hb1, h60, hIm, hAll⟩ := log_b hok
 have hsm := logOk_sm hok
 obtain ⟨w1, hw1⟩ : ∃ w1, ((w.alloc (Lg.obj a l)).alloc Ent.zbox) = w1 := ⟨_, rfl⟩
 have X0 : Ext w w1 := by rw [← hw1]; exact ext_to (ext_alloc _ _) _
 have E1 := Hd (show w1.heap[w.heap.size]? = some (Lg.obj a l) by rw [← hw1]; exact hOld (o := Ent.zbox) (hNew (w := w) (o := Lg.obj a l) rfl))
 have E2 := Hd (show w1.heap[w.heap.size + 1]? = some Ent.zbox by rw [← hw1]; exact hNew (w := w.alloc (Lg.obj a l)) (o := Ent.zbox) (k := w.heap.size + 1) (by simp))
 have HK := Hd (show ∀ W, Ext w1 W → Calls Tryz.prog 146 #[Lg.val a l] W fun e w' => e = .returned (.bool true) ∧ Ext W w' from fun W h => by
  have h5 := c_sLogOk a l hsm.1 hsm.2.1 hsm.2.2 W (hr.keep (Ext.trans X0 h))
  rw [hok] at h5
  exact h5)
 have HE := Hd (show ∀ W, Ext w1 W → Calls Tryz.prog 69 #[Lg.val a l] W fun e w' => e = .returned (.int .i64 l.fin) ∧ Ext W w' from fun W h => c_sLogEnd a l hsm.1 hsm.2.1 hsm.2.2 W (hr.keep (Ext.trans X0 h)) hok)
 have HR := Hd hr
 have X := Hd X0
 have hz1_ := bx_lt E2.out
 have HW0 := Hd hw1
 have hsub : l.base + (j : Int) + 1 - l.base - 1 = (j : Int) := by omega
 have g1 : decide (l.base + (j : Int) + 1 ≤ l.base) = false := by simp; omega
 have g2 : decide (l.fin < l.base + (j : Int) + 1) = false := by unfold Lg.fin; simp; omega
 clear hr hok hw1 X0 hIm hAll hsm
 go_enter Tryz.func166, Tryz.ntmps166
 go_wp2_with (with_reducible refine wl_stop 6 ?_)
 refine stop_go (F := fun W => W = w1) HW0.out ?_
 intro W1 hW1
 subst hW1
 clear HW0
 have d1 := bx_cell E1.out
 have z1 := bx_lt E1.out
 go_wp2_with fail
 refine (HK.out _ (ext_refl _)).mono ?_
 rintro e9 w2 ⟨rfl, hw2⟩
 obtain ⟨E1, E2, X⟩ : Hid _ ∧ Hid _ ∧ Hid _ := ⟨Hd (hw2.box E1.out), Hd (hw2.box E2.out), Hd (Ext.trans X.out hw2)⟩
 have HX2 := Hd hw2
 have hsz2 := hw2.size
 clear hw2 d1 z1 HK
 have d1 := bx_cell E1.out
 have z1 := bx_lt E1.out
 go_wp2_with fail
 refine (HE.out _ HX2.out).mono ?_
 rintro e9 w3 ⟨rfl, hw3⟩
 obtain ⟨E1, E2, X⟩ : Hid _ ∧ Hid _ ∧ Hid _ := ⟨Hd (hw3.box E1.out), Hd (hw3.box E2.out), Hd (Ext.trans X.out hw3)⟩
 have hsz3 := hw3.size
 obtain ⟨ab, ao, hA, hab, a0, a1, a2, a3, a4⟩ := (HR.out.2.2.keep X.out).atEnt hj
 clear hw3 d1 z1 HE HX2
 have d1 := bx_cell E1.out
 have z1 := bx_lt E1.out
 (go_wp2_with (with_reducible refine wl_stopS 119 ?_); refine stop_store ((w.heap.size + 1)) #[.int .i64 l.ents[j].client, .int .i64 l.ents[j].req, .int .i64 l.ents[j].kind, .int .i64 l.ents[j].key, .int .i64 l.ents[j].value] rfl rfl (E2.out) (by kernel_rfl) rfl (by simp [Value.oneCell']) ?_)
 intro W9 e8 k9
 have HE9 := Hd e8
 have HX9 := Hd (chg_new X.out k9 (by omega))
 clear e8 k9
 go_wp2
 exact bodyPost_ret (results_two Tryz.results166 rfl rfl Tryz.underlying119 (by kernel_rfl) HE9.out) rfl ⟨rfl, HX9.out⟩
set_option maxRecDepth 100000 in
set_option maxHeartbeats 4000000 in
theorem c_iSeatOf (cA : Option Addr) (cc : Nat) (cs : List Cel) (sA : Option Addr) (sc : Nat) (ss : List Sea) (t : Int) (w : World) (hc : Rd Cel.enc 2 w cA cc cs) (hs : Rd Sea.enc 3 w sA sc ss) (hok : ImgP (cs, ss)) (h0 : 0 ≤ t) (h1 : t ≤ 1000000000) :
  Calls Tryz.prog 171 #[Im.val cA cs.length cc sA ss.length sc, .int .i64 t] w fun e w' => (∃ x : Sea, e = .returned (.tuple #[.agg #[.int .i64 x.client, .int .i64 x.req, .int .i64 x.answer], .bool (hasS ss t)]) ∧ (hasS ss t = true → x = seatAt ss t)) ∧ Ext w w' := by
 have hcl : cs.length ≤ 40 := hok.c.len
 have hsl : ss.length ≤ 10 := hok.s.len
 have X0 : Ext w ((w.alloc (Im.obj cA cs.length cc sA ss.length sc)).alloc Sea.zobj) := ext_to (ext_alloc _ _) _
 have D1 := Hd (hOld (o := Sea.zobj) (hNew (w := w) (o := Im.obj cA cs.length cc sA ss.length sc) rfl))
 have D2 := Hd (hNew (w := w.alloc (Im.obj cA cs.length cc sA ss.length sc)) (o := Sea.zobj) (k := w.heap.size + 1) (by simp))
 have HC := Hd (show ∀ W, Ext ((w.alloc (Im.obj cA cs.length cc sA ss.length sc)).alloc Sea.zobj) W → Calls Tryz.prog 197 #[Im.val cA cs.length cc sA ss.length sc] W fun e w' => e = .returned (.bool true) ∧ Ext W w' from fun W h => by
  have h5 := c_iImageOk cA cc cs sA sc ss W (hc.keep (Ext.trans X0 h)) (hs.keep (Ext.trans X0 h)) (by omega) (by omega)
  rw [show imageOk cs ss = true from hok.ok] at h5
  exact h5)
 have HX0 := Hd X0
 have HR := Hd (hs.keep X0)
 have HOk := Hd hok
 obtain ⟨n, hn⟩ : ∃ n, lbS ss t = n := ⟨_, rfl⟩
 obtain ⟨gh, hgh⟩ : ∃ b, hasS ss t = b := ⟨_, rfl⟩
 have HSf := Hd (show ∀ W, Ext ((w.alloc (Im.obj cA cs.length cc sA ss.length sc)).alloc Sea.zobj) W → Calls Tryz.prog 198 #[Im.val cA cs.length cc sA ss.length sc, .int .i64 t] W fun e w' => e = .returned (.tuple #[.int .i64 n, .bool gh]) ∧ Ext W w' from fun W h => by
  rw [← hn, ← hgh]
  exact c_seatFor cA cs.length cc sA sc ss t W (hs.keep (Ext.trans X0 h)) hok.s.ok h0 h1)
 have HN := Hd hn
 have HG := Hd hgh
 clear X0 hc hs hok hn hgh
 go_enter Tryz.func171, Tryz.ntmps171
 go_wp2_with fail
 refine (HC.out _ (ext_refl _)).mono ?_
 rintro e9 w2 ⟨rfl, x2⟩
 have E1 := Hd (x2.box D1.out)
 have E2 := Hd (x2.box D2.out)
 have X2 := Hd x2
 have hz2 := x2.size
 simp only [sz_alloc] at hz2
 clear x2 D1 D2 HC
 have d1 := bx_cell E1.out
 have z1 := bx_lt E1.out
 go_wp2_with fail
 refine (HSf.out _ X2.out).mono ?_
 rintro e9 w3 ⟨rfl, x3⟩
 obtain ⟨E1, E2, X3⟩ : Hid _ ∧ Hid _ ∧ Hid _ := ⟨Hd (x3.box E1.out), Hd (x3.box E2.out), Hd (Ext.trans X2.out x3)⟩
 have hz3 := x3.size
 clear x3 d1 z1 HSf X2
 cases gh
 ·(go_wp2_with (with_reducible refine wl_stopS 149 ?_); refine stop_store ((w.heap.size + 1)) #[.int .i64 0, .int .i64 0, .int .i64 0] rfl rfl (E2.out) (by kernel_rfl) rfl (by simp [Value.oneCell']) ?_)
  intro W9 e9 k9
  have HE9 := Hd e9
  have HX9 := Hd (chg_new (Ext.trans HX0.out X3.out) k9 (by omega))
  clear e9 k9
  go_wp2
  exact bodyPost_ret (results_two Tryz.results171 rfl rfl Tryz.underlying149 (by kernel_rfl) HE9.out) rfl ⟨⟨Sea.z, by rw [HG.out]; rfl, fun h => by rw [HG.out] at h; cases h⟩, HX9.out⟩
 ·have hk := hasS_in HG.out
  rw [HN.out] at hk
  obtain ⟨ab, ao, hA, hab, a0, a1, a2⟩ := (HR.out.keep X3.out).atSea hk
  subst hA
  have HS := Hd (show ss[n] = seatAt ss t by unfold seatAt; rw [HN.out]; simp [hk])
  have d1 := bx_cell E1.out
  have z1 := bx_lt E1.out
  (go_wp2_with (with_reducible refine wl_stopS 149 ?_); refine stop_store ((w.heap.size + 1)) #[.int .i64 ss[n].client, .int .i64 ss[n].req, .int .i64 ss[n].answer] rfl rfl (E2.out) (by kernel_rfl) rfl (by simp [Value.oneCell']) ?_)
  intro W9 e9 k9
  have HE9 := Hd e9
  have HX9 := Hd (chg_new (Ext.trans HX0.out X3.out) k9 (by omega))
  clear e9 k9
  go_wp2
  exact bodyPost_ret (results_two Tryz.results171 rfl rfl Tryz.underlying149 (by kernel_rfl) HE9.out) rfl ⟨⟨ss[n], by rw [HG.out]; rfl, fun _ => HS.out⟩, HX9.out⟩
def repB (m : Img) (e : Ent) : Bool := (entCode m e == 0) || ((entCode m e == 3) || ((entCode m e == 2) && ((seatAt m.2 e.client).req == e.req)))
def repM (view : Int) (e : Ent) (x : Int) : Mg := ⟨12, 0, view, 0, 0, 0, 0, e.client, e.req, x, 0, 0, 0, Lg.none⟩
def repO (view : Int) (l : Lg) (j : Nat) : List Ot :=
 match l.ents[j]? with
 | some e => if repB (allI (l.cells, l.seats) (l.ents.take j)) e = true then [⟨-1, repM view e (entA (allI (l.cells, l.seats) (l.ents.take j)) e)⟩] else []
 | none => []
def ansO (view : Int) (l : Lg) (j : Nat) : Nat → List Ot
 | 0 => []
 | n + 1 => ansO view l j n ++ repO view l (j + n)
theorem repO_len (view : Int) (l : Lg) (j : Nat) : (repO view l j).length ≤ 1 := by
 unfold repO
 split
 ·split <;> simp
 ·simp
theorem ansO_len (view : Int) (l : Lg) (j : Nat) : ∀ n, (ansO view l j n).length ≤ n
 | 0 => Nat.le_refl _
 | n + 1 => by
  have h1 := ansO_len view l j n
  have h2 := repO_len view l (j + n)
  unfold ansO
  rw [List.length_append]; omega
theorem ansO_next (view : Int) (l : Lg) (j n : Nat) : ansO view l j (n + 1) = ansO view l j n ++ repO view l (j + n) := rfl
theorem repO_yes {view : Int} {l : Lg} {j : Nat} (h : j < l.ents.length) {m : Img} (hm : allI (l.cells, l.seats) (l.ents.take j) = m) (hb : repB m l.ents[j] = true) : repO view l j = [⟨-1, repM view l.ents[j] (entA m l.ents[j])⟩] := by
 unfold repO
 rw [List.getElem?_eq_getElem h, hm]
 show (if repB m l.ents[j] = true then _ else _) = _
 rw [if_pos hb]
theorem repO_no {view : Int} {l : Lg} {j : Nat} (h : j < l.ents.length) {m : Img} (hm : allI (l.cells, l.seats) (l.ents.take j) = m) (hb : repB m l.ents[j] = false) : repO view l j = [] := by
 unfold repO
 rw [List.getElem?_eq_getElem h, hm]
 show (if repB m l.ents[j] = true then _ else _) = _
 rw [hb]
 rfl
theorem ansO_small (view : Int) (l : Lg) (j : Nat) : ∀ n, ∀ o ∈ ansO view l j n, o.msg.log.small
 | 0 => by simp [ansO]
 | n + 1 => fun o ho => by
  rw [ansO_next] at ho
  rcases List.mem_append.1 ho with ho | ho
  ·exact ansO_small view l j n o ho
  ·unfold repO at ho
   split at ho
   ·split at ho
    ·rw [Mi] at ho
     subst ho
     exact ⟨by simp [repM, Lg.none], by simp [repM, Lg.none], by simp [repM, Lg.none]⟩
    ·simp at ho
   ·simp at ho
theorem code_cases (m : Img) (e : Ent) : (entCode m e = 0) ∨ (entCode m e = 3) ∨ (entCode m e = 2 ∧ hasS m.2 e.client = true) := by
 unfold entCode
 by_cases h : (sameE m.2 e || oldE m.2 e) = true
 ·rw [if_pos h]
  refine .inr (.inr ⟨rfl, ?_⟩)
  simp only [sameE, oldE, Bool.or_eq_true, Bool.and_eq_true] at h
  rcases h with h | h <;> exact h.1
 ·rw [if_neg h]
  split
  ·exact .inr (.inl rfl)
  ·exact .inl rfl
end Go.Proofs.YtkenlhdiehaemaaGreat
