/- Search in rows of cells and seats. -/
import Derived.Test.YtmphedkbdlckhaaGreatPk8
namespace Go.Proofs.YtmphedkbdlckhaaGreat
open Go.ChangeShapes Go.WideShapes Go.ChangeAt Go.RowKit Go.Sort
set_option linter.unusedVariables false
set_option linter.unusedSimpArgs false
set_option maxRecDepth 100000 in
set_option maxHeartbeats 4000000 in
theorem c_searchCel (g : Nat) (lb : Array Value) (A : Option Addr) (c : Nat) (l : List Cel) (t : Int) (n0 : Nat) (w : World) (eg : ∀ args w, (callFunc g args).run Tryz.prog w = .ok (.enter g args) w) (ha : Rd Cel.enc 2 w A c l) (hn : l.length ≤ 1048576) (h0 : n0 ≤ l.length)
  (hlo : ∀ i (h : i < l.length), i < n0 → l[i].key - t < 0) (hhi : ∀ i (h : i < l.length), n0 ≤ i → ¬ l[i].key - t < 0)
  (hp : ∀ W, Ext w W → ∀ k (hk : k < l.length), Calls Tryz.prog g (#[.agg #[.int .i64 l[k].key, .int .i64 l[k].value], .int .i64 t] ++ lb) W fun e w' => e = .returned (.int .i64 (l[k].key - t)) ∧ Ext W w') :
  Calls Tryz.prog 155 #[.slice A l.length c, .int .i64 t, .func (.func g) #[] lb] w fun e w' => e = .returned (.tuple #[.int .i64 n0, .bool (match l[n0]? with | some x => x.key - t == 0 | none => false)]) ∧ Ext w w' := by
 obtain ⟨V, hV⟩ : ∃ V, (match l[n0]? with | some x => x.key - t == 0 | none => false) = V := ⟨_, rfl⟩
 rw [hV]
 have HV := Hd hV
 clear hV
 have HP := Hd hp
 have HLo := Hd hlo
 have HHi := Hd hhi
 clear hp hlo hhi
 go_enter Tryz.func155, Tryz.ntmps155
 go_wp2
 go_loopw [9, 10] (fun i j wr => ∃ lo hi : Nat, lo ≤ n0 ∧ n0 ≤ hi ∧ hi ≤ l.length ∧ i = .int .i64 lo ∧ j = .int .i64 hi ∧ Ext w wr) (fun i j _ => (intOf j).toNat - (intOf i).toNat)
 case atStart => exact ⟨0, l.length, Nat.zero_le _, h0, Nat.le_refl _, rfl, rfl, ext_refl _⟩
 case round =>
  obtain ⟨lo, hi, h1, h2, h3, rfl, rfl, X⟩ := hrel
  by_cases hlt : lo < hi
  ·obtain ⟨h, hh, hl, hu⟩ : ∃ h : Nat, ((lo : Int) + (hi : Int)) / 2 = (h : Int) ∧ lo ≤ h ∧ h < hi := ⟨(lo + hi) / 2, by omega, by omega, by omega⟩
   have hhl : h < l.length := by omega
   have hcall := HP.out wr X h hhl
   obtain ⟨ab, ao, rfl, hab, a0, a1⟩ := (ha.keep X).atCel hhl
   by_cases hcmp : l[h].key - t < 0
   ·have hge : h < n0 := by
     by_cases hc : h < n0
     ·exact hc
     ·have := HHi.out h hhl (by omega); omega
    have hcmp' : decide (l[h].key - t < 0) = true := by simpa using hcmp
    have HQ := Hd hcall
    clear hcall HP HLo HHi hcmp
    go_wp2_with fail
    refine HQ.out.mono ?_
    rintro e w1 ⟨rfl, hx⟩
    clear HQ
    go_wp2
    go_roundw
    case rel => exact ⟨h + 1, hi, by omega, h2, h3, by go_num, rfl, Ext.trans X hx⟩
    case measure => simp [intOf] <;> omega
   ·have hge : n0 ≤ h := by
     by_cases hc : n0 ≤ h
     ·exact hc
     ·have := HLo.out h hhl (by omega); omega
    have hcmp' : decide (l[h].key - t < 0) = false := by simpa using hcmp
    have HQ := Hd hcall
    clear hcall HP HLo HHi hcmp
    go_wp2_with fail
    refine HQ.out.mono ?_
    rintro e w1 ⟨rfl, hx⟩
    clear HQ
    go_wp2
    go_roundw
    case rel => exact ⟨lo, h, h1, hge, by omega, rfl, rfl, Ext.trans X hx⟩
    case measure => simp [intOf] <;> omega
  ·obtain rfl : lo = n0 := by omega
   obtain rfl : hi = lo := by omega
   by_cases hlt2 : hi < l.length
   ·have hv := Hd (show (l[hi].key - t == 0) = V by rw [← HV.out, List.getElem?_eq_getElem hlt2])
    have hcall := HP.out wr X hi hlt2
    obtain ⟨ab, ao, rfl, hab, a0, a1⟩ := (ha.keep X).atCel hlt2
    have HQ := Hd hcall
    clear hcall HP HLo HHi
    go_wp2_with fail
    refine HQ.out.mono ?_
    rintro e w1 ⟨rfl, hx⟩
    clear HQ
    go_wp2
    refine bodyPost_ret (results_tmp2 Tryz.results155 _ _ _) rfl ⟨?_, Ext.trans X hx⟩
    rw [← hv.out]
    rfl
   ·have hv := Hd (show false = V by rw [← HV.out, List.getElem?_eq_none (by omega)])
    clear HP HLo HHi
    go_wp2
    refine bodyPost_ret (results_tmp2 Tryz.results155 _ _ _) rfl ⟨?_, X⟩
    rw [← hv.out]
    rfl
set_option maxRecDepth 100000 in
set_option maxHeartbeats 4000000 in
theorem c_searchSea (g : Nat) (lb : Array Value) (A : Option Addr) (c : Nat) (l : List Sea) (t : Int) (n0 : Nat) (w : World) (eg : ∀ args w, (callFunc g args).run Tryz.prog w = .ok (.enter g args) w) (ha : Rd Sea.enc 3 w A c l) (hn : l.length ≤ 1048576) (h0 : n0 ≤ l.length)
  (hlo : ∀ i (h : i < l.length), i < n0 → l[i].client - t < 0) (hhi : ∀ i (h : i < l.length), n0 ≤ i → ¬ l[i].client - t < 0)
  (hp : ∀ W, Ext w W → ∀ k (hk : k < l.length), Calls Tryz.prog g (#[.agg #[.int .i64 l[k].client, .int .i64 l[k].req, .int .i64 l[k].answer], .int .i64 t] ++ lb) W fun e w' => e = .returned (.int .i64 (l[k].client - t)) ∧ Ext W w') :
  Calls Tryz.prog 139 #[.slice A l.length c, .int .i64 t, .func (.func g) #[] lb] w fun e w' => e = .returned (.tuple #[.int .i64 n0, .bool (match l[n0]? with | some x => x.client - t == 0 | none => false)]) ∧ Ext w w' := by
 obtain ⟨V, hV⟩ : ∃ V, (match l[n0]? with | some x => x.client - t == 0 | none => false) = V := ⟨_, rfl⟩
 rw [hV]
 have HV := Hd hV
 clear hV
 have HP := Hd hp
 have HLo := Hd hlo
 have HHi := Hd hhi
 clear hp hlo hhi
 go_enter Tryz.func139, Tryz.ntmps139
 go_wp2
 go_loopw [9, 10] (fun i j wr => ∃ lo hi : Nat, lo ≤ n0 ∧ n0 ≤ hi ∧ hi ≤ l.length ∧ i = .int .i64 lo ∧ j = .int .i64 hi ∧ Ext w wr) (fun i j _ => (intOf j).toNat - (intOf i).toNat)
 case atStart => exact ⟨0, l.length, Nat.zero_le _, h0, Nat.le_refl _, rfl, rfl, ext_refl _⟩
 case round =>
  obtain ⟨lo, hi, h1, h2, h3, rfl, rfl, X⟩ := hrel
  by_cases hlt : lo < hi
  ·obtain ⟨h, hh, hl, hu⟩ : ∃ h : Nat, ((lo : Int) + (hi : Int)) / 2 = (h : Int) ∧ lo ≤ h ∧ h < hi := ⟨(lo + hi) / 2, by omega, by omega, by omega⟩
   have hhl : h < l.length := by omega
   have hcall := HP.out wr X h hhl
   obtain ⟨ab, ao, rfl, hab, a0, a1, a2⟩ := (ha.keep X).atSea hhl
   by_cases hcmp : l[h].client - t < 0
   ·have hge : h < n0 := by
     by_cases hc : h < n0
     ·exact hc
     ·have := HHi.out h hhl (by omega); omega
    have hcmp' : decide (l[h].client - t < 0) = true := by simpa using hcmp
    have HQ := Hd hcall
    clear hcall HP HLo HHi hcmp
    go_wp2_with fail
    refine HQ.out.mono ?_
    rintro e w1 ⟨rfl, hx⟩
    clear HQ
    go_wp2
    go_roundw
    case rel => exact ⟨h + 1, hi, by omega, h2, h3, by go_num, rfl, Ext.trans X hx⟩
    case measure => simp [intOf] <;> omega
   ·have hge : n0 ≤ h := by
     by_cases hc : n0 ≤ h
     ·exact hc
     ·have := HLo.out h hhl (by omega); omega
    have hcmp' : decide (l[h].client - t < 0) = false := by simpa using hcmp
    have HQ := Hd hcall
    clear hcall HP HLo HHi hcmp
    go_wp2_with fail
    refine HQ.out.mono ?_
    rintro e w1 ⟨rfl, hx⟩
    clear HQ
    go_wp2
    go_roundw
    case rel => exact ⟨lo, h, h1, hge, by omega, rfl, rfl, Ext.trans X hx⟩
    case measure => simp [intOf] <;> omega
  ·obtain rfl : lo = n0 := by omega
   obtain rfl : hi = lo := by omega
   by_cases hlt2 : hi < l.length
   ·have hv := Hd (show (l[hi].client - t == 0) = V by rw [← HV.out, List.getElem?_eq_getElem hlt2])
    have hcall := HP.out wr X hi hlt2
    obtain ⟨ab, ao, rfl, hab, a0, a1, a2⟩ := (ha.keep X).atSea hlt2
    have HQ := Hd hcall
    clear hcall HP HLo HHi
    go_wp2_with fail
    refine HQ.out.mono ?_
    rintro e w1 ⟨rfl, hx⟩
    clear HQ
    go_wp2
    refine bodyPost_ret (results_tmp2 Tryz.results139 _ _ _) rfl ⟨?_, Ext.trans X hx⟩
    rw [← hv.out]
    rfl
   ·have hv := Hd (show false = V by rw [← HV.out, List.getElem?_eq_none (by omega)])
    clear HP HLo HHi
    go_wp2
    refine bodyPost_ret (results_tmp2 Tryz.results139 _ _ _) rfl ⟨?_, X⟩
    rw [← hv.out]
    rfl
structure CsOk (l : List Cel) : Prop where
 len : l.length ≤ 40
 num : ∀ (i : Nat) (h : i < l.length), 0 ≤ l[i].key ∧ l[i].key ≤ 1000000000 ∧ 0 ≤ l[i].value ∧ l[i].value ≤ 1000000000
 asc : ∀ (i j : Nat) (hi : i < l.length) (hj : j < l.length), i < j → l[i].key < l[j].key
theorem CTo.ok {l : List Cel} (h : CTo l l.length) (hl : l.length ≤ 40) : CsOk l := by
 have hs : ∀ (i : Nat) (h : i < l.length), (wh l[i].key && wh l[i].value && cLow l i l[i].key) = true := fun i hi => by rw [← cStep_at hi]; exact h i hi
 refine ⟨hl, fun i hi => ?_, fun i j hi hj hij => ?_⟩
 ·have := hs i hi
  simp only [wh, inB, Bool.and_eq_true, decide_eq_true_eq] at this
  omega
 ·have hadj : ∀ (k : Nat) (hk : k + 1 < l.length), l[k].key < l[k + 1].key := fun k hk => by
   have h1 := hs (k + 1) hk
   rw [cLow_at (show k < l.length by omega)] at h1
   simp only [Bool.and_eq_true, Bool.not_eq_true', decide_eq_false_iff_not] at h1
   omega
  have hup : ∀ (d : Nat) (hd : i + 1 + d < l.length), l[i].key < l[i + 1 + d].key := fun d => by
   induction d with
   | zero => intro hd; exact hadj i hd
   | succ d ih =>
    intro hd
    have h1 := ih (by omega)
    have h2 := hadj (i + 1 + d) (by omega)
    simp only [Nat.add_assoc] at h1 h2 ⊢
    omega
  have := hup (j - (i + 1)) (by omega)
  simp only [show i + 1 + (j - (i + 1)) = j by omega] at this
  exact this
def lbC : List Cel → Int → Nat
 | [], _ => 0
 | x :: r, t => if x.key - t < 0 then lbC r t + 1 else 0
theorem lbC_le : ∀ (l : List Cel) (t : Int), lbC l t ≤ l.length
 | [], _ => Nat.le_refl _
 | x :: r, t => by
  have := lbC_le r t
  unfold lbC
  split <;> simp <;> omega
theorem lbC_lo : ∀ {l : List Cel} {t : Int} (i : Nat) (h : i < l.length), i < lbC l t → l[i].key - t < 0
 | [], _, i, h, _ => absurd h (by simp)
 | x :: r, t, i, h, hi => by
  unfold lbC at hi
  by_cases hx : x.key - t < 0
  ·rw [if_pos hx] at hi
   cases i with
   | zero => exact hx
   | succ i => exact lbC_lo (l := r) i (by simpa using h) (by omega)
  ·rw [if_neg hx] at hi
   omega
theorem lbC_at : ∀ {l : List Cel} {t : Int} (n : Nat) (_ : lbC l t = n) (h : n < l.length), ¬ l[n].key - t < 0
 | [], _, _, _, h => absurd h (by simp)
 | x :: r, t, n, hn, h => by
  unfold lbC at hn
  by_cases hx : x.key - t < 0
  ·rw [if_pos hx] at hn
   subst hn
   exact lbC_at (l := r) _ rfl (by simpa using h)
  ·rw [if_neg hx] at hn
   subst hn
   exact hx
theorem lbC_hi {l : List Cel} {t : Int} (ha : CsOk l) (i : Nat) (h : i < l.length) (hi : lbC l t ≤ i) : ¬ l[i].key - t < 0 := by
 have h0 : lbC l t < l.length := by omega
 have h1 := lbC_at (lbC l t) rfl h0
 by_cases he : lbC l t = i
 ·simp only [he] at h1; exact h1
 ·have := ha.asc (lbC l t) i h0 h (by omega)
  omega
def hasC (l : List Cel) (t : Int) : Bool := match l[lbC l t]? with | some x => x.key - t == 0 | none => false
def valC (l : List Cel) (t : Int) : Int := match l[lbC l t]? with | some x => if (x.key - t == 0) = true then x.value else -1 | none => -1
set_option maxHeartbeats 1000000 in
theorem c_cellFor1 (x : Cel) (t : Int) (h0 : 0 ≤ x.key) (h1 : x.key ≤ 1000000000) (h2 : 0 ≤ t) (h3 : t ≤ 1000000000) (w : World) : Calls Tryz.prog 156 #[.agg #[.int .i64 x.key, .int .i64 x.value], .int .i64 t] w fun e w' => e = .returned (.int .i64 (x.key - t)) ∧ Ext w w' := by
 go_enter Tryz.func156, Tryz.ntmps156
 go_wp2
 go_ret
 exact ⟨rfl, ext_alloc _ _⟩
set_option maxHeartbeats 1000000 in
theorem c_cellFor (A : Option Addr) (c : Nat) (l : List Cel) (t : Int) (w : World) (ha : Rd Cel.enc 2 w A c l) (hok : CsOk l) (h2 : 0 ≤ t) (h3 : t ≤ 1000000000) :
  Calls Tryz.prog 151 #[.slice A l.length c, .int .i64 t] w fun e w' => e = .returned (.tuple #[.int .i64 (lbC l t), .bool (hasC l t)]) ∧ Ext w w' := by
 have hl := hok.len
 have hC : Calls Tryz.prog 155 #[.slice A l.length c, .int .i64 t, .func (.func 156) #[] #[]] w fun e w' => e = .returned (.tuple #[.int .i64 (lbC l t), .bool (hasC l t)]) ∧ Ext w w' :=
  c_searchCel 156 #[] A c l t (lbC l t) w (enters Tryz.func156 (by kernel_rfl) rfl) ha (by omega) (lbC_le l t) (fun i h hi => lbC_lo i h hi) (fun i h hi => lbC_hi hok i h hi) (fun W2 _ k hk => c_cellFor1 l[k] t (hok.num k hk).1 (hok.num k hk).2.1 h2 h3 W2)
 obtain ⟨b, hb⟩ : ∃ b, hasC l t = b := ⟨_, rfl⟩
 obtain ⟨k, hk⟩ : ∃ k, lbC l t = k := ⟨_, rfl⟩
 rw [hb, hk] at hC ⊢
 have HC := Hd hC
 clear ha hok hC hb hk
 go_enter Tryz.func151, Tryz.ntmps151
 go_wp2_with fail
 refine HC.out.mono ?_
 rintro e w1 ⟨rfl, x1⟩
 go_wp2
 exact bodyPost_ret (results_tmp2 Tryz.results151 _ _ _) rfl ⟨rfl, x1⟩
set_option maxHeartbeats 1000000 in
theorem c_valueOf (A : Option Addr) (c : Nat) (l : List Cel) (t : Int) (w : World) (ha : Rd Cel.enc 2 w A c l) (hok : CsOk l) (h2 : 0 ≤ t) (h3 : t ≤ 1000000000) :
  Calls Tryz.prog 141 #[.slice A l.length c, .int .i64 t] w fun e w' => e = .returned (.int .i64 (valC l t)) ∧ Ext w w' := by
 have HC := Hd (c_cellFor A c l t w ha hok h2 h3)
 have hle := lbC_le l t
 have hl := hok.len
 obtain ⟨k, hk⟩ : ∃ k, lbC l t = k := ⟨_, rfl⟩
 obtain ⟨b, hb⟩ : ∃ b, hasC l t = b := ⟨_, rfl⟩
 have HA := Hd ha
 have HB := Hd hb
 have HKk := Hd hk
 have hC := HC.out
 rw [hk, hb] at hC
 rw [hk] at hle
 have HC' := Hd hC
 clear hk hb hC HC ha hok
 cases b
 ·have HV := Hd (show valC l t = -1 by
   have h1 := HB.out
   unfold hasC at h1
   unfold valC
   cases hx : l[lbC l t]? with
   | none => rfl
   | some x => rw [hx] at h1; simp only at h1 ⊢; rw [h1]; rfl)
  go_enter Tryz.func141, Tryz.ntmps141
  go_wp2_with fail
  refine HC'.out.mono ?_
  rintro e w1 ⟨rfl, x1⟩
  go_wp2
  go_ret
  exact ⟨ret_int HV.out.symm, x1⟩
 ·have hlt : k < l.length := by
   by_cases h : k < l.length
   ·exact h
   ·have h1 := HB.out
    unfold hasC at h1
    rw [HKk.out, List.getElem?_eq_none (by omega)] at h1
    cases h1
  have HV := Hd (show valC l t = l[k].value by
   have h1 := HB.out
   unfold hasC at h1
   unfold valC
   rw [HKk.out, List.getElem?_eq_getElem hlt] at *
   simp only at h1 ⊢
   rw [h1]; rfl)
  go_enter Tryz.func141, Tryz.ntmps141
  go_wp2_with fail
  refine HC'.out.mono ?_
  rintro e w1 ⟨rfl, x1⟩
  obtain ⟨ab, ao, rfl, hab, a0, a1⟩ := (HA.out.keep x1).atCel hlt
  go_wp2
  go_ret
  exact ⟨ret_int HV.out.symm, x1⟩
structure SsOk (l : List Sea) : Prop where
 len : l.length ≤ 10
 num : ∀ (i : Nat) (h : i < l.length), 0 ≤ l[i].client ∧ l[i].client ≤ 1000000000 ∧ 1 ≤ l[i].req ∧ l[i].req ≤ 1000000000 ∧ -1 ≤ l[i].answer ∧ l[i].answer ≤ 1000000000
 asc : ∀ (i j : Nat) (hi : i < l.length) (hj : j < l.length), i < j → l[i].client < l[j].client
theorem STo.ok {l : List Sea} (h : STo l l.length) (hl : l.length ≤ 10) : SsOk l := by
 have hs : ∀ (i : Nat) (h : i < l.length), (wh l[i].client && inB l[i].req 1 1000000000 && inB l[i].answer (-1) 1000000000 && sLow l i l[i].client) = true := fun i hi => by rw [← sStep_at hi]; exact h i hi
 refine ⟨hl, fun i hi => ?_, fun i j hi hj hij => ?_⟩
 ·have := hs i hi
  simp only [wh, inB, Bool.and_eq_true, decide_eq_true_eq] at this
  omega
 ·have hadj : ∀ (k : Nat) (hk : k + 1 < l.length), l[k].client < l[k + 1].client := fun k hk => by
   have h1 := hs (k + 1) hk
   rw [sLow_at (show k < l.length by omega)] at h1
   simp only [Bool.and_eq_true, Bool.not_eq_true', decide_eq_false_iff_not] at h1
   omega
  have hup : ∀ (d : Nat) (hd : i + 1 + d < l.length), l[i].client < l[i + 1 + d].client := fun d => by
   induction d with
   | zero => intro hd; exact hadj i hd
   | succ d ih =>
    intro hd
    have h1 := ih (by omega)
    have h2 := hadj (i + 1 + d) (by omega)
    simp only [Nat.add_assoc] at h1 h2 ⊢
    omega
  have := hup (j - (i + 1)) (by omega)
  simp only [show i + 1 + (j - (i + 1)) = j by omega] at this
  exact this
def lbS : List Sea → Int → Nat
 | [], _ => 0
 | x :: r, t => if x.client - t < 0 then lbS r t + 1 else 0
theorem lbS_le : ∀ (l : List Sea) (t : Int), lbS l t ≤ l.length
 | [], _ => Nat.le_refl _
 | x :: r, t => by
  have := lbS_le r t
  unfold lbS
  split <;> simp <;> omega
theorem lbS_lo : ∀ {l : List Sea} {t : Int} (i : Nat) (h : i < l.length), i < lbS l t → l[i].client - t < 0
 | [], _, i, h, _ => absurd h (by simp)
 | x :: r, t, i, h, hi => by
  unfold lbS at hi
  by_cases hx : x.client - t < 0
  ·rw [if_pos hx] at hi
   cases i with
   | zero => exact hx
   | succ i => exact lbS_lo (l := r) i (by simpa using h) (by omega)
  ·rw [if_neg hx] at hi
   omega
theorem lbS_at : ∀ {l : List Sea} {t : Int} (n : Nat) (_ : lbS l t = n) (h : n < l.length), ¬ l[n].client - t < 0
 | [], _, _, _, h => absurd h (by simp)
 | x :: r, t, n, hn, h => by
  unfold lbS at hn
  by_cases hx : x.client - t < 0
  ·rw [if_pos hx] at hn
   subst hn
   exact lbS_at (l := r) _ rfl (by simpa using h)
  ·rw [if_neg hx] at hn
   subst hn
   exact hx
theorem lbS_hi {l : List Sea} {t : Int} (ha : SsOk l) (i : Nat) (h : i < l.length) (hi : lbS l t ≤ i) : ¬ l[i].client - t < 0 := by
 have h0 : lbS l t < l.length := by omega
 have h1 := lbS_at (lbS l t) rfl h0
 by_cases he : lbS l t = i
 ·simp only [he] at h1; exact h1
 ·have := ha.asc (lbS l t) i h0 h (by omega)
  omega
def hasS (l : List Sea) (t : Int) : Bool := match l[lbS l t]? with | some x => x.client - t == 0 | none => false
set_option maxHeartbeats 1000000 in
theorem c_seatFor1 (x : Sea) (t : Int) (h0 : 0 ≤ x.client) (h1 : x.client ≤ 1000000000) (h2 : 0 ≤ t) (h3 : t ≤ 1000000000) (w : World) : Calls Tryz.prog 140 #[.agg #[.int .i64 x.client, .int .i64 x.req, .int .i64 x.answer], .int .i64 t] w fun e w' => e = .returned (.int .i64 (x.client - t)) ∧ Ext w w' := by
 go_enter Tryz.func140, Tryz.ntmps140
 go_wp2
 go_ret
 exact ⟨rfl, ext_alloc _ _⟩
set_option maxHeartbeats 1000000 in
theorem c_seatFor (cA : Option Addr) (cn cc : Nat) (A : Option Addr) (c : Nat) (l : List Sea) (t : Int) (w : World) (ha : Rd Sea.enc 3 w A c l) (hok : SsOk l) (h2 : 0 ≤ t) (h3 : t ≤ 1000000000) :
  Calls Tryz.prog 122 #[.agg #[.slice cA cn cc, .slice A l.length c], .int .i64 t] w fun e w' => e = .returned (.tuple #[.int .i64 (lbS l t), .bool (hasS l t)]) ∧ Ext w w' := by
 have hl := hok.len
 obtain ⟨w2, hw2⟩ : ∃ w2, w.alloc (.cells #[.slice cA cn cc, .slice A l.length c] 50) = w2 := ⟨_, rfl⟩
 have X0 : Ext w w2 := by rw [← hw2]; exact ext_alloc _ _
 have hC : Calls Tryz.prog 139 #[.slice A l.length c, .int .i64 t, .func (.func 140) #[] #[]] w2 fun e w' => e = .returned (.tuple #[.int .i64 (lbS l t), .bool (hasS l t)]) ∧ Ext w2 w' :=
  c_searchSea 140 #[] A c l t (lbS l t) w2 (enters Tryz.func140 (by kernel_rfl) rfl) (ha.keep X0) (by omega) (lbS_le l t) (fun i h hi => lbS_lo i h hi) (fun i h hi => lbS_hi hok i h hi) (fun W2 _ k hk => c_seatFor1 l[k] t (hok.num k hk).1 (hok.num k hk).2.1 h2 h3 W2)
 obtain ⟨b, hb⟩ : ∃ b, hasS l t = b := ⟨_, rfl⟩
 obtain ⟨k, hk⟩ : ∃ k, lbS l t = k := ⟨_, rfl⟩
 rw [hb, hk] at hC ⊢
 have HC := Hd hC
 have HX := Hd X0
 have HW := Hd hw2
 clear ha hok hC hb hk X0 hw2
 go_enter Tryz.func122, Tryz.ntmps122
 go_wp2_with fail
 rw [HW.out]
 refine HC.out.mono ?_
 rintro e w1 ⟨rfl, x1⟩
 go_wp2
 exact bodyPost_ret (results_tmp2 Tryz.results122 _ _ _) rfl ⟨rfl, Ext.trans HX.out x1⟩
end Go.Proofs.YtmphedkbdlckhaaGreat
