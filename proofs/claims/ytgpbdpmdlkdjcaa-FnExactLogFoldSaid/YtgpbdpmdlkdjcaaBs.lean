/- Search in rows of cells and seats. -/
import Derived.Test.YtgpbdpmdlkdjcaaCl
namespace Go.Proofs.Ytgpbdpmdlkdjcaa
open Go.ChangeShapes Go.WideShapes Go.ChangeAt Go.RowKit Go.Sort
set_option linter.unusedVariables false
set_option linter.unusedSimpArgs false

set_option maxRecDepth 100000 in
set_option maxHeartbeats 4000000 in
theorem c_searchCel (g : Nat) (lb : Array Value) (A : Option Addr) (c : Nat) (l : List Cel) (t : Int) (n0 : Nat) (w : World) (eg : ∀ args w, (callFunc g args).run Try.prog w = .ok (.enter g args) w) (ha : Rd Cel.enc 2 w A c l) (hn : l.length ≤ 1048576) (h0 : n0 ≤ l.length)
    (hlo : ∀ i (h : i < l.length), i < n0 → l[i].key - t < 0) (hhi : ∀ i (h : i < l.length), n0 ≤ i → ¬ l[i].key - t < 0)
    (hp : ∀ W, Ext w W → ∀ k (hk : k < l.length), Calls Try.prog g (#[.agg #[.int .i64 l[k].key, .int .i64 l[k].value], .int .i64 t] ++ lb) W fun e w' => e = .returned (.int .i64 (l[k].key - t)) ∧ Ext W w') :
    Calls Try.prog 151 #[.slice A l.length c, .int .i64 t, .func (.func g) #[] lb] w fun e w' => e = .returned (.tuple #[.int .i64 n0, .bool (match l[n0]? with | some x => x.key - t == 0 | none => false)]) ∧ Ext w w' := by
  obtain ⟨V, hV⟩ : ∃ V, (match l[n0]? with | some x => x.key - t == 0 | none => false) = V := ⟨_, rfl⟩
  rw [hV]
  have HV := Lib.hid hV
  clear hV
  have HP := Lib.hid hp
  have HLo := Lib.hid hlo
  have HHi := Lib.hid hhi
  clear hp hlo hhi
  go_enter Try.func151, Try.ntmps151
  go_wp2
  go_loopw [9, 10] (fun i j wr => ∃ lo hi : Nat, lo ≤ n0 ∧ n0 ≤ hi ∧ hi ≤ l.length ∧ i = .int .i64 lo ∧ j = .int .i64 hi ∧ Ext w wr) (fun i j _ => (intOf j).toNat - (intOf i).toNat)
  case atStart => exact ⟨0, l.length, Nat.zero_le _, h0, Nat.le_refl _, rfl, rfl, ext_refl _⟩
  case round =>
    obtain ⟨lo, hi, h1, h2, h3, rfl, rfl, X⟩ := hrel
    by_cases hlt : lo < hi
    · obtain ⟨h, hh, hl, hu⟩ : ∃ h : Nat, ((lo : Int) + (hi : Int)) / 2 = (h : Int) ∧ lo ≤ h ∧ h < hi := ⟨(lo + hi) / 2, by omega, by omega, by omega⟩
      have hhl : h < l.length := by omega
      have hcall := HP.out wr X h hhl
      obtain ⟨ab, ao, rfl, hab, a0, a1⟩ := (ha.keep X).atCel hhl
      by_cases hcmp : l[h].key - t < 0
      · have hge : h < n0 := by
          by_cases hc : h < n0
          · exact hc
          · have := HHi.out h hhl (by omega); omega
        have hcmp' : decide (l[h].key - t < 0) = true := by simpa using hcmp
        have HQ := Lib.hid hcall
        clear hcall HP HLo HHi hcmp
        go_wp2_with fail
        refine HQ.out.mono ?_
        rintro e w1 ⟨rfl, hx⟩
        clear HQ
        go_wp2
        go_roundw
        case rel => exact ⟨h + 1, hi, by omega, h2, h3, by go_num, rfl, Ext.trans X hx⟩
        case measure => simp [intOf] <;> omega
      · have hge : n0 ≤ h := by
          by_cases hc : n0 ≤ h
          · exact hc
          · have := HLo.out h hhl (by omega); omega
        have hcmp' : decide (l[h].key - t < 0) = false := by simpa using hcmp
        have HQ := Lib.hid hcall
        clear hcall HP HLo HHi hcmp
        go_wp2_with fail
        refine HQ.out.mono ?_
        rintro e w1 ⟨rfl, hx⟩
        clear HQ
        go_wp2
        go_roundw
        case rel => exact ⟨lo, h, h1, hge, by omega, rfl, rfl, Ext.trans X hx⟩
        case measure => simp [intOf] <;> omega
    · obtain rfl : lo = n0 := by omega
      obtain rfl : hi = lo := by omega
      by_cases hlt2 : hi < l.length
      · have hv := Lib.hid (show (l[hi].key - t == 0) = V by rw [← HV.out, List.getElem?_eq_getElem hlt2])
        have hcall := HP.out wr X hi hlt2
        obtain ⟨ab, ao, rfl, hab, a0, a1⟩ := (ha.keep X).atCel hlt2
        have HQ := Lib.hid hcall
        clear hcall HP HLo HHi
        go_wp2_with fail
        refine HQ.out.mono ?_
        rintro e w1 ⟨rfl, hx⟩
        clear HQ
        go_wp2
        refine bodyPost_ret (results_tmp2 Try.results151 _ _ _) rfl ⟨?_, Ext.trans X hx⟩
        rw [← hv.out]
        rfl
      · have hv := Lib.hid (show false = V by rw [← HV.out, List.getElem?_eq_none (by omega)])
        clear HP HLo HHi
        go_wp2
        refine bodyPost_ret (results_tmp2 Try.results151 _ _ _) rfl ⟨?_, X⟩
        rw [← hv.out]
        rfl

set_option maxRecDepth 100000 in
set_option maxHeartbeats 4000000 in
theorem c_searchSea (g : Nat) (lb : Array Value) (A : Option Addr) (c : Nat) (l : List Sea) (t : Int) (n0 : Nat) (w : World) (eg : ∀ args w, (callFunc g args).run Try.prog w = .ok (.enter g args) w) (ha : Rd Sea.enc 3 w A c l) (hn : l.length ≤ 1048576) (h0 : n0 ≤ l.length)
    (hlo : ∀ i (h : i < l.length), i < n0 → l[i].client - t < 0) (hhi : ∀ i (h : i < l.length), n0 ≤ i → ¬ l[i].client - t < 0)
    (hp : ∀ W, Ext w W → ∀ k (hk : k < l.length), Calls Try.prog g (#[.agg #[.int .i64 l[k].client, .int .i64 l[k].req, .int .i64 l[k].answer], .int .i64 t] ++ lb) W fun e w' => e = .returned (.int .i64 (l[k].client - t)) ∧ Ext W w') :
    Calls Try.prog 141 #[.slice A l.length c, .int .i64 t, .func (.func g) #[] lb] w fun e w' => e = .returned (.tuple #[.int .i64 n0, .bool (match l[n0]? with | some x => x.client - t == 0 | none => false)]) ∧ Ext w w' := by
  obtain ⟨V, hV⟩ : ∃ V, (match l[n0]? with | some x => x.client - t == 0 | none => false) = V := ⟨_, rfl⟩
  rw [hV]
  have HV := Lib.hid hV
  clear hV
  have HP := Lib.hid hp
  have HLo := Lib.hid hlo
  have HHi := Lib.hid hhi
  clear hp hlo hhi
  go_enter Try.func141, Try.ntmps141
  go_wp2
  go_loopw [9, 10] (fun i j wr => ∃ lo hi : Nat, lo ≤ n0 ∧ n0 ≤ hi ∧ hi ≤ l.length ∧ i = .int .i64 lo ∧ j = .int .i64 hi ∧ Ext w wr) (fun i j _ => (intOf j).toNat - (intOf i).toNat)
  case atStart => exact ⟨0, l.length, Nat.zero_le _, h0, Nat.le_refl _, rfl, rfl, ext_refl _⟩
  case round =>
    obtain ⟨lo, hi, h1, h2, h3, rfl, rfl, X⟩ := hrel
    by_cases hlt : lo < hi
    · obtain ⟨h, hh, hl, hu⟩ : ∃ h : Nat, ((lo : Int) + (hi : Int)) / 2 = (h : Int) ∧ lo ≤ h ∧ h < hi := ⟨(lo + hi) / 2, by omega, by omega, by omega⟩
      have hhl : h < l.length := by omega
      have hcall := HP.out wr X h hhl
      obtain ⟨ab, ao, rfl, hab, a0, a1, a2⟩ := (ha.keep X).atSea hhl
      by_cases hcmp : l[h].client - t < 0
      · have hge : h < n0 := by
          by_cases hc : h < n0
          · exact hc
          · have := HHi.out h hhl (by omega); omega
        have hcmp' : decide (l[h].client - t < 0) = true := by simpa using hcmp
        have HQ := Lib.hid hcall
        clear hcall HP HLo HHi hcmp
        go_wp2_with fail
        refine HQ.out.mono ?_
        rintro e w1 ⟨rfl, hx⟩
        clear HQ
        go_wp2
        go_roundw
        case rel => exact ⟨h + 1, hi, by omega, h2, h3, by go_num, rfl, Ext.trans X hx⟩
        case measure => simp [intOf] <;> omega
      · have hge : n0 ≤ h := by
          by_cases hc : n0 ≤ h
          · exact hc
          · have := HLo.out h hhl (by omega); omega
        have hcmp' : decide (l[h].client - t < 0) = false := by simpa using hcmp
        have HQ := Lib.hid hcall
        clear hcall HP HLo HHi hcmp
        go_wp2_with fail
        refine HQ.out.mono ?_
        rintro e w1 ⟨rfl, hx⟩
        clear HQ
        go_wp2
        go_roundw
        case rel => exact ⟨lo, h, h1, hge, by omega, rfl, rfl, Ext.trans X hx⟩
        case measure => simp [intOf] <;> omega
    · obtain rfl : lo = n0 := by omega
      obtain rfl : hi = lo := by omega
      by_cases hlt2 : hi < l.length
      · have hv := Lib.hid (show (l[hi].client - t == 0) = V by rw [← HV.out, List.getElem?_eq_getElem hlt2])
        have hcall := HP.out wr X hi hlt2
        obtain ⟨ab, ao, rfl, hab, a0, a1, a2⟩ := (ha.keep X).atSea hlt2
        have HQ := Lib.hid hcall
        clear hcall HP HLo HHi
        go_wp2_with fail
        refine HQ.out.mono ?_
        rintro e w1 ⟨rfl, hx⟩
        clear HQ
        go_wp2
        refine bodyPost_ret (results_tmp2 Try.results141 _ _ _) rfl ⟨?_, Ext.trans X hx⟩
        rw [← hv.out]
        rfl
      · have hv := Lib.hid (show false = V by rw [← HV.out, List.getElem?_eq_none (by omega)])
        clear HP HLo HHi
        go_wp2
        refine bodyPost_ret (results_tmp2 Try.results141 _ _ _) rfl ⟨?_, X⟩
        rw [← hv.out]
        rfl
end Go.Proofs.Ytgpbdpmdlkdjcaa
