/- PartAt of the reference and of the program. -/
import Derived.Test.YtgebfcmkcggdmaaPts
import Derived.Test.YtgebfcmkcggdmaaGa
import Derived.Test.YtgebfcmkcggdmaaGd
namespace Go.Proofs.Ytgebfcmkcggdmaa
open Go.ChangeShapes Go.WideShapes Go.ChangeAt Go.RowKit Go.Sort
set_option linter.unusedVariables false
set_option linter.unusedSimpArgs false

abbrev hasKey (key : Int) (p : Prt) : Bool := inB key p.lo (p.hi - 1)
theorem hasKey_yes {key : Int} {p : Prt} (h1 : p.lo ≤ key) (h2 : key < p.hi) : hasKey key p = true := by rw [inB_iff]; omega
theorem hasKey_no {key : Int} {p : Prt} (h : ¬ (p.lo ≤ key ∧ key < p.hi)) : hasKey key p = false := by rw [inB_false]; omega
def partAtV (l : List Prt) (key : Int) : Int := if partsOk l = true then idxOf (hasKey key) l else -1

set_option maxHeartbeats 2000000 in
theorem c_sPartAt (A : Option Addr) (c : Nat) (l : List Prt) (key : Int) (w : World) (ha : Rd Prt.enc 3 w A c l) (hn : l.length ≤ 1099511627776) :
    Calls Try.prog 14 #[.slice A l.length c, .int .i64 key] w fun e w' => e = .returned (.int .i64 (partAtV l key)) ∧ Ext w w' := by
  go_enter Try.func14, Try.ntmps14
  go_wp2
  go_loopw [5] (fun i wr => ∃ k : Nat, k ≤ l.length ∧ i = .int .i64 k ∧ (∀ j (hj : j < l.length), j < k → hasKey key l[j] = false) ∧ Ext w wr) (fun i _ => l.length - (intOf i).toNat)
  case atStart => exact ⟨0, Nat.zero_le _, rfl, fun j hj h => absurd h (by omega), ext_refl _⟩
  case round =>
    obtain ⟨k, hk, rfl, ht, hx0⟩ := hrel
    have HT := Lib.hid ht
    clear ht
    by_cases hlt : k < l.length
    · have hcon := c_sPartsOk A c l wr (ha.keep hx0) hn
      cases hpk : partsOk l
      · rw [hpk] at hcon
        have HV := Lib.hid (show partAtV l key = -1 by unfold partAtV; rw [hpk]; rfl)
        go_wp2_with (go_at_call 10; refine hcon.mono ?_; rintro e w1 ⟨rfl, hx⟩)
        go_ret
        exact ⟨ret_int HV.out.symm, Ext.trans hx0 hx⟩
      · rw [hpk] at hcon
        have HV := Lib.hid (show partAtV l key = idxOf (hasKey key) l by unfold partAtV; rw [hpk]; rfl)
        obtain ⟨ab, ao, rfl, hab, a0, a1, a2⟩ := (ha.keep hx0).atPrt hlt
        go_wp2_with (go_at_call 10; refine hcon.mono ?_; rintro e w1 ⟨rfl, hx⟩; obtain ⟨hc1, hf1, hs1⟩ := hx.rules)
        all_goals first
          | (go_ret
             exact ⟨ret_int (by rw [HV.out]; exact (idx_hit hlt (hasKey_yes (by assumption) (by assumption)) HT.out).symm), by (repeat (first | with_reducible exact ext_refl _ | with_reducible refine ext_to ?_ _ | with_reducible refine ext_set ?_ (by first | (simp; done) | (simp; omega) | omega) _ | with_reducible refine ext_drew ?_ | with_reducible refine Ext.trans ?_ (by assumption)))⟩)
          | go_roundw
        all_goals first
          | exact ⟨k + 1, by omega, by go_num, no_next HT.out (fun _ => hasKey_no (by omega)), by (repeat (first | with_reducible exact ext_refl _ | with_reducible refine ext_to ?_ _ | with_reducible refine ext_set ?_ (by first | (simp; done) | (simp; omega) | omega) _ | with_reducible refine ext_drew ?_ | with_reducible refine Ext.trans ?_ (by assumption)))⟩
          | (simp [intOf] <;> omega)
    · have HV := Lib.hid (show partAtV l key = -1 by unfold partAtV; split; exact idx_miss (fun j hj => HT.out j hj (by omega)); rfl)
      go_wp2
      go_ret
      exact ⟨ret_int HV.out.symm, hx0⟩

set_option maxHeartbeats 2000000 in
theorem c_idxPrt (g : Nat) (lb : Array Value) (p : Prt → Bool) (eg : ∀ args w, (callFunc g args).run Try.prog w = .ok (.enter g args) w) (A : Option Addr) (c : Nat) (l : List Prt) (w : World) (ha : Rd Prt.enc 3 w A c l) (hn : l.length ≤ 1099511627776)
    (hp : ∀ W, Ext w W → ∀ k (hk : k < l.length), Calls Try.prog g (#[.agg #[.int .i64 l[k].lo, .int .i64 l[k].hi, .int .i64 l[k].owner]] ++ lb) W fun e w' => e = .returned (.bool (p l[k])) ∧ Ext W w') :
    Calls Try.prog 33 #[.slice A l.length c, .func (.func g) #[] lb] w fun e w' => e = .returned (.int .i64 (idxOf p l)) ∧ Ext w w' := by
  have HP := Lib.hid hp
  clear hp
  go_enter Try.func33, Try.ntmps33
  go_wp2
  go_loopw [8] (fun i wr => ∃ k : Nat, k ≤ l.length ∧ i = .int .i64 k ∧ (∀ j (hj : j < l.length), j < k → p l[j] = false) ∧ Ext w wr) (fun i _ => l.length - (intOf i).toNat)
  case atStart => exact ⟨0, Nat.zero_le _, rfl, fun j hj h => absurd h (by omega), ext_refl _⟩
  case round =>
    obtain ⟨k, hk, rfl, ht, hx0⟩ := hrel
    have HT := Lib.hid ht
    clear ht
    by_cases hlt : k < l.length
    · have hcall := HP.out wr hx0 k hlt
      obtain ⟨ab, ao, rfl, hab, a0, a1, a2⟩ := (ha.keep hx0).atPrt hlt
      cases hq : p l[k]
      · rw [hq] at hcall
        have HQ := Lib.hid hq
        clear hq HP
        go_wp2_with fail
        refine hcall.mono ?_
        rintro e w1 ⟨rfl, hx⟩
        clear hcall
        go_wp2
        go_roundw
        case rel => exact ⟨k + 1, by omega, by go_num, no_next HT.out (fun _ => HQ.out), Ext.trans hx0 hx⟩
        case measure => simp [intOf] <;> omega
      · rw [hq] at hcall
        have HQ := Lib.hid hq
        clear hq HP
        go_wp2_with fail
        refine hcall.mono ?_
        rintro e w1 ⟨rfl, hx⟩
        clear hcall
        go_wp2
        go_ret
        exact ⟨ret_int (idx_hit hlt HQ.out HT.out).symm, Ext.trans hx0 hx⟩
    · have HV := Lib.hid (idx_miss (p := p) (l := l) (fun j hj => HT.out j hj (by omega)))
      go_wp2
      go_ret
      exact ⟨ret_int HV.out.symm, hx0⟩

/-- the closure: is the key in this part -/
theorem c_partAt1 (key : Int) (B : Nat) (lo hi ow : Int) (w : World) (hB : B < w.heap.size) (hc : w.cell? ⟨B, 0, none⟩ = some (.int .i64 key)) (h1 : 0 ≤ hi) (h2 : hi ≤ 1000) :
    Calls Try.prog 34 #[.agg #[.int .i64 lo, .int .i64 hi, .int .i64 ow], .pointer (some ⟨B, 0, none⟩)] w fun e w' => e = .returned (.bool (inB key lo (hi - 1))) ∧ Ext w w' := by
  have hne : ¬ B = w.heap.size := by omega
  go_enter Try.func34, Try.ntmps34
  go_wp2_with (go_at_call 23; refine (c_from _ _ _ _).mono ?_; rintro e w1 ⟨rfl, hx⟩; obtain ⟨hc1, hf1, hs1⟩ := hx.rules; (try simp at hs1))
  go_ret
  exact ⟨rfl, by (repeat (first | with_reducible exact ext_refl _ | with_reducible refine ext_to ?_ _ | with_reducible refine ext_set ?_ (by first | (simp; done) | (simp; omega) | omega) _ | with_reducible refine ext_drew ?_ | with_reducible refine Ext.trans ?_ (by assumption)))⟩

set_option maxHeartbeats 2000000 in
theorem c_partAt (A : Option Addr) (c : Nat) (l : List Prt) (key : Int) (w : World) (ha : Rd Prt.enc 3 w A c l) (hn : l.length ≤ 1099511627776) (hpk : partsOk l = true) :
    Calls Try.prog 24 #[.slice A l.length c, .int .i64 key] w fun e w' => e = .returned (.int .i64 (idxOf (hasKey key) l)) ∧ Ext w w' := by
  have hpa := Lib.hid (of_decide_eq_true (p := PartsOk l) hpk)
  clear hpk
  have hcon := c_idxPrt 34 #[.pointer (some ⟨w.heap.size, 0, none⟩)] (hasKey key) (enters Try.func34 (by kernel_rfl) rfl) A c l (w.alloc (.cells #[.int .i64 key] 3)) (ha.keep (ext_alloc _ _)) hn
    (fun W hW k hk => c_partAt1 key w.heap.size _ _ _ W (bx_lt (hW.box (hNew rfl))) (hW.cell (hNew rfl) 0) (by have := hpa.out.at hk; omega) (by have := hpa.out.at hk; omega))
  go_enter Try.func24, Try.ntmps24
  go_wp2_with (go_at_call 33; refine hcon.mono ?_; rintro e w1 ⟨rfl, hx⟩)
  go_ret
  exact ⟨rfl, Ext.trans (ext_alloc _ _) hx⟩

theorem c_iPartAt (A : Option Addr) (c : Nat) (l : List Prt) (key : Int) (w : World) (ha : Rd Prt.enc 3 w A c l) (hn : l.length ≤ 1099511627776) :
    Calls Try.prog 12 #[.slice A l.length c, .int .i64 key] w fun e w' => e = .returned (.int .i64 (partAtV l key)) ∧ Ext w w' := by
  have hcon := c_iPartsOk A c l w ha hn
  cases hpk : partsOk l
  · rw [hpk] at hcon
    have HV := Lib.hid (show partAtV l key = -1 by unfold partAtV; rw [hpk]; rfl)
    clear hpk
    go_enter Try.func12, Try.ntmps12
    go_wp2_with (go_at_call 11; refine hcon.mono ?_; rintro e w1 ⟨rfl, hx⟩)
    go_ret
    exact ⟨ret_int HV.out.symm, hx⟩
  · rw [hpk] at hcon
    have HV := Lib.hid (show partAtV l key = idxOf (hasKey key) l by unfold partAtV; rw [hpk]; rfl)
    go_enter Try.func12, Try.ntmps12
    go_wp2_with fail
    refine hcon.mono ?_
    rintro e w1 ⟨rfl, x1⟩
    go_wp2_with fail
    refine (c_partAt A c l key w1 (ha.keep x1) hn hpk).mono ?_
    rintro e w2 ⟨rfl, x2⟩
    go_wp2
    go_ret
    exact ⟨ret_int HV.out.symm, Ext.trans x1 x2⟩
end Go.Proofs.Ytgebfcmkcggdmaa
