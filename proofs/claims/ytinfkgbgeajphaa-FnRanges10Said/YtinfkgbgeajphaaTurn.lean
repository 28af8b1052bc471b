/- Ranges with a range in them, or out: of the program. -/
import Derived.Test.YtinfkgbgeajphaaRno
import Derived.Test.YtinfkgbgeajphaaIdx
import Derived.Test.YtinfkgbgeajphaaInb
import Derived.WalkLawsBesides
namespace Go.Proofs.Ytinfkgbgeajphaa
open Go.ChangeShapes Go.WideShapes Go.ChangeAt Go.RowKit Go.Sort
set_option linter.unusedVariables false
set_option linter.unusedSimpArgs false
set_option maxHeartbeats 2000000 in
theorem c_idxRng (g : Nat) (lb : Array Value) (p : Rng → Bool) (eg : ∀ args w, (callFunc g args).run Try.prog w = .ok (.enter g args) w) (A : Option Addr) (c : Nat) (l : List Rng) (w : World) (ha : Rd Rng.enc 2 w A c l) (hn : l.length ≤ 1099511627776)
    (hp : ∀ W, Ext w W → ∀ k (hk : k < l.length), Calls Try.prog g (#[.agg #[.int .i64 l[k].lo, .int .i64 l[k].hi]] ++ lb) W fun e w' => e = .returned (.bool (p l[k])) ∧ Ext W w') :
    Calls Try.prog 113 #[.slice A l.length c, .func (.func g) #[] lb] w fun e w' => e = .returned (.int .i64 (idxOf p l)) ∧ Ext w w' := by
  have HP := Lib.hid hp
  clear hp
  go_enter Try.func113, Try.ntmps113
  go_wp2
  go_loopw [8] (fun i wr => ∃ k : Nat, k ≤ l.length ∧ i = .int .i64 k ∧ (∀ j (hj : j < l.length), j < k → p l[j] = false) ∧ Ext w wr) (fun i _ => l.length - (intOf i).toNat)
  case atStart => exact ⟨0, Nat.zero_le _, rfl, fun j hj h => absurd h (by omega), ext_refl _⟩
  case round =>
    obtain ⟨k, hk, rfl, ht, hx0⟩ := hrel
    have HT := Lib.hid ht
    clear ht
    by_cases hlt : k < l.length
    · have hcall := HP.out wr hx0 k hlt
      obtain ⟨ab, ao, rfl, hab, a0, a1⟩ := (ha.keep hx0).atRng hlt
      cases hq : p l[k]
      · rw [hq] at hcall
        have HQ := Lib.hid hq
        clear hq HP
        go_wp2_with fail
        refine hcall.mono ?_
        rintro e w1 ⟨rfl, hx⟩
        clear hcall
        go_wp2
        go_roundw
        case rel => exact ⟨k + 1, by omega, by go_num, no_next HT.out (fun _ => HQ.out), Ext.trans hx0 hx⟩
        case measure => simp [intOf] <;> omega
      · rw [hq] at hcall
        have HQ := Lib.hid hq
        clear hq HP
        go_wp2_with fail
        refine hcall.mono ?_
        rintro e w1 ⟨rfl, hx⟩
        clear hcall
        go_wp2
        go_ret
        exact ⟨ret_int (idx_hit hlt HQ.out HT.out).symm, Ext.trans hx0 hx⟩
    · have HV := Lib.hid (idx_miss (p := p) (l := l) (fun j hj => HT.out j hj (by omega)))
      go_wp2
      go_ret
      exact ⟨ret_int HV.out.symm, hx0⟩

theorem c_anyRng (g : Nat) (lb : Array Value) (p : Rng → Bool) (eg : ∀ args w, (callFunc g args).run Try.prog w = .ok (.enter g args) w) (A : Option Addr) (c : Nat) (l : List Rng) (w : World) (ha : Rd Rng.enc 2 w A c l) (hn : l.length ≤ 1099511627776)
    (hp : ∀ W, Ext w W → ∀ k (hk : k < l.length), Calls Try.prog g (#[.agg #[.int .i64 l[k].lo, .int .i64 l[k].hi]] ++ lb) W fun e w' => e = .returned (.bool (p l[k])) ∧ Ext W w') :
    Calls Try.prog 102 #[.slice A l.length c, .func (.func g) #[] lb] w fun e w' => e = .returned (.bool (l.any p)) ∧ Ext w w' := by
  have hcon := c_idxRng g lb p eg A c l w ha hn hp
  rw [← idxOf_any]
  obtain ⟨z, hz⟩ : ∃ z, idxOf p l = z := ⟨_, rfl⟩
  rw [hz] at hcon ⊢
  clear hz hp
  go_enter Try.func102, Try.ntmps102
  go_wp2_with fail
  refine hcon.mono ?_
  rintro e w1 ⟨rfl, x1⟩
  go_wp2
  go_ret
  exact ⟨rfl, x1⟩

theorem inB_yes (x a b : Int) : inB x a b = true ↔ a ≤ x ∧ x ≤ b := by simp [inB]
theorem inB_no (x a b : Int) : inB x a b = false ↔ ¬ (a ≤ x ∧ x ≤ b) := by rw [← inB_yes]; simp
def rhas (x : Int) (r : Rng) : Bool := inB x r.lo (r.hi - 1)
def isIn (l : List Rng) (a : Rng) (b : Bool) (k : Nat) : Bool := if rhas k a = true then b else l.any (rhas k)
def turnB (l : List Rng) (a : Rng) (b : Bool) : Bool := rangesOk l && a.ok && decide ((runsTo (isIn l a b) 1000).length ≤ 16)
def turnV (l : List Rng) (a : Rng) (b : Bool) : List Rng := if turnB l a b = true then runsTo (isIn l a b) 1000 else []

theorem c_has (lo hi x : Int) (w : World) (h0 : 0 ≤ hi) (h1 : hi ≤ 1000) : Calls Try.prog 101 #[.agg #[.int .i64 lo, .int .i64 hi], .int .i64 x] w fun e w' => e = .returned (.bool (rhas x ⟨lo, hi⟩)) ∧ Ext w w' := by
  go_enter Try.func101, Try.ntmps101
  go_wp2_with fail
  refine (c_from _ _ _ _).mono ?_
  rintro e w1 ⟨rfl, x1⟩
  go_wp2
  go_ret
  exact ⟨rfl, Ext.trans (ext_alloc _ _) x1⟩
theorem c_changed11 (x : Int) (B : Nat) (lo hi : Int) (w : World) (hB : w.heap[B]? = some (.cells #[.int .i64 x] 3 (0, 0))) (h0 : 0 ≤ hi) (h1 : hi ≤ 1000) :
    Calls Try.prog 103 #[.agg #[.int .i64 lo, .int .i64 hi], .pointer (some ⟨B, 0, none⟩)] w fun e w' => e = .returned (.bool (rhas x ⟨lo, hi⟩)) ∧ Ext w w' := by
  have hl := bx_lt hB
  have hne : ¬ B = w.heap.size := by omega
  have hc := bx_cell hB
  go_enter Try.func103, Try.ntmps103
  go_wp2_with fail
  refine (c_has _ _ _ _ h0 h1).mono ?_
  rintro e w1 ⟨rfl, x1⟩
  go_wp2
  go_ret
  exact ⟨rfl, Ext.trans (ext_alloc _ _) x1⟩
theorem rangesOk_at {l : List Rng} (h : rangesOk l = true) {k : Nat} (hk : k < l.length) : 0 ≤ l[k].lo ∧ l[k].lo < l[k].hi ∧ l[k].hi ≤ 1000 := by
  unfold rangesOk okTo at h
  simp only [Bool.and_eq_true, List.all_eq_true, List.mem_range] at h
  have h1 := h.2 k hk
  unfold stepOk at h1
  simp only [Bool.and_eq_true] at h1
  have h2 := h1.1
  simp only [List.getD_eq_getElem?_getD, hk, List.getElem?_eq_getElem, Option.getD_some] at h2
  unfold Rng.ok at h2
  simp only [Bool.and_eq_true, decide_eq_true_eq] at h2
  omega
theorem rangesOk_le {l : List Rng} (h : rangesOk l = true) : l.length ≤ 16 := by
  unfold rangesOk at h
  simp only [Bool.and_eq_true, decide_eq_true_eq] at h
  exact h.1
theorem Rng.ok_at {a : Rng} (h : a.ok = true) : 0 ≤ a.lo ∧ a.lo < a.hi ∧ a.hi ≤ 1000 := by
  unfold Rng.ok at h
  simp only [Bool.and_eq_true, decide_eq_true_eq] at h
  omega

theorem c_changed1 (k : Nat) (Ba Bw Bl : Nat) (lo hi : Int) (b : Bool) (A : Option Addr) (c : Nat) (l : List Rng) (w : World) (hBa : w.heap[Ba]? = some (.cells #[.int .i64 lo, .int .i64 hi] 25 (0, 0)))
    (hBw : w.heap[Bw]? = some (.cells #[.bool b] 4 (0, 0))) (hBl : w.heap[Bl]? = some (.cells #[.slice A l.length c] 35 (0, 0))) (ha : Rd Rng.enc 2 w A c l) (h0 : 0 ≤ hi) (h1 : hi ≤ 1000) (hr : rangesOk l = true) :
    Calls Try.prog 100 #[.int .i64 k, .pointer (some ⟨Ba, 0, none⟩), .pointer (some ⟨Bw, 0, none⟩), .pointer (some ⟨Bl, 0, none⟩)] w fun e w' => e = .returned (.bool (isIn l ⟨lo, hi⟩ b k)) ∧ Ext w w' := by
  have ha1 := bx_lt hBa
  have hb1 := bx_lt hBw
  have hl1 := bx_lt hBl
  have na : ¬ Ba = w.heap.size := by omega
  have nb : ¬ Bw = w.heap.size := by omega
  have nl : ¬ Bl = w.heap.size := by omega
  have ca := bx_cell hBa
  have hlen := rangesOk_le hr
  have HR := Lib.hid hr
  clear hr
  go_enter Try.func100, Try.ntmps100
  go_wp2_with fail
  refine (c_has _ _ _ _ h0 h1).mono ?_
  rintro e w1 ⟨rfl, x1⟩
  have X1 := Ext.trans (ext_alloc _ _) x1
  have cb := bx_cell (X1.box hBw)
  have cl := bx_cell (X1.box hBl)
  have B4 := x1.box (hNew (w := w) rfl)
  cases hq : rhas k ⟨lo, hi⟩
  · have HV := Lib.hid (show isIn l ⟨lo, hi⟩ b k = l.any (rhas k) by unfold isIn; rw [hq]; simp)
    clear hq
    go_wp2_with fail
    refine (c_anyRng 103 #[.pointer (some ⟨w.heap.size, 0, none⟩)] (rhas k) (enters Try.func103 (by kernel_rfl) rfl) A c l w1 (ha.keep X1) (by omega) (fun W hW j hj => ?_)).mono ?_
    · have := rangesOk_at HR.out hj
      exact c_changed11 k w.heap.size _ _ W (hW.box B4) (by omega) (by omega)
    rintro e w2 ⟨rfl, x2⟩
    go_wp2
    go_ret
    exact ⟨ret_bool HV.out.symm, Ext.trans X1 x2⟩
  · have HV := Lib.hid (show isIn l ⟨lo, hi⟩ b k = b by unfold isIn; rw [hq]; simp)
    clear hq
    go_wp2
    go_ret
    exact ⟨ret_bool HV.out.symm, X1⟩

set_option maxHeartbeats 1000000 in
set_option maxRecDepth 100000 in
theorem c_changed (A : Option Addr) (c : Nat) (l : List Rng) (lo hi : Int) (b : Bool) (w : World) (ha : Rd Rng.enc 2 w A c l) (hn : l.length ≤ 1099511627776) :
    Calls Try.prog 89 #[.slice A l.length c, .agg #[.int .i64 lo, .int .i64 hi], .bool b] w fun e w' => ∃ v, e = .returned (.tuple #[v, .bool (turnB l ⟨lo, hi⟩ b)]) ∧ Ow Rng.enc 25 2 w' w.heap.size v (turnV l ⟨lo, hi⟩ b) ∧ Ext w w' := by
  have no : turnB l ⟨lo, hi⟩ b = false → false = turnB l ⟨lo, hi⟩ b ∧ turnV l ⟨lo, hi⟩ b = [] := fun h => ⟨h.symm, by unfold turnV; rw [h]; simp⟩
  have NO := Lib.hid no
  clear no
  go_enter Try.func89, Try.ntmps89
  go_wp2_with fail
  refine (c_iRangesOk A c l _ (ha.keep (ext_to (ext_to (ext_alloc _ _) _) _)) hn).mono ?_
  rintro e w1 ⟨rfl, x1⟩
  have X1 : Ext w w1 := Ext.trans (ext_to (ext_to (ext_alloc _ _) _) _) x1
  have B0 := x1.box (hOld (hOld (hNew (w := w) (o := .cells #[.slice A l.length c] 35) rfl)))
  have B1 := x1.box (hOld (hNew (w := w.alloc (.cells #[.slice A l.length c] 35)) (o := .cells #[.int .i64 lo, .int .i64 hi] 25) rfl))
  have B2 := x1.box (hNew (w := (w.alloc (.cells #[.slice A l.length c] 35)).alloc (.cells #[.int .i64 lo, .int .i64 hi] 25)) (o := .cells #[.bool b] 4) rfl)
  rw [sz_alloc] at B1
  rw [sz_alloc, sz_alloc] at B2
  cases h1 : rangesOk l
  · have HV := Lib.hid (NO.out (by simp [turnB, h1]))
    clear h1
    go_wp2
    go_ret2
    exact ⟨_, ret_vb HV.out.1, by rw [HV.out.2]; exact World.ownsRow_nil _ _ _ _, X1⟩
  have c1 := bx_cell B1
  have H1 := Lib.hid h1
  clear h1
  go_wp2_with fail
  refine (c_iRangeOk lo hi _).mono ?_
  rintro e w2 ⟨rfl, x2⟩
  clear c1
  have X2 := Ext.trans X1 x2
  cases h2 : Rng.ok ⟨lo, hi⟩
  · have HV := Lib.hid (NO.out (by simp [turnB, h2]))
    clear h2
    go_wp2
    go_ret2
    exact ⟨_, ret_vb HV.out.1, by rw [HV.out.2]; exact World.ownsRow_nil _ _ _ _, X2⟩
  have h3 := Rng.ok_at h2
  have H2 := Lib.hid h2
  clear h2
  have C0 := x2.box B0
  have C1 := x2.box B1
  have C2 := x2.box B2
  go_wp2_with fail
  refine (c_rangesOf 100 #[.pointer (some ⟨w.heap.size + 1, 0, none⟩), .pointer (some ⟨w.heap.size + 1 + 1, 0, none⟩), .pointer (some ⟨w.heap.size, 0, none⟩)] (isIn l ⟨lo, hi⟩ b) (enters Try.func100 (by kernel_rfl) rfl) w2 (fun W hW k hk => ?_)).mono ?_
  · exact c_changed1 k _ _ _ lo hi b A c l W (hW.box C1) (hW.box C2) (hW.box C0) ((ha.keep X2).keep hW) (by omega) (by omega) H1.out
  rintro e w3 ⟨v, rfl, o3, x3⟩
  obtain ⟨r, hr⟩ : ∃ r, runsTo (isIn l ⟨lo, hi⟩ b) 1000 = r := ⟨_, rfl⟩
  rw [hr] at o3
  have HR := Lib.hid hr
  have hrl : r.length ≤ 1000 := by rw [← hr]; exact runsTo_len _ _
  clear hr
  obtain ⟨A3, c3, rfl⟩ := o3.form
  have X3 := Ext.trans X2 x3
  by_cases h16 : r.length ≤ 16
  · have h16' : decide ((16 : Int) < (r.length : Int)) = false := by simp; omega
    have HV := Lib.hid (show true = turnB l ⟨lo, hi⟩ b ∧ turnV l ⟨lo, hi⟩ b = r by
      have : turnB l ⟨lo, hi⟩ b = true := by unfold turnB; rw [H1.out, H2.out, HR.out]; simp [h16]
      exact ⟨this.symm, by unfold turnV; rw [this, HR.out]; simp⟩)
    go_wp2
    go_ret2
    exact ⟨_, ret_vb HV.out.1, by rw [HV.out.2]; exact o3.less X2.size, X3⟩
  · have h16' : decide ((16 : Int) < (r.length : Int)) = true := by simp; omega
    have HV := Lib.hid (NO.out (by unfold turnB; rw [HR.out]; simp; omega))
    go_wp2
    go_ret2
    exact ⟨_, ret_vb HV.out.1, by rw [HV.out.2]; exact World.ownsRow_nil _ _ _ _, X3⟩
end Go.Proofs.Ytinfkgbgeajphaa
