/- RangesOf of the program. -/
import Derived.Test.YtgebfcmkcggdmaaPa
import Derived.Test.YtgebfcmkcggdmaaSTurn2
namespace Go.Proofs.Ytgebfcmkcggdmaa
open Go.ChangeShapes Go.WideShapes Go.ChangeAt Go.RowKit Go.Sort
set_option linter.unusedVariables false
set_option linter.unusedSimpArgs false

def ownerAt (l : List Prt) (k : Nat) : Int := (l.getD (idxOf (hasKey k) l).toNat Prt.z).owner
def isOwn (l : List Prt) (ow : Int) (k : Nat) : Bool := ownerAt l k == ow
def rangesOfV (l : List Prt) (ow : Int) : List Rng := if partsOk l = true then runsTo (isOwn l ow) 1000 else []

/-- a key is in the part that begins and ends around it -/
theorem part_of {l : List Prt} (h : PartsOk l) {n : Nat} (hn : n < l.length) {k : Nat} (h1 : l[n].lo ≤ k) (h2 : (k : Int) < l[n].hi) : idxOf (hasKey k) l = n := by
  refine idx_hit hn (hasKey_yes h1 h2) (fun j hj hjn => hasKey_no (fun ⟨_, h3⟩ => ?_))
  have e := pEnd_up h.2.2.2 n (by omega) (j + 1) (by omega)
  rw [pEnd_next hj] at e
  have := (h.at hn).2.2.2.2.2
  omega
theorem part_has {l : List Prt} (h : PartsOk l) {k : Nat} (hk : k < 1000) : ∃ n, n < l.length ∧ idxOf (hasKey k) l = n := by
  have key : ∀ m, m ≤ l.length → (k : Int) < pEnd l m → ∃ n, n < l.length ∧ idxOf (hasKey k) l = n := by
    intro m
    induction m with
    | zero => intro _ h2; simp [pEnd] at h2; omega
    | succ m ih =>
      intro hm h2
      by_cases hlt : (k : Int) < pEnd l m
      · exact ih (by omega) hlt
      · have hml : m < l.length := by omega
        rw [pEnd_next hml] at h2
        have := (h.at hml).2.2.2.2.2
        exact ⟨m, hml, part_of h hml (by omega) h2⟩
  exact key l.length (Nat.le_refl _) (by rw [h.2.2.1]; omega)
theorem isOwn_part {l : List Prt} (h : PartsOk l) {n : Nat} (hn : n < l.length) (ow : Int) {k : Nat} (h1 : l[n].lo ≤ k) (h2 : (k : Int) < l[n].hi) : isOwn l ow k = (l[n].owner == ow) := by
  unfold isOwn ownerAt
  rw [part_of h hn h1 h2]
  simp [hn]

theorem runs_false {is : Nat → Bool} {a : Nat} : ∀ n, (∀ k, a ≤ k → k < a + n → is k = false) → runsTo is (a + n) = runsTo is a
  | 0, _ => rfl
  | n + 1, h => by
    rw [← Nat.add_assoc, runsTo_no rfl (h (a + n) (by omega) (by omega))]
    exact runs_false n (fun k h1 h2 => h k h1 (by omega))
def grow1 (l : List Rng) (a b : Int) : List Rng := if joins l a.toNat = true then l.set (l.length - 1) ⟨(lastR l).lo, b⟩ else l ++ [⟨a, b⟩]
theorem lastR_set {l : List Rng} (h : 0 < l.length) (r : Rng) : lastR (l.set (l.length - 1) r) = r := by
  have hlt : l.length - 1 < l.length := by omega
  unfold lastR
  simp [List.getElem?_set, hlt]
theorem lastR_snoc (l : List Rng) (r : Rng) : lastR (l ++ [r]) = r := by
  unfold lastR
  simp
theorem joins_pos {l : List Rng} {k : Nat} (h : joins l k = true) : 0 < l.length ∧ (lastR l).hi = k := by
  unfold joins at h
  simpa using h
theorem runs_true {is : Nat → Bool} {a : Nat} : ∀ n, (∀ k, a ≤ k → k < a + (n + 1) → is k = true) → runsTo is (a + (n + 1)) = grow1 (runsTo is a) a (a + (n + 1) : Nat)
  | 0, h => by
    unfold grow1
    rw [show ((a : Int)).toNat = a by omega]
    cases hj : joins (runsTo is a) a
    · rw [runsTo_new rfl (h a (by omega) (by omega)) hj]
      simp
    · rw [runsTo_join rfl (h a (by omega) (by omega)) hj]
      have := (joins_pos hj).2
      unfold longer
      rw [this]
      simp
  | n + 1, h => by
    have ih := runs_true n (fun k h1 h2 => h k h1 (by omega))
    have e : a + (n + 1 + 1) = a + (n + 1) + 1 := by omega
    rw [e]
    have hi := h (a + (n + 1)) (by omega) (by omega)
    unfold grow1 at ih ⊢
    rw [show ((a : Int)).toNat = a by omega] at ih ⊢
    cases hj : joins (runsTo is a) a
    · rw [hj] at ih
      simp only [Bool.false_eq_true, if_false] at ih ⊢
      rw [runsTo_join ih hi (by unfold joins; rw [lastR_snoc]; simp)]
      unfold longer
      rw [lastR_snoc]
      simp
    · rw [hj] at ih
      simp only [if_true] at ih ⊢
      obtain ⟨hp, hh⟩ := joins_pos hj
      rw [runsTo_join ih hi (by unfold joins; rw [lastR_set hp]; simp [hp])]
      unfold longer
      rw [lastR_set hp]
      simp

/-- the reference's way: part by part -/
def mergeStep (l : List Prt) (ow : Int) (out : List Rng) (i : Nat) : List Rng := if (l.getD i Prt.z).owner = ow then grow1 out (l.getD i Prt.z).lo (l.getD i Prt.z).hi else out
def mergeTo (l : List Prt) (ow : Int) : Nat → List Rng
  | 0 => []
  | i + 1 => mergeStep l ow (mergeTo l ow i) i
theorem merge_runs {l : List Prt} (h : PartsOk l) (ow : Int) : ∀ n, n ≤ l.length → mergeTo l ow n = runsTo (isOwn l ow) (pEnd l n).toNat
  | 0, _ => by simp [mergeTo, pEnd, runsTo]
  | n + 1, hn => by
    have hlt : n < l.length := by omega
    have ih := merge_runs h ow n (by omega)
    have ha := h.at hlt
    have hg : l.getD n Prt.z = l[n] := by simp [hlt]
    obtain ⟨a, ea⟩ : ∃ a : Nat, l[n].lo = a := ⟨l[n].lo.toNat, by omega⟩
    obtain ⟨m, em⟩ : ∃ m : Nat, l[n].hi = (a + (m + 1) : Nat) := ⟨(l[n].hi - l[n].lo).toNat - 1, by omega⟩
    unfold mergeTo mergeStep
    rw [ih, pEnd_next hlt, hg, ← ha.2.2.2.2.2, ea, em]
    simp only [Int.toNat_natCast]
    split
    · rename_i ho
      rw [runs_true m (fun k h1 h2 => by rw [isOwn_part h hlt ow (by omega) (by omega), ho]; simp)]
    · rename_i ho
      rw [runs_false (m + 1) (fun k h1 h2 => by rw [isOwn_part h hlt ow (by omega) (by omega)]; simpa using ho)]
theorem merge_all {l : List Prt} (h : PartsOk l) (ow : Int) : mergeTo l ow l.length = runsTo (isOwn l ow) 1000 := by
  rw [merge_runs h ow _ (Nat.le_refl _), h.2.2.1]
  rfl

set_option maxHeartbeats 1000000 in
theorem c_RangesOf1 (k : Nat) (hk : k < 1000) (Bl Bo : Nat) (ow : Int) (A : Option Addr) (c : Nat) (l : List Prt) (w : World) (hBl : w.heap[Bl]? = some (.cells #[.slice A l.length c] 24 (0, 0)))
    (hBo : w.heap[Bo]? = some (.cells #[.int .i64 ow] 3 (0, 0))) (ha : Rd Prt.enc 3 w A c l) (hn : l.length ≤ 1048576) (hp : partsOk l = true) :
    Calls Try.prog 26 #[.int .i64 k, .pointer (some ⟨Bl, 0, none⟩), .pointer (some ⟨Bo, 0, none⟩)] w fun e w' => e = .returned (.bool (isOwn l ow k)) ∧ Ext w w' := by
  have hP := of_decide_eq_true (p := PartsOk l) hp
  obtain ⟨n, hnl, hz⟩ := part_has hP hk
  have HC := Lib.hid (show ∀ W, Ext w W → Calls Try.prog 24 #[.slice A l.length c, .int .i64 k] W fun e w' => e = .returned (.int .i64 n) ∧ Ext W w' from fun W hW => by rw [← hz]; exact c_partAt A c l k W (ha.keep hW) (by omega) hp)
  have HV := Lib.hid (show isOwn l ow k = (l[n].owner == ow) by unfold isOwn ownerAt; rw [hz]; simp [hnl])
  obtain ⟨ab, ao, rfl, hab, a0, a1, a2⟩ := ha.atPrt hnl
  have cl := bx_cell hBl
  have co := bx_cell hBo
  have zl := bx_lt hBl
  have zo := bx_lt hBo
  clear hz hp hP
  go_enter Try.func26, Try.ntmps26
  go_wp2
  (refine wp_region_mix' (fun _ _ _ _ _ hq => hq) 10 (by kernel_rfl) (by kernel_rfl) (fun hg => ?_); simp only [headOps, List.take_succ_cons, List.take_zero, List.filter_cons, List.filter_nil, isAlloc, Bool.not_false, Bool.false_eq_true, if_true, if_false, List.append_nil, List.drop_succ_cons, List.drop_zero])
  (repeat (refine wpMix_plain rfl rfl ?_; go_big_quiet_step (fail); refine wpQuiet_nil ?_))
  (refine wpMix_det rfl rfl rfl (enters Try.func24 (by kernel_rfl) rfl) (fun W hW => HC.out W hW) rfl ?_; simp only [Act.put, List.setIfInBounds_toArray, List.set_cons_zero, List.set_cons_succ])
  (repeat (refine wpMix_plain rfl rfl ?_; go_big_quiet_step (fail); refine wpQuiet_nil ?_))
  (refine wpMix_nil ?_; intro w2 hw2)
  go_wp2
  go_ret
  exact ⟨ret_bool HV.out.symm, hw2⟩

set_option maxHeartbeats 1000000 in
set_option maxRecDepth 100000 in
theorem c_iRangesOf (A : Option Addr) (c : Nat) (l : List Prt) (ow : Int) (w : World) (ha : Rd Prt.enc 3 w A c l) (hn : l.length ≤ 1048576) :
    Calls Try.prog 13 #[.slice A l.length c, .int .i64 ow] w fun e w' => ∃ v, e = .returned v ∧ Ow Rng.enc 35 2 w' w.heap.size v (rangesOfV l ow) ∧ Ext w w' := by
  have X0 : Ext w ((w.alloc (.cells #[.slice A l.length c] 24)).alloc (.cells #[.int .i64 ow] 3)) := ext_to (ext_alloc _ _) _
  have hcon := c_iPartsOk A c l _ (ha.keep X0) (by omega)
  have B0 := hOld (o' := .cells #[.slice A l.length c] 24) (o := .cells #[.int .i64 ow] 3) (hNew (w := w) rfl)
  have B1 := hNew (w := w.alloc (.cells #[.slice A l.length c] 24)) (o := .cells #[.int .i64 ow] 3) rfl
  rw [sz_alloc] at B1
  have HB0 := Lib.hid B0
  have HB1 := Lib.hid B1
  have HX0 := Lib.hid X0
  clear B0 B1 X0
  cases hpk : partsOk l
  · rw [hpk] at hcon
    have HV := Lib.hid (show rangesOfV l ow = [] by unfold rangesOfV; rw [hpk]; rfl)
    clear hpk
    go_enter Try.func13, Try.ntmps13
    go_wp2_with fail
    refine hcon.mono ?_
    rintro e w1 ⟨rfl, x1⟩
    clear hcon
    go_wp2
    go_ret
    exact ⟨_, rfl, by rw [HV.out]; exact World.ownsRow_nil _ _ _ _, Ext.trans HX0.out x1⟩
  · rw [hpk] at hcon
    have HV := Lib.hid (show rangesOfV l ow = runsTo (isOwn l ow) 1000 by unfold rangesOfV; rw [hpk]; rfl)
    have HP := Lib.hid hpk
    clear hpk
    go_enter Try.func13, Try.ntmps13
    go_wp2_with fail
    refine hcon.mono ?_
    rintro e w1 ⟨rfl, x1⟩
    clear hcon
    have X1 := Ext.trans HX0.out x1
    have C0 := Lib.hid (x1.box HB0.out)
    have C1 := Lib.hid (x1.box HB1.out)
    go_wp2_with fail
    refine (c_rangesOf 26 #[.pointer (some ⟨w.heap.size, 0, none⟩), .pointer (some ⟨w.heap.size + 1, 0, none⟩)] (isOwn l ow) (enters Try.func26 (by kernel_rfl) rfl) w1 (fun W hW k hk => ?_)).mono ?_
    · exact c_RangesOf1 k hk _ _ ow A c l W (hW.box C0.out) (hW.box C1.out) ((ha.keep X1).keep hW) hn HP.out
    rintro e w2 ⟨v, rfl, o2, x2⟩
    have O2 := Lib.hid o2
    clear o2
    go_wp2
    go_ret
    exact ⟨_, rfl, by rw [HV.out]; exact O2.out.less X1.size, Ext.trans X1 x2⟩
end Go.Proofs.Ytgebfcmkcggdmaa
