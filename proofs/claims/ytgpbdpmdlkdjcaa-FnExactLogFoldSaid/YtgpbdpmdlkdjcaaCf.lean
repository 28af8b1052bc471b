/- Cells that ascend: where one is, and its value, of the program. -/
import Derived.Test.YtgpbdpmdlkdjcaaBs
namespace Go.Proofs.Ytgpbdpmdlkdjcaa
open Go.ChangeShapes Go.WideShapes Go.ChangeAt Go.RowKit Go.Sort
set_option linter.unusedVariables false
set_option linter.unusedSimpArgs false

/-- cells that are right -/
structure CsOk (l : List Cel) : Prop where
  len : l.length ≤ 40
  num : ∀ (i : Nat) (h : i < l.length), 0 ≤ l[i].key ∧ l[i].key ≤ 1000000000 ∧ 0 ≤ l[i].value ∧ l[i].value ≤ 1000000000
  asc : ∀ (i j : Nat) (hi : i < l.length) (hj : j < l.length), i < j → l[i].key < l[j].key
theorem CTo.ok {l : List Cel} (h : CTo l l.length) (hl : l.length ≤ 40) : CsOk l := by
  have hs : ∀ (i : Nat) (h : i < l.length), (wh l[i].key && wh l[i].value && cLow l i l[i].key) = true := fun i hi => by rw [← cStep_at hi]; exact h i hi
  refine ⟨hl, fun i hi => ?_, fun i j hi hj hij => ?_⟩
  · have := hs i hi
    simp only [wh, inB, Bool.and_eq_true, decide_eq_true_eq] at this
    omega
  · have hadj : ∀ (k : Nat) (hk : k + 1 < l.length), l[k].key < l[k + 1].key := fun k hk => by
      have h1 := hs (k + 1) hk
      rw [cLow_at (show k < l.length by omega)] at h1
      simp only [Bool.and_eq_true, Bool.not_eq_true', decide_eq_false_iff_not] at h1
      omega
    have hup : ∀ (d : Nat) (hd : i + 1 + d < l.length), l[i].key < l[i + 1 + d].key := fun d => by
      induction d with
      | zero => intro hd; exact hadj i hd
      | succ d ih =>
        intro hd
        have h1 := ih (by omega)
        have h2 := hadj (i + 1 + d) (by omega)
        simp only [Nat.add_assoc] at h1 h2 ⊢
        omega
    have := hup (j - (i + 1)) (by omega)
    simp only [show i + 1 + (j - (i + 1)) = j by omega] at this
    exact this
/-- how many cells lie below the key -/
def lbC : List Cel → Int → Nat
  | [], _ => 0
  | x :: r, t => if x.key - t < 0 then lbC r t + 1 else 0
theorem lbC_le : ∀ (l : List Cel) (t : Int), lbC l t ≤ l.length
  | [], _ => Nat.le_refl _
  | x :: r, t => by
    have := lbC_le r t
    unfold lbC
    split <;> simp <;> omega
theorem lbC_lo : ∀ {l : List Cel} {t : Int} (i : Nat) (h : i < l.length), i < lbC l t → l[i].key - t < 0
  | [], _, i, h, _ => absurd h (by simp)
  | x :: r, t, i, h, hi => by
    unfold lbC at hi
    by_cases hx : x.key - t < 0
    · rw [if_pos hx] at hi
      cases i with
      | zero => exact hx
      | succ i => exact lbC_lo (l := r) i (by simpa using h) (by omega)
    · rw [if_neg hx] at hi
      omega
theorem lbC_at : ∀ {l : List Cel} {t : Int} (n : Nat) (_ : lbC l t = n) (h : n < l.length), ¬ l[n].key - t < 0
  | [], _, _, _, h => absurd h (by simp)
  | x :: r, t, n, hn, h => by
    unfold lbC at hn
    by_cases hx : x.key - t < 0
    · rw [if_pos hx] at hn
      subst hn
      exact lbC_at (l := r) _ rfl (by simpa using h)
    · rw [if_neg hx] at hn
      subst hn
      exact hx
theorem lbC_hi {l : List Cel} {t : Int} (ha : CsOk l) (i : Nat) (h : i < l.length) (hi : lbC l t ≤ i) : ¬ l[i].key - t < 0 := by
  have h0 : lbC l t < l.length := by omega
  have h1 := lbC_at (lbC l t) rfl h0
  by_cases he : lbC l t = i
  · simp only [he] at h1; exact h1
  · have := ha.asc (lbC l t) i h0 h (by omega)
    omega
def hasC (l : List Cel) (t : Int) : Bool := match l[lbC l t]? with | some x => x.key - t == 0 | none => false
def valC (l : List Cel) (t : Int) : Int := match l[lbC l t]? with | some x => if (x.key - t == 0) = true then x.value else -1 | none => -1

set_option maxHeartbeats 1000000 in
theorem c_cellFor1 (x : Cel) (t : Int) (h0 : 0 ≤ x.key) (h1 : x.key ≤ 1000000000) (h2 : 0 ≤ t) (h3 : t ≤ 1000000000) (w : World) : Calls Try.prog 152 #[.agg #[.int .i64 x.key, .int .i64 x.value], .int .i64 t] w fun e w' => e = .returned (.int .i64 (x.key - t)) ∧ Ext w w' := by
  go_enter Try.func152, Try.ntmps152
  go_wp2
  go_ret
  exact ⟨rfl, ext_alloc _ _⟩
set_option maxHeartbeats 1000000 in
theorem c_cellFor (A : Option Addr) (c : Nat) (l : List Cel) (t : Int) (w : World) (ha : Rd Cel.enc 2 w A c l) (hok : CsOk l) (h2 : 0 ≤ t) (h3 : t ≤ 1000000000) :
    Calls Try.prog 147 #[.slice A l.length c, .int .i64 t] w fun e w' => e = .returned (.tuple #[.int .i64 (lbC l t), .bool (hasC l t)]) ∧ Ext w w' := by
  have hl := hok.len
  have hC : Calls Try.prog 151 #[.slice A l.length c, .int .i64 t, .func (.func 152) #[] #[]] w fun e w' => e = .returned (.tuple #[.int .i64 (lbC l t), .bool (hasC l t)]) ∧ Ext w w' :=
    c_searchCel 152 #[] A c l t (lbC l t) w (enters Try.func152 (by kernel_rfl) rfl) ha (by omega) (lbC_le l t) (fun i h hi => lbC_lo i h hi) (fun i h hi => lbC_hi hok i h hi) (fun W2 _ k hk => c_cellFor1 l[k] t (hok.num k hk).1 (hok.num k hk).2.1 h2 h3 W2)
  obtain ⟨b, hb⟩ : ∃ b, hasC l t = b := ⟨_, rfl⟩
  obtain ⟨k, hk⟩ : ∃ k, lbC l t = k := ⟨_, rfl⟩
  rw [hb, hk] at hC ⊢
  have HC := Lib.hid hC
  clear ha hok hC hb hk
  go_enter Try.func147, Try.ntmps147
  go_wp2_with fail
  refine HC.out.mono ?_
  rintro e w1 ⟨rfl, x1⟩
  go_wp2
  exact bodyPost_ret (results_tmp2 Try.results147 _ _ _) rfl ⟨rfl, x1⟩
set_option maxHeartbeats 1000000 in
theorem c_valueOf (A : Option Addr) (c : Nat) (l : List Cel) (t : Int) (w : World) (ha : Rd Cel.enc 2 w A c l) (hok : CsOk l) (h2 : 0 ≤ t) (h3 : t ≤ 1000000000) :
    Calls Try.prog 143 #[.slice A l.length c, .int .i64 t] w fun e w' => e = .returned (.int .i64 (valC l t)) ∧ Ext w w' := by
  have HC := Lib.hid (c_cellFor A c l t w ha hok h2 h3)
  have hle := lbC_le l t
  have hl := hok.len
  obtain ⟨k, hk⟩ : ∃ k, lbC l t = k := ⟨_, rfl⟩
  obtain ⟨b, hb⟩ : ∃ b, hasC l t = b := ⟨_, rfl⟩
  have HA := Lib.hid ha
  have HB := Lib.hid hb
  have HKk := Lib.hid hk
  have hC := HC.out
  rw [hk, hb] at hC
  rw [hk] at hle
  have HC' := Lib.hid hC
  clear hk hb hC HC ha hok
  cases b
  · have HV := Lib.hid (show valC l t = -1 by
      have h1 := HB.out
      unfold hasC at h1
      unfold valC
      cases hx : l[lbC l t]? with
      | none => rfl
      | some x => rw [hx] at h1; simp only at h1 ⊢; rw [h1]; rfl)
    go_enter Try.func143, Try.ntmps143
    go_wp2_with fail
    refine HC'.out.mono ?_
    rintro e w1 ⟨rfl, x1⟩
    go_wp2
    go_ret
    exact ⟨ret_int HV.out.symm, x1⟩
  · have hlt : k < l.length := by
      by_cases h : k < l.length
      · exact h
      · have h1 := HB.out
        unfold hasC at h1
        rw [HKk.out, List.getElem?_eq_none (by omega)] at h1
        cases h1
    have HV := Lib.hid (show valC l t = l[k].value by
      have h1 := HB.out
      unfold hasC at h1
      unfold valC
      rw [HKk.out, List.getElem?_eq_getElem hlt] at *
      simp only at h1 ⊢
      rw [h1]; rfl)
    go_enter Try.func143, Try.ntmps143
    go_wp2_with fail
    refine HC'.out.mono ?_
    rintro e w1 ⟨rfl, x1⟩
    obtain ⟨ab, ao, rfl, hab, a0, a1⟩ := (HA.out.keep x1).atCel hlt
    go_wp2
    go_ret
    exact ⟨ret_int HV.out.symm, x1⟩
end Go.Proofs.Ytgpbdpmdlkdjcaa
