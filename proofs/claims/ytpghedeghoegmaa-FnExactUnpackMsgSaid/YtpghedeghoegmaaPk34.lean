/- What the program's reader reads is what the model reads. No program in sight. -/
import Derived.Test.YtpghedeghoegmaaPk33
namespace Go.Proofs.Ytpghedeghoegmaa
open Go.ChangeShapes Go.WideShapes Go.ChangeAt Go.RowKit Go.Sort
set_option linter.unusedVariables false
set_option linter.unusedSimpArgs false

theorem getZs_add (b : List Nat) (n : Nat) : ∀ (m at_ : Nat), getZs b at_ (m + n) = match getZs b at_ m with | none => none | some p => (getZs b p.2 n).map (fun q => (p.1 ++ q.1, q.2))
  | 0, at_ => by
    rw [Nat.zero_add]
    show _ = (getZs b at_ n).map (fun q => ([] ++ q.1, q.2))
    cases getZs b at_ n <;> simp
  | m + 1, at_ => by
    rw [show m + 1 + n = (m + n) + 1 by omega, getZs, getZs]
    cases getZ b at_ with
    | none => rfl
    | some p =>
      simp only
      rw [getZs_add b n m p.2]
      cases getZs b p.2 m with
      | none => rfl
      | some q =>
        simp only [Option.map_some]
        cases getZs b q.2 n <;> simp
theorem rdM_off (b : List Nat) : ∀ (n at_ : Nat), (rdM b n at_ false).2 = (at_, false)
  | 0, at_ => rfl
  | n + 1, at_ => by
    rw [rdM, rdN_off]
    exact rdM_off b n at_
theorem rdM_ok (b : List Nat) : ∀ (n at_ : Nat) {l : List Int} {e : Nat}, getZs b at_ n = some (l, e) → rdM b n at_ true = (l, e, true)
  | 0, at_, l, e, h => by
    simp only [getZs, Option.some.injEq, Prod.mk.injEq] at h
    obtain ⟨rfl, rfl⟩ := h
    rfl
  | n + 1, at_, l, e, h => by
    rw [getZs] at h
    cases hz : getZ b at_ with
    | none => rw [hz] at h; cases h
    | some p =>
      rw [hz] at h
      simp only at h
      cases hq : getZs b p.2 n with
      | none => rw [hq] at h; cases h
      | some q =>
        rw [hq] at h
        simp only [Option.map_some, Option.some.injEq, Prod.mk.injEq] at h
        obtain ⟨rfl, rfl⟩ := h
        have := rdM_ok b n p.2 (l := q.1) (e := q.2) hq
        rw [rdM, rdN_some (x := p.1) (f := p.2) hz]
        simp only [this]
theorem rdM_no (b : List Nat) : ∀ (n at_ : Nat), getZs b at_ n = none → (rdM b n at_ true).2.2 = false
  | 0, at_, h => by simp [getZs] at h
  | n + 1, at_, h => by
    rw [getZs] at h
    cases hz : getZ b at_ with
    | none =>
      rw [rdM, rdN_none hz]
      show (rdM b n 0 false).2.2 = false
      rw [rdM_off]
    | some p =>
      rw [hz] at h
      simp only at h
      cases hq : getZs b p.2 n with
      | none =>
        rw [rdM, rdN_some (x := p.1) (f := p.2) hz]
        exact rdM_no b n p.2 hq
      | some q => rw [hq] at h; cases h
theorem rdR_ok (b : List Nat) (wide : Nat) : ∀ (n at_ : Nat) {l : List Int} {e : Nat}, getZs b at_ (n * wide) = some (l, e) → ∃ L, rdR b wide n at_ true = (L, e, true) ∧ L.flatten = l
  | 0, at_, l, e, h => by
    rw [Nat.zero_mul] at h
    simp only [getZs, Option.some.injEq, Prod.mk.injEq] at h
    obtain ⟨rfl, rfl⟩ := h
    exact ⟨[], rfl, rfl⟩
  | n + 1, at_, l, e, h => by
    rw [show (n + 1) * wide = wide + n * wide by rw [Nat.succ_mul]; omega, getZs_add] at h
    cases hz : getZs b at_ wide with
    | none => rw [hz] at h; cases h
    | some p =>
      rw [hz] at h
      simp only at h
      cases hq : getZs b p.2 (n * wide) with
      | none => rw [hq] at h; cases h
      | some q =>
        rw [hq] at h
        simp only [Option.map_some, Option.some.injEq, Prod.mk.injEq] at h
        obtain ⟨rfl, rfl⟩ := h
        obtain ⟨L, h1, h2⟩ := rdR_ok b wide n p.2 (l := q.1) (e := q.2) hq
        refine ⟨p.1 :: L, ?_, by rw [List.flatten_cons, h2]⟩
        rw [rdR, if_pos rfl, rdM_ok b wide at_ (l := p.1) (e := p.2) hz]
        simp only [h1]
theorem rdR_no (b : List Nat) (wide : Nat) : ∀ (n at_ : Nat), getZs b at_ (n * wide) = none → (rdR b wide n at_ true).2.2 = false
  | 0, at_, h => by rw [Nat.zero_mul] at h; simp [getZs] at h
  | n + 1, at_, h => by
    rw [show (n + 1) * wide = wide + n * wide by rw [Nat.succ_mul]; omega, getZs_add] at h
    cases hz : getZs b at_ wide with
    | none =>
      have h1 := rdM_no b wide at_ hz
      rw [rdR, if_pos rfl]
      show (rdR b wide n _ (rdM b wide at_ true).2.2).2.2 = false
      rw [h1, rdR_off]
    | some p =>
      rw [hz] at h
      simp only at h
      cases hq : getZs b p.2 (n * wide) with
      | none =>
        rw [rdR, if_pos rfl, rdM_ok b wide at_ (l := p.1) (e := p.2) hz]
        exact rdR_no b wide n p.2 hq
      | some q => rw [hq] at h; cases h
theorem rdRw_off (b : List Nat) (at_ most wide : Nat) : rdRw b at_ false most wide = ([], at_, false) := by
  unfold rdRw
  rw [rdN_off]
  rfl
theorem rdRw_ok {b : List Nat} {at_ most wide : Nat} {l : List Int} {e : Nat} (h : rdRows b at_ wide most = some (l, e)) : ∃ L, rdRw b at_ true most wide = (L, e, true) ∧ L.flatten = l := by
  unfold rdRows at h
  cases hz : getZ b at_ with
  | none => rw [hz] at h; cases h
  | some p =>
    simp only [hz] at h
    split at h
    · cases h
    · rename_i hn
      obtain ⟨L, h1, h2⟩ := rdR_ok b wide p.1.toNat p.2 h
      refine ⟨L, ?_, h2⟩
      unfold rdRw
      rw [rdN_some (x := p.1) (f := p.2) hz]
      simp only [Bool.true_and]
      rw [decide_eq_true (by omega), h1]
theorem rdRw_no {b : List Nat} {at_ most wide : Nat} (h : rdRows b at_ wide most = none) : (rdRw b at_ true most wide).2.2 = false := by
  unfold rdRows at h
  cases hz : getZ b at_ with
  | none =>
    unfold rdRw
    rw [rdN_none hz]
    rfl
  | some p =>
    simp only [hz] at h
    unfold rdRw
    rw [rdN_some (x := p.1) (f := p.2) hz]
    simp only [Bool.true_and]
    split at h
    · rename_i hn
      rw [decide_eq_false (by omega), rdR_off]
    · rename_i hn
      rw [decide_eq_true (by omega)]
      exact rdR_no b wide p.1.toNat p.2 h
/-- rows of so many numbers, all at least 0 -/
def RowsN (wide : Nat) (L : List (List Int)) : Prop := ∀ r ∈ L, r.length = wide ∧ ∀ x ∈ r, 0 ≤ x ∧ x < 9223372036854775808
theorem rdM_rows {b : List Nat} (hb : Byt b) : ∀ (n at_ : Nat) (ok : Bool), at_ ≤ b.length → (rdM b n at_ ok).1.length = n ∧ (∀ x ∈ (rdM b n at_ ok).1, 0 ≤ x ∧ x < 9223372036854775808) ∧ (rdM b n at_ ok).2.1 ≤ b.length
  | 0, at_, ok, h => ⟨rfl, (by intro x hx; cases hx), h⟩
  | n + 1, at_, ok, h => by
    obtain ⟨h1, h2, h3⟩ := rdN_le hb h ok
    obtain ⟨k1, k2, k3⟩ := rdM_rows hb n (rdN b at_ ok).2.1 (rdN b at_ ok).2.2 h1
    rw [rdM]
    refine ⟨by rw [List.length_cons, k1], fun x hx => ?_, k3⟩
    rcases List.mem_cons.1 hx with rfl | hx
    · exact ⟨h2, h3⟩
    · exact k2 x hx
theorem rdR_rows {b : List Nat} (hb : Byt b) (wide : Nat) : ∀ (n at_ : Nat) (ok : Bool), at_ ≤ b.length → RowsN wide (rdR b wide n at_ ok).1 ∧ (rdR b wide n at_ ok).2.1 ≤ b.length
  | 0, at_, ok, h => ⟨(by intro x hx; cases hx), h⟩
  | n + 1, at_, ok, h => by
    rw [rdR]
    cases ok
    · rw [if_neg (by simp)]
      exact ⟨(by intro x hx; cases hx), h⟩
    · rw [if_pos rfl]
      obtain ⟨h1, h2, h3⟩ := rdM_rows hb wide at_ true h
      obtain ⟨k1, k2⟩ := rdR_rows hb wide n (rdM b wide at_ true).2.1 (rdM b wide at_ true).2.2 h3
      refine ⟨fun x hx => ?_, k2⟩
      rcases List.mem_cons.1 hx with rfl | hx
      · exact ⟨h1, h2⟩
      · exact k1 x hx
theorem rdRw_rows {b : List Nat} (hb : Byt b) {at_ : Nat} (h : at_ ≤ b.length) (ok : Bool) (most wide : Nat) : RowsN wide (rdRw b at_ ok most wide).1 ∧ (rdRw b at_ ok most wide).2.1 ≤ b.length :=
  rdR_rows hb wide _ _ _ (rdN_le hb h ok).1
def celR (r : List Int) : Cel := match r with
  | [a, b] => ⟨a, b⟩
  | _ => ⟨0, 0⟩
def seaR (r : List Int) : Sea := match r with
  | [a, b, c] => ⟨a, b, c - 1⟩
  | _ => ⟨0, 0, 0⟩
def entR (r : List Int) : Ent := match r with
  | [a, b, c, d, e] => ⟨a, b, c, d, e⟩
  | _ => ⟨0, 0, 0, 0, 0⟩
theorem toCel_rows : ∀ {L : List (List Int)}, RowsN 2 L → toCel L.flatten = L.map celR
  | [], _ => rfl
  | r :: L, h => by
    have hl := (h r List.mem_cons_self).1
    match r, hl with
    | [a, b], _ =>
      show ({ key := a, value := b } : Cel) :: toCel L.flatten = _
      rw [toCel_rows (fun x hx => h x (List.mem_cons_of_mem _ hx))]
      rfl
theorem toSea_rows : ∀ {L : List (List Int)}, RowsN 3 L → toSea L.flatten = L.map seaR
  | [], _ => rfl
  | r :: L, h => by
    have hl := (h r List.mem_cons_self).1
    match r, hl with
    | [a, b, c], _ =>
      show (⟨a, b, c - 1⟩ : Sea) :: toSea L.flatten = _
      rw [toSea_rows (fun x hx => h x (List.mem_cons_of_mem _ hx))]
      rfl
theorem toEnt_rows : ∀ {L : List (List Int)}, RowsN 5 L → toEnt L.flatten = L.map entR
  | [], _ => rfl
  | r :: L, h => by
    have hl := (h r List.mem_cons_self).1
    match r, hl with
    | [a, b, c, d, e], _ =>
      show (⟨a, b, c, d, e⟩ : Ent) :: toEnt L.flatten = _
      rw [toEnt_rows (fun x hx => h x (List.mem_cons_of_mem _ hx))]
      rfl
/-- the log that the program's reader reads -/
theorem rdLog_prog {b : List Nat} (hb : Byt b) {at_ f0 f1 f2 f3 : Nat} {base : Int} {k0 k1 k2 k3 : Bool} {L1 L2 L3 : List (List Int)} (ha : at_ ≤ b.length) (h0 : rdN b at_ true = (base, f0, k0)) (h1 : rdRw b f0 k0 40 2 = (L1, f1, k1)) (h2 : rdRw b f1 k1 10 3 = (L2, f2, k2)) (h3 : rdRw b f2 k2 60 5 = (L3, f3, k3)) :
    rdLog b at_ = if k3 = true then (if logOk ⟨base, L1.map celR, L2.map seaR, L3.map entR⟩ = true then some (⟨base, L1.map celR, L2.map seaR, L3.map entR⟩, f3) else none) else none := by
  have a0 := (rdN_le hb ha true).1
  rw [h0] at a0
  obtain ⟨r1, a1⟩ := rdRw_rows hb a0 k0 40 2
  rw [h1] at r1 a1
  obtain ⟨r2, a2⟩ := rdRw_rows hb a1 k1 10 3
  rw [h2] at r2 a2
  obtain ⟨r3, a3⟩ := rdRw_rows hb a2 k2 60 5
  rw [h3] at r3 a3
  simp only at a0 r1 a1 r2 a2 r3 a3
  have hoff : ∀ {f k f' k' most wide} {L : List (List Int)}, k = false → rdRw b f k most wide = (L, f', k') → k' = false := by
    intro f k f' k' most wide L hk h
    subst hk
    rw [rdRw_off] at h
    simp only [Prod.mk.injEq] at h
    exact h.2.2.symm
  have hno : k3 = false → (if k3 = true then (if logOk ⟨base, L1.map celR, L2.map seaR, L3.map entR⟩ = true then some ((⟨base, L1.map celR, L2.map seaR, L3.map entR⟩ : Lg), f3) else none) else none) = none := by
    intro h
    rw [if_neg (by rw [h]; simp)]
  unfold rdLog
  cases hz : getZ b at_ with
  | none =>
    rw [rdN_none hz] at h0
    simp only [Prod.mk.injEq] at h0
    exact (hno (hoff (hoff (hoff h0.2.2.symm h1) h2) h3)).symm
  | some p =>
    rw [rdN_some (x := p.1) (f := p.2) hz] at h0
    simp only [Prod.mk.injEq] at h0
    obtain ⟨rfl, rfl, rfl⟩ := h0
    simp only
    cases q1 : rdRows b p.2 2 40 with
    | none =>
      have := rdRw_no q1
      rw [h1] at this
      exact (hno (hoff (hoff this h2) h3)).symm
    | some p1 =>
      obtain ⟨M1, e1, g1⟩ := rdRw_ok (l := p1.1) (e := p1.2) q1
      rw [h1] at e1
      simp only [Prod.mk.injEq] at e1
      obtain ⟨rfl, rfl, rfl⟩ := e1
      simp only
      cases q2 : rdRows b p1.2 3 10 with
      | none =>
        have := rdRw_no q2
        rw [h2] at this
        exact (hno (hoff this h3)).symm
      | some p2 =>
        obtain ⟨M2, e2, g2⟩ := rdRw_ok (l := p2.1) (e := p2.2) q2
        rw [h2] at e2
        simp only [Prod.mk.injEq] at e2
        obtain ⟨rfl, rfl, rfl⟩ := e2
        simp only
        cases q3 : rdRows b p2.2 5 60 with
        | none =>
          have := rdRw_no q3
          rw [h3] at this
          exact (hno this).symm
        | some p3 =>
          obtain ⟨M3, e3, g3⟩ := rdRw_ok (l := p3.1) (e := p3.2) q3
          rw [h3] at e3
          simp only [Prod.mk.injEq] at e3
          obtain ⟨rfl, rfl, rfl⟩ := e3
          simp only [if_true]
          rw [← g1, ← g2, ← g3, toCel_rows r1, toSea_rows r2, toEnt_rows r3]
end Go.Proofs.Ytpghedeghoegmaa

