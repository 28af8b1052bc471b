/- Messages as bytes: what is written, what is read, and that both fit: plain lists, no program in sight. -/
import Derived.Test.YtpghedeghoegmaaBy
import Derived.Test.YtpghedeghoegmaaFt
import Derived.Test.YtpghedeghoegmaaIm
namespace Go.Proofs.Ytpghedeghoegmaa
open Go.ChangeShapes Go.WideShapes Go.ChangeAt Go.RowKit Go.Sort
set_option linter.unusedVariables false
set_option linter.unusedSimpArgs false

/-! ### numbers one behind the other -/
def packZ (l : List Int) : List Nat := l.flatMap fun x => putN x.toNat
theorem packZ_append (a b : List Int) : packZ (a ++ b) = packZ a ++ packZ b := by simp [packZ]
theorem packZ_cons (x : Int) (l : List Int) : packZ (x :: l) = putN x.toNat ++ packZ l := rfl
def getZ (b : List Nat) (at_ : Nat) : Option (Int × Nat) := (getA 9 0 (b.drop at_)).map fun p => ((p.1 : Int), at_ + p.2)
def getZs (b : List Nat) : Nat → Nat → Option (List Int × Nat)
  | at_, 0 => some ([], at_)
  | at_, n + 1 => match getZ b at_ with
    | none => none
    | some p => (getZs b p.2 n).map fun q => (p.1 :: q.1, q.2)
/-- the bytes from a place on are these and then others -/
theorem drop_add {b : List Nat} {at_ : Nat} {x r : List Nat} (h : b.drop at_ = x ++ r) : b.drop (at_ + x.length) = r := by
  rw [← List.drop_drop, h, List.drop_left]
theorem getZ_put {b : List Nat} {at_ : Nat} {x : Int} {r : List Nat} (h : b.drop at_ = putN x.toNat ++ r) (h0 : 0 ≤ x) (h1 : x < 9223372036854775808) : getZ b at_ = some (x, at_ + (putN x.toNat).length) := by
  unfold getZ
  rw [h, get_put 9 0 x.toNat r (by omega) (.inl ⟨rfl, by omega⟩)]
  simp only [Option.map_some, Option.some.injEq, Prod.mk.injEq, and_true]
  omega
theorem getZ_of {b : List Nat} {at_ : Nat} {x : Int} {e : Nat} (hb : ∀ y ∈ b, y < 256) (h : getZ b at_ = some (x, e)) : b.drop at_ = putN x.toNat ++ b.drop e ∧ 0 ≤ x ∧ x < 9223372036854775808 ∧ at_ < e ∧ e ≤ b.length := by
  unfold getZ at h
  cases hg : getA 9 0 (b.drop at_) with
  | none => rw [hg] at h; cases h
  | some p =>
    rw [hg] at h
    simp only [Option.map_some, Option.some.injEq, Prod.mk.injEq] at h
    obtain ⟨rfl, rfl⟩ := h
    obtain ⟨h1, h2, h3, _, h5⟩ := get_of 9 0 (b.drop at_) p.1 p.2 (fun y hy => hb y (List.mem_of_mem_drop hy)) hg
    rw [List.length_drop] at h1
    refine ⟨?_, by omega, by omega, by omega, by omega⟩
    rw [show ((p.1 : Int)).toNat = p.1 by omega, ← h2, ← List.drop_drop, List.take_append_drop]
theorem getZs_put {b r : List Nat} : ∀ {l : List Int} {at_ : Nat}, b.drop at_ = packZ l ++ r → (∀ x ∈ l, 0 ≤ x ∧ x < 9223372036854775808) → getZs b at_ l.length = some (l, at_ + (packZ l).length)
  | [], at_, _, _ => rfl
  | x :: l, at_, h, hx => by
    rw [packZ_cons, List.append_assoc] at h
    have h1 := getZ_put h (hx x List.mem_cons_self).1 (hx x List.mem_cons_self).2
    have h2 := getZs_put (drop_add h) (fun y hy => hx y (List.mem_cons_of_mem _ hy))
    show getZs b at_ (l.length + 1) = _
    rw [getZs, h1]
    show (getZs b (at_ + (putN x.toNat).length) l.length).map _ = _
    rw [h2, packZ_cons, List.length_append]
    simp [Nat.add_assoc]
theorem getZs_of {b : List Nat} (hb : ∀ y ∈ b, y < 256) : ∀ {n at_ : Nat} {l : List Int} {e : Nat}, getZs b at_ n = some (l, e) → b.drop at_ = packZ l ++ b.drop e ∧ l.length = n ∧ (∀ x ∈ l, 0 ≤ x ∧ x < 9223372036854775808) ∧ at_ ≤ e
  | 0, at_, l, e, h => by
    simp only [getZs, Option.some.injEq, Prod.mk.injEq] at h
    obtain ⟨rfl, rfl⟩ := h
    exact ⟨rfl, rfl, by simp, Nat.le_refl _⟩
  | n + 1, at_, l, e, h => by
    rw [getZs] at h
    cases hz : getZ b at_ with
    | none => rw [hz] at h; cases h
    | some p =>
      rw [hz] at h
      cases hq : getZs b p.2 n with
      | none => simp only [hq] at h; cases h
      | some q =>
        simp only [hq, Option.map_some, Option.some.injEq, Prod.mk.injEq] at h
        obtain ⟨rfl, rfl⟩ := h
        obtain ⟨h1, h2, h3, h4, _⟩ := getZ_of hb (x := p.1) (e := p.2) hz
        obtain ⟨k1, k2, k3, k4⟩ := getZs_of hb (l := q.1) (e := q.2) hq
        refine ⟨by rw [packZ_cons, List.append_assoc, ← k1]; exact h1, by simp [k2], fun x hx => ?_, by omega⟩
        rcases List.mem_cons.1 hx with rfl | hx
        · exact ⟨h2, h3⟩
        · exact k3 x hx
/-- rows: how many, and their numbers -/
def rdRows (b : List Nat) (at_ wide most : Nat) : Option (List Int × Nat) := match getZ b at_ with
  | none => none
  | some p => if (most : Int) < p.1 then none else getZs b p.2 (p.1.toNat * wide)
def toCel : List Int → List Cel
  | a :: b :: r => ⟨a, b⟩ :: toCel r
  | _ => []
def toSea : List Int → List Sea
  | a :: b :: c :: r => ⟨a, b, c - 1⟩ :: toSea r
  | _ => []
def toEnt : List Int → List Ent
  | a :: b :: c :: d :: e :: r => ⟨a, b, c, d, e⟩ :: toEnt r
  | _ => []
def celN (l : List Cel) : List Int := l.flatMap fun c => [c.key, c.value]
def seaN (l : List Sea) : List Int := l.flatMap fun s => [s.client, s.req, s.answer + 1]
def entN (l : List Ent) : List Int := l.flatMap fun e => [e.client, e.req, e.kind, e.key, e.value]
theorem toCel_of : ∀ l : List Cel, toCel (celN l) = l
  | [] => rfl
  | c :: l => by
    show (⟨c.key, c.value⟩ : Cel) :: toCel (celN l) = c :: l
    rw [toCel_of l]
theorem toSea_of : ∀ l : List Sea, toSea (seaN l) = l
  | [] => rfl
  | c :: l => by
    show (⟨c.client, c.req, c.answer + 1 - 1⟩ : Sea) :: toSea (seaN l) = c :: l
    rw [toSea_of l, show c.answer + 1 - 1 = c.answer by omega]
theorem toEnt_of : ∀ l : List Ent, toEnt (entN l) = l
  | [] => rfl
  | c :: l => by
    show (⟨c.client, c.req, c.kind, c.key, c.value⟩ : Ent) :: toEnt (entN l) = c :: l
    rw [toEnt_of l]
theorem celN_len (l : List Cel) : (celN l).length = l.length * 2 := by induction l with | nil => rfl | cons c l ih => show (celN l).length + 2 = _; rw [ih, List.length_cons]; omega
theorem seaN_len (l : List Sea) : (seaN l).length = l.length * 3 := by induction l with | nil => rfl | cons c l ih => show (seaN l).length + 3 = _; rw [ih, List.length_cons]; omega
theorem entN_len (l : List Ent) : (entN l).length = l.length * 5 := by induction l with | nil => rfl | cons c l ih => show (entN l).length + 5 = _; rw [ih, List.length_cons]; omega
theorem celN_to : ∀ (n : Nat) (l : List Int), l.length = n * 2 → celN (toCel l) = l ∧ (toCel l).length = n
  | 0, l, h => by
    obtain rfl : l = [] := List.eq_nil_of_length_eq_zero (by omega)
    exact ⟨rfl, rfl⟩
  | n + 1, l, h => by
    match l, h with
    | a :: b :: r, h =>
      obtain ⟨h1, h2⟩ := celN_to n r (by simp at h; omega)
      exact ⟨by show a :: b :: celN (toCel r) = _; rw [h1], by show (toCel r).length + 1 = _; rw [h2]⟩
    | [_], h => simp at h; omega
    | [], h => simp at h
theorem seaN_to : ∀ (n : Nat) (l : List Int), l.length = n * 3 → seaN (toSea l) = l ∧ (toSea l).length = n
  | 0, l, h => by
    obtain rfl : l = [] := List.eq_nil_of_length_eq_zero (by omega)
    exact ⟨rfl, rfl⟩
  | n + 1, l, h => by
    match l, h with
    | a :: b :: c :: r, h =>
      obtain ⟨h1, h2⟩ := seaN_to n r (by simp at h; omega)
      exact ⟨by show a :: b :: (c - 1 + 1) :: seaN (toSea r) = _; rw [h1, show c - 1 + 1 = c by omega], by show (toSea r).length + 1 = _; rw [h2]⟩
    | [_, _], h => simp at h; omega
    | [_], h => simp at h; omega
    | [], h => simp at h
theorem entN_to : ∀ (n : Nat) (l : List Int), l.length = n * 5 → entN (toEnt l) = l ∧ (toEnt l).length = n
  | 0, l, h => by
    obtain rfl : l = [] := List.eq_nil_of_length_eq_zero (by omega)
    exact ⟨rfl, rfl⟩
  | n + 1, l, h => by
    match l, h with
    | a :: b :: c :: d :: e :: r, h =>
      obtain ⟨h1, h2⟩ := entN_to n r (by simp at h; omega)
      exact ⟨by show a :: b :: c :: d :: e :: entN (toEnt r) = _; rw [h1], by show (toEnt r).length + 1 = _; rw [h2]⟩
    | [_, _, _, _], h => simp at h; omega
    | [_, _, _], h => simp at h; omega
    | [_, _], h => simp at h; omega
    | [_], h => simp at h; omega
    | [], h => simp at h
theorem rdRows_put {b r : List Nat} {l : List Int} {at_ wide most n : Nat} (h : b.drop at_ = putN n ++ (packZ l ++ r)) (hn : n ≤ most) (hm : most < 1000000) (hl : l.length = n * wide) (hx : ∀ x ∈ l, 0 ≤ x ∧ x < 9223372036854775808) :
    rdRows b at_ wide most = some (l, at_ + (putN n).length + (packZ l).length) ∧ b.drop (at_ + (putN n).length + (packZ l).length) = r := by
  have e : ((n : Int)).toNat = n := by omega
  have h1 := getZ_put (x := (n : Int)) (by rw [e]; exact h) (by omega) (by omega)
  have h2 := drop_add h
  have h3 := getZs_put h2 hx
  refine ⟨?_, drop_add h2⟩
  unfold rdRows
  rw [h1, e]
  show (if (most : Int) < (n : Int) then none else getZs b (at_ + (putN n).length) (((n : Int)).toNat * wide)) = _
  rw [if_neg (by omega), e, ← hl, h3]
theorem rdRows_of {b : List Nat} (hb : ∀ y ∈ b, y < 256) {at_ wide most : Nat} {l : List Int} {e : Nat} (h : rdRows b at_ wide most = some (l, e)) : ∃ n, n ≤ most ∧ l.length = n * wide ∧ b.drop at_ = putN n ++ (packZ l ++ b.drop e) ∧ (∀ x ∈ l, 0 ≤ x ∧ x < 9223372036854775808) := by
  unfold rdRows at h
  cases hz : getZ b at_ with
  | none => rw [hz] at h; cases h
  | some p =>
    simp only [hz] at h
    split at h
    · cases h
    · obtain ⟨h1, h2, h3, h4, _⟩ := getZ_of hb (x := p.1) (e := p.2) hz
      obtain ⟨k1, k2, k3, k4⟩ := getZs_of hb h
      exact ⟨p.1.toNat, by omega, k2, by rw [← k1]; exact h1, k3⟩
/-! ### logs -/
def logNums (l : Lg) : List Int := l.base :: ((l.cells.length : Int) :: celN l.cells ++ ((l.seats.length : Int) :: seaN l.seats ++ ((l.ents.length : Int) :: entN l.ents)))
def rdLog (b : List Nat) (at_ : Nat) : Option (Lg × Nat) := match getZ b at_ with
  | none => none
  | some p => match rdRows b p.2 2 40 with
    | none => none
    | some q => match rdRows b q.2 3 10 with
      | none => none
      | some s => match rdRows b s.2 5 60 with
        | none => none
        | some t => if logOk ⟨p.1, toCel q.1, toSea s.1, toEnt t.1⟩ = true then some (⟨p.1, toCel q.1, toSea s.1, toEnt t.1⟩, t.2) else none
theorem logNums_b {l : Lg} (h : logOk l = true) : ∀ x ∈ logNums l, 0 ≤ x ∧ x ≤ 1000000001 := by
  obtain ⟨hb, hI, h60, hf, hA⟩ := of_decide_eq_true (p := LogOk l) h
  have h2 := imgP_of hI
  have hb2 := (inB_yes _ _ _).1 hb
  have hc40 := h2.c.len
  have hs10 := h2.s.len
  intro x hx
  unfold logNums at hx
  rcases List.mem_cons.1 hx with rfl | hx
  · omega
  rcases List.mem_append.1 hx with hx | hx
  · rcases List.mem_cons.1 hx with rfl | hx
    · simp at hc40; omega
    · obtain ⟨c, hc, hx⟩ := List.mem_flatMap.1 hx
      have := h2.c.num c hc
      simp only [List.mem_cons, List.not_mem_nil, or_false] at hx
      omega
  · rcases List.mem_append.1 hx with hx | hx
    · rcases List.mem_cons.1 hx with rfl | hx
      · simp at hs10; omega
      · obtain ⟨c, hc, hx⟩ := List.mem_flatMap.1 hx
        have := h2.s.num c hc
        simp only [List.mem_cons, List.not_mem_nil, or_false] at hx
        omega
    · rcases List.mem_cons.1 hx with rfl | hx
      · omega
      · obtain ⟨c, hc, hx⟩ := List.mem_flatMap.1 hx
        have := ent_b (hA c hc)
        simp only [List.mem_cons, List.not_mem_nil, or_false] at hx
        omega
theorem packZ_logNums (l : Lg) : packZ (logNums l) = putN l.base.toNat ++ ((putN l.cells.length ++ packZ (celN l.cells)) ++ ((putN l.seats.length ++ packZ (seaN l.seats)) ++ (putN l.ents.length ++ packZ (entN l.ents)))) := by
  unfold logNums
  rw [packZ_cons, packZ_append, packZ_append, packZ_cons, packZ_cons, packZ_cons]
  rfl
theorem rdLog_put {b r : List Nat} {l : Lg} {at_ : Nat} (h : b.drop at_ = packZ (logNums l) ++ r) (hok : logOk l = true) :
    rdLog b at_ = some (l, at_ + (packZ (logNums l)).length) ∧ b.drop (at_ + (packZ (logNums l)).length) = r := by
  refine ⟨?_, drop_add h⟩
  have hB := logNums_b hok
  obtain ⟨hb, hI, h60, hf, hA⟩ := of_decide_eq_true (p := LogOk l) hok
  have h2 := imgP_of hI
  have hb2 := (inB_yes _ _ _).1 hb
  have hc40 : l.cells.length ≤ 40 := h2.c.len
  have hs10 : l.seats.length ≤ 10 := h2.s.len
  have hmem : ∀ x, (x ∈ celN l.cells ∨ x ∈ seaN l.seats ∨ x ∈ entN l.ents) → 0 ≤ x ∧ x < 9223372036854775808 := fun x hx => by
    have : x ∈ logNums l := by
      unfold logNums
      rcases hx with hx | hx | hx
      · exact List.mem_cons_of_mem _ (List.mem_append_left _ (List.mem_cons_of_mem _ hx))
      · exact List.mem_cons_of_mem _ (List.mem_append_right _ (List.mem_append_left _ (List.mem_cons_of_mem _ hx)))
      · exact List.mem_cons_of_mem _ (List.mem_append_right _ (List.mem_append_right _ (List.mem_cons_of_mem _ hx)))
    have := hB x this
    omega
  rw [packZ_logNums] at h ⊢
  simp only [List.append_assoc] at h
  have e1 := getZ_put h (by omega) (by omega)
  have k1 := drop_add h
  obtain ⟨e2, k2⟩ := rdRows_put (wide := 2) (most := 40) k1 hc40 (by omega) (celN_len _) (fun x hx => hmem x (.inl hx))
  obtain ⟨e3, k3⟩ := rdRows_put (wide := 3) (most := 10) k2 hs10 (by omega) (seaN_len _) (fun x hx => hmem x (.inr (.inl hx)))
  obtain ⟨e4, k4⟩ := rdRows_put (wide := 5) (most := 60) k3 h60 (by omega) (entN_len _) (fun x hx => hmem x (.inr (.inr hx)))
  unfold rdLog
  rw [e1]
  simp only [e2, e3, e4, toCel_of, toSea_of, toEnt_of]
  rw [if_pos hok]
  simp only [List.length_append, Option.some.injEq, Prod.mk.injEq, true_and]
  omega
theorem rdLog_of {b : List Nat} (hb : ∀ y ∈ b, y < 256) {at_ : Nat} {l : Lg} {e : Nat} (h : rdLog b at_ = some (l, e)) : b.drop at_ = packZ (logNums l) ++ b.drop e ∧ logOk l = true := by
  unfold rdLog at h
  cases hz : getZ b at_ with
  | none => rw [hz] at h; cases h
  | some p =>
    simp only [hz] at h
    cases h1 : rdRows b p.2 2 40 with
    | none => simp only [h1] at h; cases h
    | some q =>
      simp only [h1] at h
      cases h2 : rdRows b q.2 3 10 with
      | none => simp only [h2] at h; cases h
      | some s =>
        simp only [h2] at h
        cases h3 : rdRows b s.2 5 60 with
        | none => simp only [h3] at h; cases h
        | some t =>
          simp only [h3] at h
          split at h
          · rename_i hok
            simp only [Option.some.injEq, Prod.mk.injEq] at h
            obtain ⟨rfl, rfl⟩ := h
            refine ⟨?_, hok⟩
            obtain ⟨z1, z2, _⟩ := getZ_of hb (x := p.1) (e := p.2) hz
            obtain ⟨n1, _, l1, d1, _⟩ := rdRows_of hb (l := q.1) (e := q.2) h1
            obtain ⟨n2, _, l2, d2, _⟩ := rdRows_of hb (l := s.1) (e := s.2) h2
            obtain ⟨n3, _, l3, d3, _⟩ := rdRows_of hb (l := t.1) (e := t.2) h3
            obtain ⟨c1, c2⟩ := celN_to n1 q.1 l1
            obtain ⟨s1, s2⟩ := seaN_to n2 s.1 l2
            obtain ⟨t1, t2⟩ := entN_to n3 t.1 l3
            rw [packZ_logNums]
            simp only [c1, c2, s1, s2, t1, t2, List.append_assoc]
            rw [← d3, ← d2, ← d1]
            exact z1
          · cases h
end Go.Proofs.Ytpghedeghoegmaa
