/- Messages as bytes: what is written, what is read, and that both fit: plain lists, no program in sight. -/
import Derived.Test.YtpghedeghoegmaaPk11
import Derived.Test.YtpghedeghoegmaaPk17
import Derived.Test.YtpghedeghoegmaaPk18
namespace Go.Proofs.Ytpghedeghoegmaa
open Go.ChangeShapes Go.WideShapes Go.ChangeAt Go.RowKit Go.Sort
set_option linter.unusedVariables false
set_option linter.unusedSimpArgs false

/-! ### numbers one behind the other -/
def packZ (l : List Int) : List Nat := l.flatMap fun x => putN x.toNat
theorem packZ_append (a b : List Int) : packZ (a ++ b) = packZ a ++ packZ b := by simp [packZ]
theorem packZ_cons (x : Int) (l : List Int) : packZ (x :: l) = putN x.toNat ++ packZ l := rfl
def getZ (b : List Nat) (at_ : Nat) : Option (Int × Nat) := (getA 9 0 (b.drop at_)).map fun p => ((p.1 : Int), at_ + p.2)
def getZs (b : List Nat) : Nat → Nat → Option (List Int × Nat)
  | at_, 0 => some ([], at_)
  | at_, n + 1 => match getZ b at_ with
    | none => none
    | some p => (getZs b p.2 n).map fun q => (p.1 :: q.1, q.2)
theorem getZ_of {b : List Nat} {at_ : Nat} {x : Int} {e : Nat} (hb : ∀ y ∈ b, y < 256) (h : getZ b at_ = some (x, e)) : b.drop at_ = putN x.toNat ++ b.drop e ∧ 0 ≤ x ∧ x < 9223372036854775808 ∧ at_ < e ∧ e ≤ b.length := by
  unfold getZ at h
  cases hg : getA 9 0 (b.drop at_) with
  | none => rw [hg] at h; cases h
  | some p =>
    rw [hg] at h
    simp only [Option.map_some, Option.some.injEq, Prod.mk.injEq] at h
    obtain ⟨rfl, rfl⟩ := h
    obtain ⟨h1, h2, h3, _, h5⟩ := get_of 9 0 (b.drop at_) p.1 p.2 (fun y hy => hb y (List.mem_of_mem_drop hy)) hg
    rw [List.length_drop] at h1
    refine ⟨?_, by omega, by omega, by omega, by omega⟩
    rw [show ((p.1 : Int)).toNat = p.1 by omega, ← h2, ← List.drop_drop, List.take_append_drop]
theorem getZs_of {b : List Nat} (hb : ∀ y ∈ b, y < 256) : ∀ {n at_ : Nat} {l : List Int} {e : Nat}, getZs b at_ n = some (l, e) → b.drop at_ = packZ l ++ b.drop e ∧ l.length = n ∧ (∀ x ∈ l, 0 ≤ x ∧ x < 9223372036854775808) ∧ at_ ≤ e
  | 0, at_, l, e, h => by
    simp only [getZs, Option.some.injEq, Prod.mk.injEq] at h
    obtain ⟨rfl, rfl⟩ := h
    exact ⟨rfl, rfl, by simp, Nat.le_refl _⟩
  | n + 1, at_, l, e, h => by
    rw [getZs] at h
    cases hz : getZ b at_ with
    | none => rw [hz] at h; cases h
    | some p =>
      rw [hz] at h
      cases hq : getZs b p.2 n with
      | none => simp only [hq] at h; cases h
      | some q =>
        simp only [hq, Option.map_some, Option.some.injEq, Prod.mk.injEq] at h
        obtain ⟨rfl, rfl⟩ := h
        obtain ⟨h1, h2, h3, h4, _⟩ := getZ_of hb (x := p.1) (e := p.2) hz
        obtain ⟨k1, k2, k3, k4⟩ := getZs_of hb (l := q.1) (e := q.2) hq
        refine ⟨by rw [packZ_cons, List.append_assoc, ← k1]; exact h1, by simp [k2], fun x hx => ?_, by omega⟩
        rcases List.mem_cons.1 hx with rfl | hx
        · exact ⟨h2, h3⟩
        · exact k3 x hx
/-- rows: how many, and their numbers -/
def rdRows (b : List Nat) (at_ wide most : Nat) : Option (List Int × Nat) := match getZ b at_ with
  | none => none
  | some p => if (most : Int) < p.1 then none else getZs b p.2 (p.1.toNat * wide)
def toCel : List Int → List Cel
  | a :: b :: r => ⟨a, b⟩ :: toCel r
  | _ => []
def toSea : List Int → List Sea
  | a :: b :: c :: r => ⟨a, b, c - 1⟩ :: toSea r
  | _ => []
def toEnt : List Int → List Ent
  | a :: b :: c :: d :: e :: r => ⟨a, b, c, d, e⟩ :: toEnt r
  | _ => []
def celN (l : List Cel) : List Int := l.flatMap fun c => [c.key, c.value]
def seaN (l : List Sea) : List Int := l.flatMap fun s => [s.client, s.req, s.answer + 1]
def entN (l : List Ent) : List Int := l.flatMap fun e => [e.client, e.req, e.kind, e.key, e.value]
theorem celN_len (l : List Cel) : (celN l).length = l.length * 2 := by induction l with | nil => rfl | cons c l ih => show (celN l).length + 2 = _; rw [ih, List.length_cons]; omega
theorem seaN_len (l : List Sea) : (seaN l).length = l.length * 3 := by induction l with | nil => rfl | cons c l ih => show (seaN l).length + 3 = _; rw [ih, List.length_cons]; omega
theorem entN_len (l : List Ent) : (entN l).length = l.length * 5 := by induction l with | nil => rfl | cons c l ih => show (entN l).length + 5 = _; rw [ih, List.length_cons]; omega
theorem celN_to : ∀ (n : Nat) (l : List Int), l.length = n * 2 → celN (toCel l) = l ∧ (toCel l).length = n
  | 0, l, h => by
    obtain rfl : l = [] := List.eq_nil_of_length_eq_zero (by omega)
    exact ⟨rfl, rfl⟩
  | n + 1, l, h => by
    match l, h with
    | a :: b :: r, h =>
      obtain ⟨h1, h2⟩ := celN_to n r (by simp at h; omega)
      exact ⟨by show a :: b :: celN (toCel r) = _; rw [h1], by show (toCel r).length + 1 = _; rw [h2]⟩
    | [_], h => simp at h; omega
    | [], h => simp at h
theorem seaN_to : ∀ (n : Nat) (l : List Int), l.length = n * 3 → seaN (toSea l) = l ∧ (toSea l).length = n
  | 0, l, h => by
    obtain rfl : l = [] := List.eq_nil_of_length_eq_zero (by omega)
    exact ⟨rfl, rfl⟩
  | n + 1, l, h => by
    match l, h with
    | a :: b :: c :: r, h =>
      obtain ⟨h1, h2⟩ := seaN_to n r (by simp at h; omega)
      exact ⟨by show a :: b :: (c - 1 + 1) :: seaN (toSea r) = _; rw [h1, show c - 1 + 1 = c by omega], by show (toSea r).length + 1 = _; rw [h2]⟩
    | [_, _], h => simp at h; omega
    | [_], h => simp at h; omega
    | [], h => simp at h
theorem entN_to : ∀ (n : Nat) (l : List Int), l.length = n * 5 → entN (toEnt l) = l ∧ (toEnt l).length = n
  | 0, l, h => by
    obtain rfl : l = [] := List.eq_nil_of_length_eq_zero (by omega)
    exact ⟨rfl, rfl⟩
  | n + 1, l, h => by
    match l, h with
    | a :: b :: c :: d :: e :: r, h =>
      obtain ⟨h1, h2⟩ := entN_to n r (by simp at h; omega)
      exact ⟨by show a :: b :: c :: d :: e :: entN (toEnt r) = _; rw [h1], by show (toEnt r).length + 1 = _; rw [h2]⟩
    | [_, _, _, _], h => simp at h; omega
    | [_, _, _], h => simp at h; omega
    | [_, _], h => simp at h; omega
    | [_], h => simp at h; omega
    | [], h => simp at h
theorem rdRows_of {b : List Nat} (hb : ∀ y ∈ b, y < 256) {at_ wide most : Nat} {l : List Int} {e : Nat} (h : rdRows b at_ wide most = some (l, e)) : ∃ n, n ≤ most ∧ l.length = n * wide ∧ b.drop at_ = putN n ++ (packZ l ++ b.drop e) ∧ (∀ x ∈ l, 0 ≤ x ∧ x < 9223372036854775808) := by
  unfold rdRows at h
  cases hz : getZ b at_ with
  | none => rw [hz] at h; cases h
  | some p =>
    simp only [hz] at h
    split at h
    · cases h
    · obtain ⟨h1, h2, h3, h4, _⟩ := getZ_of hb (x := p.1) (e := p.2) hz
      obtain ⟨k1, k2, k3, k4⟩ := getZs_of hb h
      exact ⟨p.1.toNat, by omega, k2, by rw [← k1]; exact h1, k3⟩
/-! ### logs -/
def logNums (l : Lg) : List Int := l.base :: ((l.cells.length : Int) :: celN l.cells ++ ((l.seats.length : Int) :: seaN l.seats ++ ((l.ents.length : Int) :: entN l.ents)))
def rdLog (b : List Nat) (at_ : Nat) : Option (Lg × Nat) := match getZ b at_ with
  | none => none
  | some p => match rdRows b p.2 2 40 with
    | none => none
    | some q => match rdRows b q.2 3 10 with
      | none => none
      | some s => match rdRows b s.2 5 60 with
        | none => none
        | some t => if logOk ⟨p.1, toCel q.1, toSea s.1, toEnt t.1⟩ = true then some (⟨p.1, toCel q.1, toSea s.1, toEnt t.1⟩, t.2) else none
theorem packZ_logNums (l : Lg) : packZ (logNums l) = putN l.base.toNat ++ ((putN l.cells.length ++ packZ (celN l.cells)) ++ ((putN l.seats.length ++ packZ (seaN l.seats)) ++ (putN l.ents.length ++ packZ (entN l.ents)))) := by
  unfold logNums
  rw [packZ_cons, packZ_append, packZ_append, packZ_cons, packZ_cons, packZ_cons]
  rfl
theorem rdLog_of {b : List Nat} (hb : ∀ y ∈ b, y < 256) {at_ : Nat} {l : Lg} {e : Nat} (h : rdLog b at_ = some (l, e)) : b.drop at_ = packZ (logNums l) ++ b.drop e ∧ logOk l = true := by
  unfold rdLog at h
  cases hz : getZ b at_ with
  | none => rw [hz] at h; cases h
  | some p =>
    simp only [hz] at h
    cases h1 : rdRows b p.2 2 40 with
    | none => simp only [h1] at h; cases h
    | some q =>
      simp only [h1] at h
      cases h2 : rdRows b q.2 3 10 with
      | none => simp only [h2] at h; cases h
      | some s =>
        simp only [h2] at h
        cases h3 : rdRows b s.2 5 60 with
        | none => simp only [h3] at h; cases h
        | some t =>
          simp only [h3] at h
          split at h
          · rename_i hok
            simp only [Option.some.injEq, Prod.mk.injEq] at h
            obtain ⟨rfl, rfl⟩ := h
            refine ⟨?_, hok⟩
            obtain ⟨z1, z2, _⟩ := getZ_of hb (x := p.1) (e := p.2) hz
            obtain ⟨n1, _, l1, d1, _⟩ := rdRows_of hb (l := q.1) (e := q.2) h1
            obtain ⟨n2, _, l2, d2, _⟩ := rdRows_of hb (l := s.1) (e := s.2) h2
            obtain ⟨n3, _, l3, d3, _⟩ := rdRows_of hb (l := t.1) (e := t.2) h3
            obtain ⟨c1, c2⟩ := celN_to n1 q.1 l1
            obtain ⟨s1, s2⟩ := seaN_to n2 s.1 l2
            obtain ⟨t1, t2⟩ := entN_to n3 t.1 l3
            rw [packZ_logNums]
            simp only [c1, c2, s1, s2, t1, t2, List.append_assoc]
            rw [← d3, ← d2, ← d1]
            exact z1
          · cases h
end Go.Proofs.Ytpghedeghoegmaa

/- Rows of numbers written as bytes: PutNums of the reference and of the program. -/
namespace Go.Proofs.Ytpghedeghoegmaa
open Go.ChangeShapes Go.WideShapes Go.ChangeAt Go.RowKit Go.Sort
set_option linter.unusedVariables false
set_option linter.unusedSimpArgs false

/-- a row of whole numbers -/
def zEnc (x : Int) : List Value := [.int .i64 x]
theorem zEnc_len (x : Int) : (zEnc x).length = 1 := rfl
theorem zEnc_one (x : Int) : ∀ u ∈ zEnc x, u.oneCell' = true := by
  intro u hu
  simp only [zEnc, List.mem_singleton] at hu
  subst hu
  rfl
theorem Try.infoZ : (Try.prog.info? 3).map (fun i => (i.zero, i.size, i.bytes)) = some (some (.int .i64 0), 1, 8) := by kernel_rfl
theorem Rd.atZ {w : World} {A : Option Addr} {c : Nat} {l : List Int} (h : Rd zEnc 1 w A c l) {k : Nat} (hk : k < l.length) : ∃ b o, A = some ⟨b, o, none⟩ ∧ b < w.heap.size ∧ w.cell? ⟨b, o + k, none⟩ = some (.int .i64 l[k]) := by
  obtain ⟨b, o, e, hlt, hc⟩ := h.2.2 (by omega)
  exact ⟨b, o, e, hlt, by simpa using hc k hk 0 _ rfl⟩
theorem Rd.atB {w : World} {A : Option Addr} {c : Nat} {l : List Nat} (h : Rd bEnc 1 w A c l) {k : Nat} (hk : k < l.length) : ∃ b o, A = some ⟨b, o, none⟩ ∧ b < w.heap.size ∧ w.cell? ⟨b, o + k, none⟩ = some (.int .u8 l[k]) := by
  obtain ⟨b, o, e, hlt, hc⟩ := h.2.2 (by omega)
  exact ⟨b, o, e, hlt, by simpa using hc k hk 0 _ rfl⟩
/-- the numbers may be written -/
def Nn (l : List Int) : Prop := ∀ x ∈ l, 0 ≤ x ∧ x < 9223372036854775808
theorem Nn.take {l : List Int} (h : Nn l) (k : Nat) : Nn (l.take k) := fun x hx => h x (List.mem_of_mem_take hx)
end Go.Proofs.Ytpghedeghoegmaa

