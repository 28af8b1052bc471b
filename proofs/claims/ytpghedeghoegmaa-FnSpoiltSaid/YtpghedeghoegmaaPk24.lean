/- MsgFits of the program and of the reference agree. -/
import Derived.Test.YtpghedeghoegmaaPk23
import Derived.Test.YtpghedeghoegmaaPk20
import Derived.Test.YtpghedeghoegmaaPk4
namespace Go.Proofs.Ytpghedeghoegmaa
open Go.ChangeShapes Go.WideShapes Go.ChangeAt Go.RowKit Go.Sort
set_option linter.unusedVariables false
set_option linter.unusedSimpArgs false
def iAll (m : Mg) (f : ByteArray) : Bool := iFld m f 0 && (iFld m f 1 && (iFld m f 2 && (iFld m f 3 && (iFld m f 4 && (iFld m f 5 && (iFld m f 6 && (iFld m f 7 && iFld m f 8)))))))
theorem iTo_all (m : Mg) (f : ByteArray) : decide (iTo m f 9) = iAll m f := by
 rw [Bool.eq_iff_iff, decide_eq_true_iff]
 simp only [iAll, Bool.and_eq_true]
 constructor
 ·intro h
  exact ⟨h 0 (by omega), h 1 (by omega), h 2 (by omega), h 3 (by omega), h 4 (by omega), h 5 (by omega), h 6 (by omega), h 7 (by omega), h 8 (by omega)⟩
 ·rintro ⟨h0, h1, h2, h3, h4, h5, h6, h7, h8⟩ j hj
  have h9 : j = 0 ∨ j = 1 ∨ j = 2 ∨ j = 3 ∨ j = 4 ∨ j = 5 ∨ j = 6 ∨ j = 7 ∨ j = 8 := by omega
  rcases h9 with rfl | rfl | rfl | rfl | rfl | rfl | rfl | rfl | rfl <;> assumption
def iBits (f : ByteArray) : List Bool := [sHas f 70, sHas f 86, sHas f 79, sHas f 67, sHas f 78, sHas f 110, sHas f 99, sHas f 114, sHas f 65, sHas f 120, sHas f 76, f.toList.isEmpty]
def sBits (f : ByteArray) : List Bool := [sHas f 102, sHas f 118, sHas f 111, sHas f 99, sHas f 110, sHas f 107, sHas f 67, sHas f 82, sHas f 65, sHas f 100, sHas f 108, f.toList.isEmpty]
set_option maxRecDepth 100000 in
theorem bits_eq (k : Int) : iBits (iForm k) = sBits (sForm k) ∧ (sHas (sForm k) 108 = false → sHas (sForm k) 110 = false) := by
 unfold iForm sForm
 repeat' split
 all_goals (first | contradiction | decide +kernel)
theorem iLets : iLet 0 = 70 ∧ iLet 1 = 86 ∧ iLet 2 = 79 ∧ iLet 3 = 67 ∧ iLet 4 = 78 ∧ iLet 5 = 110 ∧ iLet 6 = 99 ∧ iLet 7 = 114 ∧ iLet 8 = 65 := by decide
theorem fOne_num (h : Bool) (b x lo hi : Int) (he : fOk b x = inB x lo hi) : fOne h b x = numOk h x lo hi := by unfold fOne numOk; rw [he]
theorem fits_eq (m : Mg) : iFits m = sFits m := by
 obtain ⟨hb, hn⟩ := bits_eq m.kind
 unfold iFits sFits
 rw [iTo_all]
 generalize iForm m.kind = F at *
 generalize sForm m.kind = S at *
 simp only [iBits, sBits, List.cons.injEq, and_true] at hb
 obtain ⟨e1, e2, e3, e4, e5, e6, e7, e8, e9, e10, e11, e12⟩ := hb
 obtain ⟨l0, l1, l2, l3, l4, l5, l6, l7, l8⟩ := iLets
 simp only [iAll, iFld, l0, l1, l2, l3, l4, l5, l6, l7, l8, iVal, e1, e2, e3, e4, e5, e6, e7, e8, e9, e12, sN]
 rw [fOne_num _ 70 m.frm 0 4 (by simp [fOk]), fOne_num _ 86 m.view 0 1000000000 (by simp [fOk]), fOne_num _ 79 m.op 0 1000000000 (by simp [fOk]), fOne_num _ 67 m.commit 0 1000000000 (by simp [fOk]), fOne_num _ 78 m.normal 0 1000000000 (by simp [fOk]), fOne_num _ 110 m.nonce 0 1000000000 (by simp [fOk]), fOne_num _ 99 m.client 0 1000000000 (by simp [fOk]), fOne_num _ 114 m.req 1 1000000000 (by simp [fOk]), fOne_num _ 65 m.answer (-1) 1000000000 (by simp [fOk])]
 have hc : iCmd m F = sCmd m S := by unfold iCmd sCmd; rw [e10]
 rw [hc]
 have hkey : numOk (sHas S 118) m.view 0 1000000000 = true → numOk (sHas S 110) m.normal 0 1000000000 = true → sHas S 108 = false → decide (m.normal ≤ m.view) = true := by
  intro hv hm hl
  rw [hn hl] at hm
  simp only [numOk, Bool.false_and, Bool.not_false, Bool.true_and, Bool.false_or, beq_iff_eq] at hm
  have h0 : 0 ≤ m.view := by
   unfold numOk inB at hv
   cases hs : sHas S 118 <;> simp [hs] at hv <;> omega
  simp
  omega
 unfold iLog sLog
 rw [e11]
 generalize numOk (sHas S 102) m.frm 0 4 = b1 at *
 generalize numOk (sHas S 118) m.view 0 1000000000 = b2 at *
 generalize numOk (sHas S 111) m.op 0 1000000000 = b3 at *
 generalize numOk (sHas S 99) m.commit 0 1000000000 = b4 at *
 generalize numOk (sHas S 110) m.normal 0 1000000000 = b5 at *
 generalize numOk (sHas S 107) m.nonce 0 1000000000 = b6 at *
 generalize numOk (sHas S 67) m.client 0 1000000000 = b7 at *
 generalize numOk (sHas S 82) m.req 1 1000000000 = b8 at *
 generalize numOk (sHas S 65) m.answer (-1) 1000000000 = b9 at *
 generalize decide (m.normal ≤ m.view) = d at *
 generalize hasNum m.log m.commit = x at *
 generalize isZ m.log = y at *
 generalize sCmd m S = c at *
 generalize S.toList.isEmpty = z at *
 cases hl : sHas S 108
 ·have hk := fun a b => hkey a b hl
  rw [Bool.eq_iff_iff]
  simp only [Bool.and_eq_true, Bf, if_false]
  constructor
  ·rintro ⟨⟨⟨h0, h1, h2, h3, h4, h5, h6, h7, h8, h9⟩, h10⟩, h11⟩
   exact ⟨h0, h1, h8, h9, h2, h3, h4, h5, h6, h7, ⟨h10, hk h2 h5⟩, h11⟩
  ·rintro ⟨h0, h1, h8, h9, h2, h3, h4, h5, h6, h7, ⟨h10, _⟩, h11⟩
   exact ⟨⟨⟨h0, h1, h2, h3, h4, h5, h6, h7, h8, h9⟩, h10⟩, h11⟩
 ·rw [Bool.eq_iff_iff]
  simp only [Bool.and_eq_true, if_true]
  constructor
  ·rintro ⟨⟨⟨h0, h1, h2, h3, h4, h5, h6, h7, h8, h9⟩, h10⟩, h11, h12⟩
   exact ⟨h0, h1, h8, h9, h2, h3, h4, h5, h6, h7, ⟨h10, h12⟩, h11⟩
  ·rintro ⟨h0, h1, h8, h9, h2, h3, h4, h5, h6, h7, ⟨h10, h12⟩, h11⟩
   exact ⟨⟨⟨h0, h1, h2, h3, h4, h5, h6, h7, h8, h9⟩, h10⟩, h11, h12⟩
def packZ (l : List Int) : List Nat := l.flatMap fun x => putN x.toNat
theorem packZ_append (a b : List Int) : packZ (a ++ b) = packZ a ++ packZ b := by simp [packZ]
theorem packZ_cons (x : Int) (l : List Int) : packZ (x :: l) = putN x.toNat ++ packZ l := rfl
def getZ (b : List Nat) (at_ : Nat) : Option (Int × Nat) := (getA 9 0 (b.drop at_)).map fun p => ((p.1 : Int), at_ + p.2)
def getZs (b : List Nat) : Nat → Nat → Option (List Int × Nat)
 | at_, 0 => some ([], at_)
 | at_, n + 1 => match getZ b at_ with
  | none => none
  | some p => (getZs b p.2 n).map fun q => (p.1 :: q.1, q.2)
theorem drop_add {b : List Nat} {at_ : Nat} {x r : List Nat} (h : b.drop at_ = x ++ r) : b.drop (at_ + x.length) = r := by
 rw [← List.drop_drop, h, List.drop_left]
theorem getZ_put {b : List Nat} {at_ : Nat} {x : Int} {r : List Nat} (h : b.drop at_ = putN x.toNat ++ r) (h0 : 0 ≤ x) (h1 : x < 9223372036854775808) : getZ b at_ = some (x, at_ + (putN x.toNat).length) := by
 unfold getZ
 rw [h, get_put 9 0 x.toNat r (by omega) (.inl ⟨rfl, by omega⟩)]
 simp only [Option.map_some, Option.some.injEq, Prod.mk.injEq, and_true]
 omega
theorem getZ_of {b : List Nat} {at_ : Nat} {x : Int} {e : Nat} (hb : ∀ y ∈ b, y < 256) (h : getZ b at_ = some (x, e)) : b.drop at_ = putN x.toNat ++ b.drop e ∧ 0 ≤ x ∧ x < 9223372036854775808 ∧ at_ < e ∧ e ≤ b.length := by
 unfold getZ at h
 cases hg : getA 9 0 (b.drop at_) with
 | none => rw [hg] at h; cases h
 | some p =>
  rw [hg] at h
  simp only [Option.map_some, Option.some.injEq, Prod.mk.injEq] at h
  obtain ⟨rfl, rfl⟩ := h
  obtain ⟨h1, h2, h3, _, h5⟩ := get_of 9 0 (b.drop at_) p.1 p.2 (fun y hy => hb y (List.mem_of_mem_drop hy)) hg
  rw [List.length_drop] at h1
  refine ⟨?_, by omega, by omega, by omega, by omega⟩
  rw [show ((p.1 : Int)).toNat = p.1 by omega, ← h2, ← List.drop_drop, List.take_append_drop]
theorem getZs_put {b r : List Nat} : ∀ {l : List Int} {at_ : Nat}, b.drop at_ = packZ l ++ r → (∀ x ∈ l, 0 ≤ x ∧ x < 9223372036854775808) → getZs b at_ l.length = some (l, at_ + (packZ l).length)
 | [], at_, _, _ => rfl
 | x :: l, at_, h, hx => by
  rw [packZ_cons, List.append_assoc] at h
  have h1 := getZ_put h (hx x List.mem_cons_self).1 (hx x List.mem_cons_self).2
  have h2 := getZs_put (drop_add h) (fun y hy => hx y (List.mem_cons_of_mem _ hy))
  show getZs b at_ (l.length + 1) = _
  rw [getZs, h1]
  show (getZs b (at_ + (putN x.toNat).length) l.length).map _ = _
  rw [h2, packZ_cons, List.length_append]
  simp [Nat.add_assoc]
theorem getZs_of {b : List Nat} (hb : ∀ y ∈ b, y < 256) : ∀ {n at_ : Nat} {l : List Int} {e : Nat}, getZs b at_ n = some (l, e) → b.drop at_ = packZ l ++ b.drop e ∧ l.length = n ∧ (∀ x ∈ l, 0 ≤ x ∧ x < 9223372036854775808) ∧ at_ ≤ e
 | 0, at_, l, e, h => by
  simp only [getZs, Option.some.injEq, Prod.mk.injEq] at h
  obtain ⟨rfl, rfl⟩ := h
  exact ⟨rfl, rfl, by simp, Nat.le_refl _⟩
 | n + 1, at_, l, e, h => by
  rw [getZs] at h
  cases hz : getZ b at_ with
  | none => rw [hz] at h; cases h
  | some p =>
   rw [hz] at h
   cases hq : getZs b p.2 n with
   | none => simp only [hq] at h; cases h
   | some q =>
    simp only [hq, Option.map_some, Option.some.injEq, Prod.mk.injEq] at h
    obtain ⟨rfl, rfl⟩ := h
    obtain ⟨h1, h2, h3, h4, _⟩ := getZ_of hb (x := p.1) (e := p.2) hz
    obtain ⟨k1, k2, k3, k4⟩ := getZs_of hb (l := q.1) (e := q.2) hq
    refine ⟨by rw [packZ_cons, List.append_assoc, ← k1]; exact h1, by simp [k2], fun x hx => ?_, by omega⟩
    rcases List.mem_cons.1 hx with rfl | hx
    ·exact ⟨h2, h3⟩
    ·exact k3 x hx
def rdRows (b : List Nat) (at_ wide most : Nat) : Option (List Int × Nat) := match getZ b at_ with
 | none => none
 | some p => if (most : Int) < p.1 then none else getZs b p.2 (p.1.toNat * wide)
def toCel : List Int → List Cel
 | a :: b :: r => ⟨a, b⟩ :: toCel r
 | _ => []
def toSea : List Int → List Sea
 | a :: b :: c :: r => ⟨a, b, c - 1⟩ :: toSea r
 | _ => []
def toEnt : List Int → List Ent
 | a :: b :: c :: d :: e :: r => ⟨a, b, c, d, e⟩ :: toEnt r
 | _ => []
def celN (l : List Cel) : List Int := l.flatMap fun c => [c.key, c.value]
def seaN (l : List Sea) : List Int := l.flatMap fun s => [s.client, s.req, s.answer + 1]
def entN (l : List Ent) : List Int := l.flatMap fun e => [e.client, e.req, e.kind, e.key, e.value]
theorem toCel_of : ∀ l : List Cel, toCel (celN l) = l
 | [] => rfl
 | c :: l => by
  show (⟨c.key, c.value⟩ : Cel) :: toCel (celN l) = c :: l
  rw [toCel_of l]
theorem toSea_of : ∀ l : List Sea, toSea (seaN l) = l
 | [] => rfl
 | c :: l => by
  show (⟨c.client, c.req, c.answer + 1 - 1⟩ : Sea) :: toSea (seaN l) = c :: l
  rw [toSea_of l, show c.answer + 1 - 1 = c.answer by omega]
theorem toEnt_of : ∀ l : List Ent, toEnt (entN l) = l
 | [] => rfl
 | c :: l => by
  show (⟨c.client, c.req, c.kind, c.key, c.value⟩ : Ent) :: toEnt (entN l) = c :: l
  rw [toEnt_of l]
theorem celN_len (l : List Cel) : (celN l).length = l.length * 2 := by induction l with | nil => rfl | cons c l ih => show (celN l).length + 2 = _; rw [ih, List.length_cons]; omega
theorem seaN_len (l : List Sea) : (seaN l).length = l.length * 3 := by induction l with | nil => rfl | cons c l ih => show (seaN l).length + 3 = _; rw [ih, List.length_cons]; omega
theorem entN_len (l : List Ent) : (entN l).length = l.length * 5 := by induction l with | nil => rfl | cons c l ih => show (entN l).length + 5 = _; rw [ih, List.length_cons]; omega
theorem celN_to : ∀ (n : Nat) (l : List Int), l.length = n * 2 → celN (toCel l) = l ∧ (toCel l).length = n
 | 0, l, h => by
  obtain rfl : l = [] := List.eq_nil_of_length_eq_zero (by omega)
  exact ⟨rfl, rfl⟩
 | n + 1, l, h => by
  match l, h with
  | a :: b :: r, h =>
   obtain ⟨h1, h2⟩ := celN_to n r (by simp at h; omega)
   exact ⟨by show a :: b :: celN (toCel r) = _; rw [h1], by show (toCel r).length + 1 = _; rw [h2]⟩
  | [_], h => simp at h; omega
  | [], h => simp at h
theorem seaN_to : ∀ (n : Nat) (l : List Int), l.length = n * 3 → seaN (toSea l) = l ∧ (toSea l).length = n
 | 0, l, h => by
  obtain rfl : l = [] := List.eq_nil_of_length_eq_zero (by omega)
  exact ⟨rfl, rfl⟩
 | n + 1, l, h => by
  match l, h with
  | a :: b :: c :: r, h =>
   obtain ⟨h1, h2⟩ := seaN_to n r (by simp at h; omega)
   exact ⟨by show a :: b :: (c - 1 + 1) :: seaN (toSea r) = _; rw [h1, show c - 1 + 1 = c by omega], by show (toSea r).length + 1 = _; rw [h2]⟩
  | [_, _], h => simp at h; omega
  | [_], h => simp at h; omega
  | [], h => simp at h
theorem entN_to : ∀ (n : Nat) (l : List Int), l.length = n * 5 → entN (toEnt l) = l ∧ (toEnt l).length = n
 | 0, l, h => by
  obtain rfl : l = [] := List.eq_nil_of_length_eq_zero (by omega)
  exact ⟨rfl, rfl⟩
 | n + 1, l, h => by
  match l, h with
  | a :: b :: c :: d :: e :: r, h =>
   obtain ⟨h1, h2⟩ := entN_to n r (by simp at h; omega)
   exact ⟨by show a :: b :: c :: d :: e :: entN (toEnt r) = _; rw [h1], by show (toEnt r).length + 1 = _; rw [h2]⟩
  | [_, _, _, _], h => simp at h; omega
  | [_, _, _], h => simp at h; omega
  | [_, _], h => simp at h; omega
  | [_], h => simp at h; omega
  | [], h => simp at h
theorem rdRows_put {b r : List Nat} {l : List Int} {at_ wide most n : Nat} (h : b.drop at_ = putN n ++ (packZ l ++ r)) (hn : n ≤ most) (hm : most < 1000000) (hl : l.length = n * wide) (hx : ∀ x ∈ l, 0 ≤ x ∧ x < 9223372036854775808) :
  rdRows b at_ wide most = some (l, at_ + (putN n).length + (packZ l).length) ∧ b.drop (at_ + (putN n).length + (packZ l).length) = r := by
 have e : ((n : Int)).toNat = n := by omega
 have h1 := getZ_put (x := (n : Int)) (by rw [e]; exact h) (by omega) (by omega)
 have h2 := drop_add h
 have h3 := getZs_put h2 hx
 refine ⟨?_, drop_add h2⟩
 unfold rdRows
 rw [h1, e]
 show (if (most : Int) < (n : Int) then none else getZs b (at_ + (putN n).length) (((n : Int)).toNat * wide)) = _
 rw [if_neg (by omega), e, ← hl, h3]
theorem rdRows_of {b : List Nat} (hb : ∀ y ∈ b, y < 256) {at_ wide most : Nat} {l : List Int} {e : Nat} (h : rdRows b at_ wide most = some (l, e)) : ∃ n, n ≤ most ∧ l.length = n * wide ∧ b.drop at_ = putN n ++ (packZ l ++ b.drop e) ∧ (∀ x ∈ l, 0 ≤ x ∧ x < 9223372036854775808) := by
 unfold rdRows at h
 cases hz : getZ b at_ with
 | none => rw [hz] at h; cases h
 | some p =>
  simp only [hz] at h
  split at h
  ·cases h
  ·obtain ⟨h1, h2, h3, h4, _⟩ := getZ_of hb (x := p.1) (e := p.2) hz
   obtain ⟨k1, k2, k3, k4⟩ := getZs_of hb h
   exact ⟨p.1.toNat, by omega, k2, by rw [← k1]; exact h1, k3⟩
def logNums (l : Lg) : List Int := l.base :: ((l.cells.length : Int) :: celN l.cells ++ ((l.seats.length : Int) :: seaN l.seats ++ ((l.ents.length : Int) :: entN l.ents)))
def rdLog (b : List Nat) (at_ : Nat) : Option (Lg × Nat) := match getZ b at_ with
 | none => none
 | some p => match rdRows b p.2 2 40 with
  | none => none
  | some q => match rdRows b q.2 3 10 with
   | none => none
   | some s => match rdRows b s.2 5 60 with
    | none => none
    | some t => if logOk ⟨p.1, toCel q.1, toSea s.1, toEnt t.1⟩ = true then some (⟨p.1, toCel q.1, toSea s.1, toEnt t.1⟩, t.2) else none
theorem logNums_b {l : Lg} (h : logOk l = true) : ∀ x ∈ logNums l, 0 ≤ x ∧ x ≤ 1000000001 := by
 obtain ⟨hb, hI, h60, hf, hA⟩ := of_decide_eq_true (p := LogOk l) h
 have h2 := imgP_of hI
 have hb2 := (inB_yes _ _ _).1 hb
 have hc40 := h2.c.len
 have hs10 := h2.s.len
 intro x hx
 unfold logNums at hx
 rcases List.mem_cons.1 hx with rfl | hx
 ·omega
 rcases List.mem_append.1 hx with hx | hx
 ·rcases List.mem_cons.1 hx with rfl | hx
  ·simp at hc40; omega
  ·obtain ⟨c, hc, hx⟩ := List.mem_flatMap.1 hx
   have := h2.c.num c hc
   simp only [List.mem_cons, List.not_mem_nil, or_false] at hx
   omega
 ·rcases List.mem_append.1 hx with hx | hx
  ·rcases List.mem_cons.1 hx with rfl | hx
   ·simp at hs10; omega
   ·obtain ⟨c, hc, hx⟩ := List.mem_flatMap.1 hx
    have := h2.s.num c hc
    simp only [List.mem_cons, List.not_mem_nil, or_false] at hx
    omega
  ·rcases List.mem_cons.1 hx with rfl | hx
   ·omega
   ·obtain ⟨c, hc, hx⟩ := List.mem_flatMap.1 hx
    have := ent_b (hA c hc)
    simp only [List.mem_cons, List.not_mem_nil, or_false] at hx
    omega
theorem packZ_logNums (l : Lg) : packZ (logNums l) = putN l.base.toNat ++ ((putN l.cells.length ++ packZ (celN l.cells)) ++ ((putN l.seats.length ++ packZ (seaN l.seats)) ++ (putN l.ents.length ++ packZ (entN l.ents)))) := by
 unfold logNums
 rw [packZ_cons, packZ_append, packZ_append, packZ_cons, packZ_cons, packZ_cons]
 rfl
theorem rdLog_put {b r : List Nat} {l : Lg} {at_ : Nat} (h : b.drop at_ = packZ (logNums l) ++ r) (hok : logOk l = true) :
  rdLog b at_ = some (l, at_ + (packZ (logNums l)).length) ∧ b.drop (at_ + (packZ (logNums l)).length) = r := by
 refine ⟨?_, drop_add h⟩
 have hB := logNums_b hok
 obtain ⟨hb, hI, h60, hf, hA⟩ := of_decide_eq_true (p := LogOk l) hok
 have h2 := imgP_of hI
 have hb2 := (inB_yes _ _ _).1 hb
 have hc40 : l.cells.length ≤ 40 := h2.c.len
 have hs10 : l.seats.length ≤ 10 := h2.s.len
 have hmem : ∀ x, (x ∈ celN l.cells ∨ x ∈ seaN l.seats ∨ x ∈ entN l.ents) → 0 ≤ x ∧ x < 9223372036854775808 := fun x hx => by
  have : x ∈ logNums l := by
   unfold logNums
   rcases hx with hx | hx | hx
   ·exact List.mem_cons_of_mem _ (List.mem_append_left _ (List.mem_cons_of_mem _ hx))
   ·exact List.mem_cons_of_mem _ (List.mem_append_right _ (List.mem_append_left _ (List.mem_cons_of_mem _ hx)))
   ·exact List.mem_cons_of_mem _ (List.mem_append_right _ (List.mem_append_right _ (List.mem_cons_of_mem _ hx)))
  have := hB x this
  omega
 rw [packZ_logNums] at h ⊢
 simp only [List.append_assoc] at h
 have e1 := getZ_put h (by omega) (by omega)
 have k1 := drop_add h
 obtain ⟨e2, k2⟩ := rdRows_put (wide := 2) (most := 40) k1 hc40 (by omega) (celN_len _) (fun x hx => hmem x (.inl hx))
 obtain ⟨e3, k3⟩ := rdRows_put (wide := 3) (most := 10) k2 hs10 (by omega) (seaN_len _) (fun x hx => hmem x (.inr (.inl hx)))
 obtain ⟨e4, k4⟩ := rdRows_put (wide := 5) (most := 60) k3 h60 (by omega) (entN_len _) (fun x hx => hmem x (.inr (.inr hx)))
 unfold rdLog
 rw [e1]
 simp only [e2, e3, e4, toCel_of, toSea_of, toEnt_of]
 rw [if_pos hok]
 simp only [List.length_append, Option.some.injEq, Prod.mk.injEq, true_and]
 omega
theorem rdLog_of {b : List Nat} (hb : ∀ y ∈ b, y < 256) {at_ : Nat} {l : Lg} {e : Nat} (h : rdLog b at_ = some (l, e)) : b.drop at_ = packZ (logNums l) ++ b.drop e ∧ logOk l = true := by
 unfold rdLog at h
 cases hz : getZ b at_ with
 | none => rw [hz] at h; cases h
 | some p =>
  simp only [hz] at h
  cases h1 : rdRows b p.2 2 40 with
  | none => simp only [h1] at h; cases h
  | some q =>
   simp only [h1] at h
   cases h2 : rdRows b q.2 3 10 with
   | none => simp only [h2] at h; cases h
   | some s =>
    simp only [h2] at h
    cases h3 : rdRows b s.2 5 60 with
    | none => simp only [h3] at h; cases h
    | some t =>
     simp only [h3] at h
     split at h
     ·rename_i hok
      simp only [Option.some.injEq, Prod.mk.injEq] at h
      obtain ⟨rfl, rfl⟩ := h
      refine ⟨?_, hok⟩
      obtain ⟨z1, z2, _⟩ := getZ_of hb (x := p.1) (e := p.2) hz
      obtain ⟨n1, _, l1, d1, _⟩ := rdRows_of hb (l := q.1) (e := q.2) h1
      obtain ⟨n2, _, l2, d2, _⟩ := rdRows_of hb (l := s.1) (e := s.2) h2
      obtain ⟨n3, _, l3, d3, _⟩ := rdRows_of hb (l := t.1) (e := t.2) h3
      obtain ⟨c1, c2⟩ := celN_to n1 q.1 l1
      obtain ⟨s1, s2⟩ := seaN_to n2 s.1 l2
      obtain ⟨t1, t2⟩ := entN_to n3 t.1 l3
      rw [packZ_logNums]
      simp only [c1, c2, s1, s2, t1, t2, List.append_assoc]
      rw [← d3, ← d2, ← d1]
      exact z1
     ·cases h
def zEnc (x : Int) : List Value := [.int .i64 x]
theorem zEnc_len (x : Int) : (zEnc x).length = 1 := rfl
theorem zEnc_one (x : Int) : ∀ u ∈ zEnc x, u.oneCell' = true := by
 intro u hu
 simp only [zEnc, Mi] at hu
 subst hu
 rfl
theorem Try.infoZ : (Try.prog.info? 3).map (fun i => (i.zero, i.size, i.bytes)) = some (some (.int .i64 0), 1, 8) := by kernel_rfl
theorem Rd.atZ {w : World} {A : Option Addr} {c : Nat} {l : List Int} (h : Rd zEnc 1 w A c l) {k : Nat} (hk : k < l.length) : ∃ b o, A = some ⟨b, o, none⟩ ∧ b < w.heap.size ∧ w.cell? ⟨b, o + k, none⟩ = some (.int .i64 l[k]) := by
 obtain ⟨b, o, e, hlt, hc⟩ := h.2.2 (by omega)
 exact ⟨b, o, e, hlt, by simpa using hc k hk 0 _ rfl⟩
theorem Rd.atB {w : World} {A : Option Addr} {c : Nat} {l : List Nat} (h : Rd bEnc 1 w A c l) {k : Nat} (hk : k < l.length) : ∃ b o, A = some ⟨b, o, none⟩ ∧ b < w.heap.size ∧ w.cell? ⟨b, o + k, none⟩ = some (.int .u8 l[k]) := by
 obtain ⟨b, o, e, hlt, hc⟩ := h.2.2 (by omega)
 exact ⟨b, o, e, hlt, by simpa using hc k hk 0 _ rfl⟩
def Nn (l : List Int) : Prop := ∀ x ∈ l, 0 ≤ x ∧ x < 9223372036854775808
theorem packZ_len9 {l : List Int} (h : Nn l) : (packZ l).length ≤ 9 * l.length := by
 induction l with
 | nil => simp [packZ]
 | cons x l ih =>
  rw [packZ_cons, List.length_append, List.length_cons]
  have h1 := putN_len9 (x := x.toNat) (by have := h x List.mem_cons_self; omega)
  have h2 := ih (fun y hy => h y (List.mem_cons_of_mem _ hy))
  omega
theorem packZ_next {l : List Int} {k : Nat} (hk : k < l.length) : packZ (l.take (k + 1)) = packZ (l.take k) ++ putN l[k].toNat := by
 rw [List.take_succ_eq_append_getElem hk, packZ_append]
 simp [packZ]
theorem Nn.take {l : List Int} (h : Nn l) (k : Nat) : Nn (l.take k) := fun x hx => h x (List.mem_of_mem_take hx)
set_option maxRecDepth 100000 in
set_option maxHeartbeats 4000000 in
theorem c_sPutNums (A : Option Addr) (c : Nat) (l : List Int) (w : World) (hr : Rd zEnc 1 w A c l) (hz : Nn l) (hn : l.length ≤ 1048576) : Calls Try.prog 30 #[.slice A l.length c] w fun e w' => (∃ A' c', e = .returned (.slice A' (packZ l).length c') ∧ Ow bEnc 5 1 w' w.heap.size (.slice A' (packZ l).length c') (packZ l)) ∧ Ext w w' := by
 obtain ⟨i0, hi, hz0, hz1, hz2⟩ := info_parts Try.infoU8
 have HR := Hd hr
 have HZ := Hd hz
 clear hr hz
 go_enter Try.func30, Try.ntmps30
 go_wp2
 go_loopw [3, 4] (fun o i wr => ∃ k : Nat, k ≤ l.length ∧ i = .int .i64 k ∧ Ow bEnc 5 1 wr w.heap.size o (packZ (l.take k)) ∧ Ext w wr) (fun _ i _ => l.length - (intOf i).toNat)
 case atStart => exact ⟨0, Nat.zero_le _, rfl, own_empty (hNew rfl) (Nat.le_refl _), ext_alloc _ _⟩
 case round =>
  obtain ⟨k, hk, rfl, ho, X⟩ := hrel
  obtain ⟨Ao, co, rfl⟩ := ho.form
  have HO := Hd ho
  have hs := X.size
  have hpl : (packZ (l.take k)).length ≤ 9437184 := by
   have h1 := packZ_len9 (HZ.out.take k)
   rw [List.length_take] at h1
   omega
  clear ho
  by_cases hlt : k < l.length
  ·obtain ⟨zb, zo, hA, hzb, z0⟩ := (HR.out.keep X).atZ hlt
   subst hA
   obtain ⟨hx0, hx1⟩ := HZ.out l[k] (List.getElem_mem hlt)
   obtain ⟨y, hy⟩ : ∃ y : Nat, l[k] = (y : Int) := ⟨l[k].toNat, by omega⟩
   have HN := Hd (packZ_next hlt)
   rw [hy] at z0 HN
   rw [show ((y : Int)).toNat = y by omega] at HN
   have hneg : decide ((y : Int) < 0) = false := by simp
   clear hx0
   go_wp2_with fail
   refine (c_sPutNum y (by omega) wr).mono ?_
   rintro e w2 ⟨⟨A2, c2, rfl, o2⟩, x2⟩
   have h9 := putN_len9 (x := y) (by omega)
   have HO2 := Hd (o2.rd bEnc_len).2
   have HP := Hd (HO.out.kept x2)
   have X2 := Ext.trans X x2
   have hs2 := X2.size
   clear o2 x2 X HO z0
   generalize hP : packZ (l.take k) = P at HP HN hpl ⊢
   generalize hQ : putN y = Q at HO2 HN h9 ⊢
   go_wp2_with (at_builtin; refine wl_app (enc := bEnc) rfl _ _ 34 rfl w.heap.size 5 i0 (.int .u8 0) 1 1 Try.underlying34 hi hz0 hz1 hz2 rfl (by decide) bEnc_len bEnc_one (.slice Ao P.length co) P rfl HP.out A2 c2 Q Q.length rfl rfl HO2.out (by unfold maxLen; omega) (by omega) (by omega) ?_)
   intro v' w4 ho4 hg4
   have X4 := ext_app2 X2 hg4 HP.out (Nat.le_refl _)
   clear hg4 HP HO2
   go_wp2
   go_roundw
   case rel => exact ⟨k + 1, by omega, by go_num, by rw [HN.out]; exact ho4, X4⟩
   case measure => simp [intOf] <;> omega
  ·obtain rfl : k = l.length := by omega
   rw [List.take_length] at HO ⊢
   go_wp2
   go_ret
   exact ⟨⟨Ao, co, rfl, HO.out⟩, X⟩
set_option maxRecDepth 100000 in
set_option maxHeartbeats 4000000 in
theorem c_iPutNums (A : Option Addr) (c : Nat) (l : List Int) (w : World) (hr : Rd zEnc 1 w A c l) (hz : Nn l) (hn : l.length ≤ 1048576) : Calls Try.prog 38 #[.slice A l.length c] w fun e w' => (∃ A' c', e = .returned (.slice A' (packZ l).length c') ∧ Ow bEnc 5 1 w' w.heap.size (.slice A' (packZ l).length c') (packZ l)) ∧ Ext w w' := by
 obtain ⟨i0, hi, hz0, hz1, hz2⟩ := info_parts Try.infoU8
 have HR := Hd hr
 have HZ := Hd hz
 clear hr hz
 go_enter Try.func38, Try.ntmps38
 go_wp2
 go_loopw [3, 5, 9] (fun o x i wr => ∃ k : Nat, k ≤ l.length ∧ i = .int .i64 k ∧ Ow bEnc 5 1 wr w.heap.size o (packZ (l.take k)) ∧ Ext w wr) (fun _ _ i _ => l.length - (intOf i).toNat)
 case atStart => exact ⟨0, Nat.zero_le _, rfl, own_empty (hNew rfl) (Nat.le_refl _), ext_alloc _ _⟩
 case round =>
  obtain ⟨k, hk, rfl, ho, X⟩ := hrel
  obtain ⟨Ao, co, rfl⟩ := ho.form
  have HO := Hd ho
  have hs := X.size
  have hpl : (packZ (l.take k)).length ≤ 9437184 := by
   have h1 := packZ_len9 (HZ.out.take k)
   rw [List.length_take] at h1
   omega
  clear ho
  by_cases hlt : k < l.length
  ·obtain ⟨zb, zo, hA, hzb, z0⟩ := (HR.out.keep X).atZ hlt
   subst hA
   obtain ⟨hx0, hx1⟩ := HZ.out l[k] (List.getElem_mem hlt)
   obtain ⟨y, hy⟩ : ∃ y : Nat, l[k] = (y : Int) := ⟨l[k].toNat, by omega⟩
   have HN := Hd (packZ_next hlt)
   rw [hy] at z0 HN
   rw [show ((y : Int)).toNat = y by omega] at HN
   have hneg : decide ((y : Int) < 0) = false := by simp
   clear hx0
   go_wp2_with fail
   refine (c_iPutNum y (by omega) wr).mono ?_
   rintro e w2 ⟨⟨A2, c2, rfl, o2⟩, x2⟩
   have h9 := putN_len9 (x := y) (by omega)
   have HO2 := Hd (o2.rd bEnc_len).2
   have HP := Hd (HO.out.kept x2)
   have X2 := Ext.trans X x2
   have hs2 := X2.size
   clear o2 x2 X HO z0
   generalize hP : packZ (l.take k) = P at HP HN hpl ⊢
   generalize hQ : putN y = Q at HO2 HN h9 ⊢
   go_wp2_with (at_builtin; refine wl_app (enc := bEnc) rfl _ _ 34 rfl w.heap.size 5 i0 (.int .u8 0) 1 1 Try.underlying34 hi hz0 hz1 hz2 rfl (by decide) bEnc_len bEnc_one (.slice Ao P.length co) P rfl HP.out A2 c2 Q Q.length rfl rfl HO2.out (by unfold maxLen; omega) (by omega) (by omega) ?_)
   intro v' w4 ho4 hg4
   have X4 := ext_app2 X2 hg4 HP.out (Nat.le_refl _)
   clear hg4 HP HO2
   go_wp2
   go_roundw
   case rel => exact ⟨k + 1, by omega, by go_num, by rw [HN.out]; exact ho4, X4⟩
   case measure => simp [intOf] <;> omega
  ·obtain rfl : k = l.length := by omega
   rw [List.take_length] at HO ⊢
   go_wp2
   go_ret
   exact ⟨⟨Ao, co, rfl, HO.out⟩, X⟩
theorem of_nat (n a : Nat) (h : a < 2 ^ n) : (BitVec.ofInt n (a : Int)).toNat = a := by
 rw [BitVec.ofInt_natCast, BitVec.toNat_ofNat]; exact Nat.mod_eq_of_lt h
theorem bx64 (a b : Nat) (ha : a < 4294967296) (hb : b < 4294967296) : bits .xor .i64 (a : Int) (b : Int) = ((a ^^^ b : Nat) : Int) := by
 have hx : a ^^^ b < 2 ^ 32 := Nat.xor_lt_two_pow (by omega) (by omega)
 show IntKind.i64.wrap ((BitVec.ofInt 64 (a : Int) ^^^ BitVec.ofInt 64 (b : Int)).toNat : Int) = _
 rw [BitVec.toNat_xor, of_nat 64 a (by omega), of_nat 64 b (by omega), IntKind.wrap_i64]
 omega
theorem wrap_u32n (a : Nat) (h : a < 4294967296) : IntKind.u32.wrap (a : Int) = (a : Int) := by
 simp [IntKind.wrap, IntKind.bits, IntKind.signed]
 omega
theorem bx32 (a b : Nat) (ha : a < 4294967296) (hb : b < 4294967296) : bits .xor .u32 (a : Int) (b : Int) = ((a ^^^ b : Nat) : Int) := by
 have hx : a ^^^ b < 2 ^ 32 := Nat.xor_lt_two_pow (by omega) (by omega)
 show IntKind.u32.wrap ((BitVec.ofInt 32 (a : Int) ^^^ BitVec.ofInt 32 (b : Int)).toNat : Int) = _
 rw [BitVec.toNat_xor, of_nat 32 a (by omega), of_nat 32 b (by omega), wrap_u32n _ (by omega)]
theorem ba32 (a : Nat) (ha : a < 4294967296) : bits .and .u32 (a : Int) 1 = ((a % 2 : Nat) : Int) := by
 have hx : a &&& 1 = a % 2 := Nat.and_one_is_mod a
 show IntKind.u32.wrap ((BitVec.ofInt 32 (a : Int) &&& BitVec.ofInt 32 ((1 : Nat) : Int)).toNat : Int) = _
 rw [BitVec.toNat_and, of_nat 32 a (by omega), of_nat 32 1 (by omega), hx, wrap_u32n _ (by omega)]
theorem crcI_next {j r : Nat} (h : j < 8) : crcI (8 - j) r = crcI (8 - (j + 1)) (crcS r) := by
 obtain ⟨m, hm⟩ : ∃ m, 8 - j = m + 1 := ⟨7 - j, by omega⟩
 rw [hm, show 8 - (j + 1) = m by omega]
 rfl
theorem crcL_next {l : List Nat} {k r : Nat} (hk : k < l.length) : crcL (l.drop k) r = crcL (l.drop (k + 1)) (crcB r l[k]) := by
 rw [List.drop_eq_getElem_cons hk]
 rfl
def Byt (l : List Nat) : Prop := ∀ x ∈ l, x < 256
set_option maxRecDepth 100000 in
set_option maxHeartbeats 4000000 in
theorem c_sCrc (A : Option Addr) (c : Nat) (l : List Nat) (w : World) (hr : Rd bEnc 1 w A c l) (hb : Byt l) (hn : l.length ≤ 1048576) : Calls Try.prog 71 #[.slice A l.length c] w fun e w' => e = .returned (.int .i64 (crc l)) ∧ Ext w w' := by
 have HR := Hd hr
 have HB := Hd hb
 clear hr hb
 go_enter Try.func71, Try.ntmps71
 go_wp2
 go_loop [3, 4] (fun n i => ∃ k r : Nat, k ≤ l.length ∧ i = .int .i64 k ∧ n = .int .i64 r ∧ r < 4294967296 ∧ Hid (crcL (l.drop k) r = crcL l 4294967295)) (fun _ i => l.length - (intOf i).toNat)
 case atStart => exact ⟨0, 4294967295, Nat.zero_le _, rfl, rfl, by omega, Hd rfl⟩
 case round =>
  obtain ⟨k, r, hk, rfl, rfl, hr32, HC⟩ := hrel
  by_cases hlt : k < l.length
  ·obtain ⟨zb, zo, hA, hzb, z0⟩ := HR.out.atB hlt
   subst hA
   have hx := HB.out l[k] (List.getElem_mem hlt)
   obtain ⟨x, hxe⟩ : ∃ x, l[k] = x := ⟨_, rfl⟩
   have HN := Hd (crcL_next (r := r) hlt)
   rw [hxe] at z0 hx HN
   have hw0 : IntKind.i64.wrap (x : Int) = (x : Int) := by rw [IntKind.wrap_i64]; omega
   have hx0 := bx64 r x hr32 (by omega)
   have hq : r ^^^ x < 4294967296 := Nat.xor_lt_two_pow (n := 32) (by omega) (by omega)
   obtain ⟨q, hqe⟩ : ∃ q, r ^^^ x = q := ⟨_, rfl⟩
   have HQ := Hd (show crcI 8 q = crcB r x by rw [← hqe]; rfl)
   rw [hqe] at hx0 hq
   clear hqe hxe
   go_wp2
   go_loop [3, 5] (fun n i => ∃ j s : Nat, j ≤ 8 ∧ i = .int .i64 j ∧ n = .int .i64 s ∧ s < 4294967296 ∧ Hid (crcI (8 - j) s = crcB r x)) (fun _ i => 8 - (intOf i).toNat)
   case atStart => exact ⟨0, q, by omega, rfl, rfl, hq, HQ⟩
   case round =>
    clear z0 hw0 hx0
    obtain ⟨j, s, hj, rfl, rfl, hs32, HS⟩ := hrel
    by_cases hjt : j < 8
    ·have HJ := Hd (crcI_next (r := s) hjt)
     have hcs := crcS_lt hs32
     by_cases ho : s % 2 = 1
     ·have hodd : (((s : Int) % 2) == 1) = true := by simp; omega
      have hx2 : bits .xor .i64 ((s : Int) / 2) 3988292384 = ((crcS s : Nat) : Int) := by
       rw [show ((s : Int) / 2) = ((s / 2 : Nat) : Int) by omega]
       unfold crcS
       rw [if_pos ho]
       exact bx64 (s / 2) 3988292384 (by omega) (by omega)
      go_wp2
      go_round
      case rel => exact ⟨j + 1, crcS s, by omega, by go_num, rfl, hcs, by rw [← HJ.out]; exact HS⟩
      case measure => simp [intOf] <;> omega
     ·have hodd : (((s : Int) % 2) == 1) = false := by simp; omega
      have hx2 : ((s : Int) / 2) = ((crcS s : Nat) : Int) := by
       unfold crcS
       rw [if_neg ho]
       omega
      go_wp2
      go_round
      case rel => exact ⟨j + 1, crcS s, by omega, by go_num, by go_num, hcs, by rw [← HJ.out]; exact HS⟩
      case measure => simp [intOf] <;> omega
    ·obtain rfl : j = 8 := by omega
     have hse : s = crcB r x := HS.out
     go_wp2
     go_round
     case rel => exact ⟨k + 1, s, by omega, by go_num, rfl, hs32, Hd (by rw [← HC.out, HN.out, hse])⟩
     case measure => simp [intOf] <;> omega
  ·obtain rfl : k = l.length := by omega
   have hend : r = crcL l 4294967295 := by
    have := HC.out
    rw [List.drop_length] at this
    exact this
   have hx3 : bits .xor .i64 (r : Int) 4294967295 = ((crc l : Nat) : Int) := by
    unfold crc
    rw [← hend]
    exact bx64 r 4294967295 hr32 (by omega)
   clear hend
   go_wp2
   go_ret
   exact ⟨rfl, ext_refl _⟩
set_option maxRecDepth 100000 in
set_option maxHeartbeats 4000000 in
theorem c_iCrc (A : Option Addr) (c : Nat) (l : List Nat) (w : World) (hr : Rd bEnc 1 w A c l) (hb : Byt l) (hn : l.length ≤ 1048576) : Calls Try.prog 81 #[.slice A l.length c] w fun e w' => e = .returned (.int .i64 (crc l)) ∧ Ext w w' := by
 have HR := Hd hr
 have HB := Hd hb
 clear hr hb
 go_enter Try.func81, Try.ntmps81
 go_wp2
 go_loop [3, 5, 6, 9] (fun n _ _ i => ∃ k r : Nat, k ≤ l.length ∧ i = .int .i64 k ∧ n = .int .u32 r ∧ r < 4294967296 ∧ Hid (crcL (l.drop k) r = crcL l 4294967295)) (fun _ _ _ i => l.length - (intOf i).toNat)
 case atStart => exact ⟨0, 4294967295, Nat.zero_le _, rfl, rfl, by omega, Hd rfl⟩
 case round =>
  obtain ⟨k, r, hk, rfl, rfl, hr32, HC⟩ := hrel
  by_cases hlt : k < l.length
  ·obtain ⟨zb, zo, hA, hzb, z0⟩ := HR.out.atB hlt
   subst hA
   have hx := HB.out l[k] (List.getElem_mem hlt)
   obtain ⟨x, hxe⟩ : ∃ x, l[k] = x := ⟨_, rfl⟩
   have HN := Hd (crcL_next (r := r) hlt)
   rw [hxe] at z0 hx HN
   have hw0 : IntKind.u32.wrap (x : Int) = (x : Int) := wrap_u32n x (by omega)
   have hx0 := bx32 r x hr32 (by omega)
   have hq : r ^^^ x < 4294967296 := Nat.xor_lt_two_pow (n := 32) (by omega) (by omega)
   obtain ⟨q, hqe⟩ : ∃ q, r ^^^ x = q := ⟨_, rfl⟩
   have HQ := Hd (show crcI 8 q = crcB r x by rw [← hqe]; rfl)
   rw [hqe] at hx0 hq
   clear hqe hxe
   go_wp2
   go_loop [3, 6, 17] (fun n _ i => ∃ j s : Nat, j ≤ 8 ∧ i = .int .i64 j ∧ n = .int .u32 s ∧ s < 4294967296 ∧ Hid (crcI (8 - j) s = crcB r x)) (fun _ _ i => 8 - (intOf i).toNat)
   case atStart => exact ⟨0, q, by omega, rfl, rfl, hq, HQ⟩
   case round =>
    clear z0 hw0 hx0
    obtain ⟨j, s, hj, rfl, rfl, hs32, HS⟩ := hrel
    by_cases hjt : j < 8
    ·have HJ := Hd (crcI_next (r := s) hjt)
     have hcs := crcS_lt hs32
     have hand := ba32 s hs32
     by_cases ho : s % 2 = 1
     ·have ho2 : ((s % 2 : Nat) : Int) = 1 := by omega
      rw [ho2] at hand
      have hx2 : bits .xor .u32 ((s : Int) / 2) 3988292384 = ((crcS s : Nat) : Int) := by
       rw [show ((s : Int) / 2) = ((s / 2 : Nat) : Int) by omega]
       unfold crcS
       rw [if_pos ho]
       exact bx32 (s / 2) 3988292384 (by omega) (by omega)
      clear ho2
      go_wp2
      go_round
      case rel => exact ⟨j + 1, crcS s, by omega, by go_num, rfl, hcs, by rw [← HJ.out]; exact HS⟩
      case measure => simp [intOf] <;> omega
     ·have ho2 : ((s % 2 : Nat) : Int) = 0 := by omega
      rw [ho2] at hand
      have hx2 : ((s : Int) / 2) = ((crcS s : Nat) : Int) := by
       unfold crcS
       rw [if_neg ho]
       omega
      clear ho2
      go_wp2
      go_round
      case rel => exact ⟨j + 1, crcS s, by omega, by go_num, by go_num, hcs, by rw [← HJ.out]; exact HS⟩
      case measure => simp [intOf] <;> omega
    ·obtain rfl : j = 8 := by omega
     have hse : s = crcB r x := HS.out
     go_wp2
     go_round
     case rel => exact ⟨k + 1, s, by omega, by go_num, rfl, hs32, Hd (by rw [← HC.out, HN.out, hse])⟩
     case measure => simp [intOf] <;> omega
  ·obtain rfl : k = l.length := by omega
   have hend : r = crcL l 4294967295 := by
    have := HC.out
    rw [List.drop_length] at this
    exact this
   have hcl := crc_lt HB.out
   have hx3 : bits .xor .u32 IntKind.u32.max (r : Int) = ((crc l : Nat) : Int) := by
    unfold crc
    rw [← hend, Nat.xor_comm]
    exact bx32 4294967295 r (by omega) hr32
   have hx4 : wrap64 ((crc l : Nat) : Int) = ((crc l : Nat) : Int) := by unfold wrap64; omega
   clear hend
   go_wp2
   go_ret
   exact ⟨rfl, ext_refl _⟩
end Go.Proofs.Ytpghedeghoegmaa
