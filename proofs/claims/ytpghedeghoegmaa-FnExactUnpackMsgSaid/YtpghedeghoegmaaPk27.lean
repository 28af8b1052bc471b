/- Messages as bytes, both ways: plain lists, no program in sight. -/
import Derived.Test.YtpghedeghoegmaaPk19
namespace Go.Proofs.Ytpghedeghoegmaa
open Go.ChangeShapes Go.WideShapes Go.ChangeAt Go.RowKit Go.Sort
set_option linter.unusedVariables false
set_option linter.unusedSimpArgs false

/-- the letters of a kind -/
def formL (k : Int) : List Nat := if k = 1 then [99, 114, 120] else if k = 2 then [70, 86, 79, 67, 99, 114, 120] else if k = 3 ∨ k = 10 then [70, 86, 79] else if k = 4 then [70, 86, 67] else if k = 5 then [70, 86] else if k = 6 then [70, 86, 78, 67, 76] else if k = 7 ∨ k = 11 then [70, 86, 67, 76] else if k = 8 then [70, 110] else if k = 9 then [70, 86, 110, 67, 76] else if k = 12 then [86, 99, 114, 65] else []
def setF (m : Mg) (b : Nat) (x : Int) : Mg :=
  if b = 70 then ⟨m.kind, x, m.view, m.op, m.commit, m.normal, m.nonce, m.client, m.req, m.answer, m.ck, m.cx, m.cv, m.log⟩
  else if b = 86 then ⟨m.kind, m.frm, x, m.op, m.commit, m.normal, m.nonce, m.client, m.req, m.answer, m.ck, m.cx, m.cv, m.log⟩
  else if b = 79 then ⟨m.kind, m.frm, m.view, x, m.commit, m.normal, m.nonce, m.client, m.req, m.answer, m.ck, m.cx, m.cv, m.log⟩
  else if b = 67 then ⟨m.kind, m.frm, m.view, m.op, x, m.normal, m.nonce, m.client, m.req, m.answer, m.ck, m.cx, m.cv, m.log⟩
  else if b = 78 then ⟨m.kind, m.frm, m.view, m.op, m.commit, x, m.nonce, m.client, m.req, m.answer, m.ck, m.cx, m.cv, m.log⟩
  else if b = 110 then ⟨m.kind, m.frm, m.view, m.op, m.commit, m.normal, x, m.client, m.req, m.answer, m.ck, m.cx, m.cv, m.log⟩
  else if b = 99 then ⟨m.kind, m.frm, m.view, m.op, m.commit, m.normal, m.nonce, x, m.req, m.answer, m.ck, m.cx, m.cv, m.log⟩
  else if b = 114 then ⟨m.kind, m.frm, m.view, m.op, m.commit, m.normal, m.nonce, m.client, x, m.answer, m.ck, m.cx, m.cv, m.log⟩
  else if b = 65 then ⟨m.kind, m.frm, m.view, m.op, m.commit, m.normal, m.nonce, m.client, m.req, x - 1, m.ck, m.cx, m.cv, m.log⟩
  else m
def getF (m : Mg) (b : Nat) : Int :=
  if b = 70 then m.frm else if b = 86 then m.view else if b = 79 then m.op else if b = 67 then m.commit else if b = 78 then m.normal else if b = 110 then m.nonce else if b = 99 then m.client else if b = 114 then m.req else if b = 65 then m.answer + 1 else 0
abbrev Mg.wCmd (m : Mg) (x y z : Int) : Mg := ⟨m.kind, m.frm, m.view, m.op, m.commit, m.normal, m.nonce, m.client, m.req, m.answer, x, y, z, m.log⟩
abbrev Mg.wLog (m : Mg) (l : Lg) : Mg := ⟨m.kind, m.frm, m.view, m.op, m.commit, m.normal, m.nonce, m.client, m.req, m.answer, m.ck, m.cx, m.cv, l⟩
/-- the numbers of a letter -/
def fNums (m : Mg) (b : Nat) : List Int := if b = 120 then [m.ck, m.cx, m.cv] else if b = 76 then logNums m.log else [getF m b]
def msgNums (m : Mg) : List Int := m.kind :: (formL m.kind).flatMap (fNums m)
def numIn (x : Int) : Bool := decide (x ≤ 1000000001)
def rdFld (b : List Nat) (ch at_ : Nat) (m : Mg) : Option (Mg × Nat) :=
  if ch = 120 then match getZs b at_ 3 with
    | some ([x, y, z], e) => if (numIn x && (numIn y && numIn z)) = true then some (m.wCmd x y z, e) else none
    | _ => none
  else if ch = 76 then (rdLog b at_).map fun p => (m.wLog p.1, p.2)
  else match getZ b at_ with
    | none => none
    | some p => if numIn p.1 = true then some (setF m ch p.1, p.2) else none
def rdFlds (b : List Nat) : List Nat → Nat → Mg → Option (Mg × Nat)
  | [], at_, m => some (m, at_)
  | ch :: r, at_, m => match rdFld b ch at_ m with
    | none => none
    | some p => rdFlds b r p.2 p.1
def Mg.z : Mg := ⟨0, 0, 0, 0, 0, 0, 0, 0, 0, 0, 0, 0, 0, Lg.none⟩
abbrev Mg.ofKind (k : Int) : Mg := ⟨k, 0, 0, 0, 0, 0, 0, 0, 0, 0, 0, 0, 0, Lg.none⟩
/-- a message is read from what a frame holds: the message and the code -/
def rdBody (b : List Nat) : Mg × Int := match getZ b 0 with
  | none => (Mg.z, 2)
  | some p => if formL p.1 = [] then (Mg.z, 2) else match rdFlds b (formL p.1) p.2 (Mg.ofKind p.1) with
    | none => (Mg.z, 3)
    | some q => if q.2 < b.length then (Mg.z, 4) else if iFits q.1 = true then (q.1, 0) else (Mg.z, 5)
/-- a field as it is in m -/
def cpF (m m0 : Mg) (ch : Nat) : Mg := if ch = 120 then m0.wCmd m.ck m.cx m.cv else if ch = 76 then m0.wLog m.log else setF m0 ch (getF m ch)
def letter (c : Nat) : Prop := c = 120 ∨ c = 76 ∨ c = 70 ∨ c = 86 ∨ c = 79 ∨ c = 67 ∨ c = 78 ∨ c = 110 ∨ c = 99 ∨ c = 114 ∨ c = 65
end Go.Proofs.Ytpghedeghoegmaa

/- A message that fits is read from its bytes as it was: plain lists, no program in sight. -/
namespace Go.Proofs.Ytpghedeghoegmaa
open Go.ChangeShapes Go.WideShapes Go.ChangeAt Go.RowKit Go.Sort
set_option linter.unusedVariables false
set_option linter.unusedSimpArgs false

/-- what a message that fits is -/
structure FitW (m : Mg) : Prop where
  nums : ∀ x ∈ msgNums m, 0 ≤ x ∧ x ≤ 1000000001
  log : 76 ∈ formL m.kind → logOk m.log = true
  all : (formL m.kind).foldl (cpF m) (Mg.ofKind m.kind) = m
  some : formL m.kind ≠ []
  len : (msgNums m).length ≤ 800
end Go.Proofs.Ytpghedeghoegmaa

/- Frames: read, written, spoilt: plain lists, no program in sight. -/
namespace Go.Proofs.Ytpghedeghoegmaa
open Go.ChangeShapes Go.WideShapes Go.ChangeAt Go.RowKit Go.Sort
set_option linter.unusedVariables false
set_option linter.unusedSimpArgs false

/-- a frame is read from the beginning: what it holds, where it ends, the code -/
def unfr (b : List Nat) : List Nat × Nat × Int := match getZ b 0 with
  | none => ([], 0, 1)
  | some p => if (4000 : Int) < p.1 then ([], 0, 1)
    else if (b.length : Int) - p.2 < p.1 + 4 then ([], 0, 2)
    else if ((b.drop (p.2 + p.1.toNat)).take 4 == le4 (crc ((b.drop p.2).take p.1.toNat))) = true then ((b.drop p.2).take p.1.toNat, p.2 + p.1.toNat + 4, 0)
    else ([], 0, 3)
def unpackM (b : List Nat) : Mg × Int := if ((unfr b).2.2 == 0 && ((unfr b).2.1 == b.length)) = true then rdBody (unfr b).1 else (Mg.z, 1)
theorem le4_len (n : Nat) : (le4 n).length = 4 := rfl
theorem unfr_of {b body : List Nat} (hb : ∀ y ∈ b, y < 256) (h : unfr b = (body, b.length, 0)) : b = frame body ∧ body.length ≤ 4000 := by
  unfold unfr at h
  cases hz : getZ b 0 with
  | none => rw [hz] at h; simp at h
  | some p =>
    rw [hz] at h
    simp only at h
    split at h
    · simp at h
    · rename_i h40
      split at h
      · simp at h
      · rename_i hsh
        split at h
        · rename_i hcr
          simp only [Prod.mk.injEq, and_true] at h
          obtain ⟨rfl, he⟩ := h
          obtain ⟨z1, z2, z3, z4, z5⟩ := getZ_of hb (x := p.1) (e := p.2) hz
          rw [List.drop_zero] at z1
          have hc := beq_iff_eq.1 hcr
          have hlb : ((b.drop p.2).take p.1.toNat).length = p.1.toNat := by rw [List.length_take, List.length_drop]; omega
          refine ⟨?_, by omega⟩
          unfold frame
          rw [hlb, ← hc]
          have e4 : (b.drop (p.2 + p.1.toNat)).take 4 = b.drop (p.2 + p.1.toNat) := List.take_of_length_le (by rw [List.length_drop]; omega)
          rw [e4, ← List.drop_drop, List.take_append_drop]
          exact z1
        · simp at h
end Go.Proofs.Ytpghedeghoegmaa

