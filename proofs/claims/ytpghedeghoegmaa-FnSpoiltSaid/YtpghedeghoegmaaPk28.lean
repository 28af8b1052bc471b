/- Messages as bytes, both ways: plain lists, no program in sight. -/
import Derived.Test.YtpghedeghoegmaaPk24
namespace Go.Proofs.Ytpghedeghoegmaa
open Go.ChangeShapes Go.WideShapes Go.ChangeAt Go.RowKit Go.Sort
set_option linter.unusedVariables false
set_option linter.unusedSimpArgs false
def formL (k : Int) : List Nat := if k = 1 then [99, 114, 120] else if k = 2 then [70, 86, 79, 67, 99, 114, 120] else if k = 3 ∨ k = 10 then [70, 86, 79] else if k = 4 then [70, 86, 67] else if k = 5 then [70, 86] else if k = 6 then [70, 86, 78, 67, 76] else if k = 7 ∨ k = 11 then [70, 86, 67, 76] else if k = 8 then [70, 110] else if k = 9 then [70, 86, 110, 67, 76] else if k = 12 then [86, 99, 114, 65] else []
def setF (m : Mg) (b : Nat) (x : Int) : Mg :=
 if b = 70 then ⟨m.kind, x, m.view, m.op, m.commit, m.normal, m.nonce, m.client, m.req, m.answer, m.ck, m.cx, m.cv, m.log⟩
 else if b = 86 then ⟨m.kind, m.frm, x, m.op, m.commit, m.normal, m.nonce, m.client, m.req, m.answer, m.ck, m.cx, m.cv, m.log⟩
 else if b = 79 then ⟨m.kind, m.frm, m.view, x, m.commit, m.normal, m.nonce, m.client, m.req, m.answer, m.ck, m.cx, m.cv, m.log⟩
 else if b = 67 then ⟨m.kind, m.frm, m.view, m.op, x, m.normal, m.nonce, m.client, m.req, m.answer, m.ck, m.cx, m.cv, m.log⟩
 else if b = 78 then ⟨m.kind, m.frm, m.view, m.op, m.commit, x, m.nonce, m.client, m.req, m.answer, m.ck, m.cx, m.cv, m.log⟩
 else if b = 110 then ⟨m.kind, m.frm, m.view, m.op, m.commit, m.normal, x, m.client, m.req, m.answer, m.ck, m.cx, m.cv, m.log⟩
 else if b = 99 then ⟨m.kind, m.frm, m.view, m.op, m.commit, m.normal, m.nonce, x, m.req, m.answer, m.ck, m.cx, m.cv, m.log⟩
 else if b = 114 then ⟨m.kind, m.frm, m.view, m.op, m.commit, m.normal, m.nonce, m.client, x, m.answer, m.ck, m.cx, m.cv, m.log⟩
 else if b = 65 then ⟨m.kind, m.frm, m.view, m.op, m.commit, m.normal, m.nonce, m.client, m.req, x - 1, m.ck, m.cx, m.cv, m.log⟩
 else m
def getF (m : Mg) (b : Nat) : Int :=
 if b = 70 then m.frm else if b = 86 then m.view else if b = 79 then m.op else if b = 67 then m.commit else if b = 78 then m.normal else if b = 110 then m.nonce else if b = 99 then m.client else if b = 114 then m.req else if b = 65 then m.answer + 1 else 0
abbrev Mg.wCmd (m : Mg) (x y z : Int) : Mg := ⟨m.kind, m.frm, m.view, m.op, m.commit, m.normal, m.nonce, m.client, m.req, m.answer, x, y, z, m.log⟩
abbrev Mg.wLog (m : Mg) (l : Lg) : Mg := ⟨m.kind, m.frm, m.view, m.op, m.commit, m.normal, m.nonce, m.client, m.req, m.answer, m.ck, m.cx, m.cv, l⟩
def fNums (m : Mg) (b : Nat) : List Int := if b = 120 then [m.ck, m.cx, m.cv] else if b = 76 then logNums m.log else [getF m b]
def msgNums (m : Mg) : List Int := m.kind :: (formL m.kind).flatMap (fNums m)
def numIn (x : Int) : Bool := decide (x ≤ 1000000001)
def rdFld (b : List Nat) (ch at_ : Nat) (m : Mg) : Option (Mg × Nat) :=
 if ch = 120 then match getZs b at_ 3 with
  | some ([x, y, z], e) => if (numIn x && (numIn y && numIn z)) = true then some (m.wCmd x y z, e) else none
  | _ => none
 else if ch = 76 then (rdLog b at_).map fun p => (m.wLog p.1, p.2)
 else match getZ b at_ with
  | none => none
  | some p => if numIn p.1 = true then some (setF m ch p.1, p.2) else none
def rdFlds (b : List Nat) : List Nat → Nat → Mg → Option (Mg × Nat)
 | [], at_, m => some (m, at_)
 | ch :: r, at_, m => match rdFld b ch at_ m with
  | none => none
  | some p => rdFlds b r p.2 p.1
def Mg.z : Mg := ⟨0, 0, 0, 0, 0, 0, 0, 0, 0, 0, 0, 0, 0, Lg.none⟩
abbrev Mg.ofKind (k : Int) : Mg := ⟨k, 0, 0, 0, 0, 0, 0, 0, 0, 0, 0, 0, 0, Lg.none⟩
def rdBody (b : List Nat) : Mg × Int := match getZ b 0 with
 | none => (Mg.z, 2)
 | some p => if formL p.1 = [] then (Mg.z, 2) else match rdFlds b (formL p.1) p.2 (Mg.ofKind p.1) with
  | none => (Mg.z, 3)
  | some q => if q.2 < b.length then (Mg.z, 4) else if iFits q.1 = true then (q.1, 0) else (Mg.z, 5)
def cpF (m m0 : Mg) (ch : Nat) : Mg := if ch = 120 then m0.wCmd m.ck m.cx m.cv else if ch = 76 then m0.wLog m.log else setF m0 ch (getF m ch)
theorem rdFld_put {b r : List Nat} {m m0 : Mg} {ch at_ : Nat} (h : b.drop at_ = packZ (fNums m ch) ++ r) (hx : ∀ x ∈ fNums m ch, 0 ≤ x ∧ x ≤ 1000000001) (hl : ch = 76 → logOk m.log = true) :
  rdFld b ch at_ m0 = some (cpF m m0 ch, at_ + (packZ (fNums m ch)).length) := by
 unfold rdFld cpF
 by_cases h1 : ch = 120
 ·subst h1
  have e : fNums m 120 = [m.ck, m.cx, m.cv] := rfl
  rw [e] at h hx ⊢
  have h2 := getZs_put h (fun x hx' => by have := hx x hx'; omega)
  have a1 := hx m.ck (by simp)
  have a2 := hx m.cx (by simp)
  have a3 := hx m.cv (by simp)
  rw [if_pos rfl, if_pos rfl, show (3 : Nat) = [m.ck, m.cx, m.cv].length from rfl, h2]
  show (if (numIn m.ck && (numIn m.cx && numIn m.cv)) = true then _ else _) = _
  rw [if_pos (by simp [numIn]; omega)]
 ·rw [if_neg h1, if_neg h1]
  by_cases h2 : ch = 76
  ·subst h2
   have e : fNums m 76 = logNums m.log := rfl
   rw [e] at h ⊢
   rw [if_pos rfl, if_pos rfl, (rdLog_put h (hl rfl)).1]
   rfl
  ·have e : fNums m ch = [getF m ch] := by unfold fNums; rw [if_neg h1, if_neg h2]
   rw [e] at h hx ⊢
   have a1 := hx (getF m ch) (by simp)
   rw [if_neg h2, if_neg h2]
   have h3 := getZ_put (r := r) (x := getF m ch) (by rw [packZ_cons] at h; simpa [packZ] using h) a1.1 (by omega)
   rw [h3]
   show (if numIn (getF m ch) = true then _ else _) = _
   rw [if_pos (by simp [numIn]; omega)]
   simp [packZ]
theorem rdFlds_put {b r : List Nat} {m : Mg} : ∀ {fs : List Nat} {at_ : Nat} {m0 : Mg}, b.drop at_ = packZ (fs.flatMap (fNums m)) ++ r → (∀ x ∈ fs.flatMap (fNums m), 0 ≤ x ∧ x ≤ 1000000001) → (76 ∈ fs → logOk m.log = true) →
  rdFlds b fs at_ m0 = some (fs.foldl (cpF m) m0, at_ + (packZ (fs.flatMap (fNums m))).length)
 | [], at_, m0, _, _, _ => rfl
 | ch :: fs, at_, m0, h, hx, hl => by
  rw [List.flatMap_cons] at h hx ⊢
  rw [packZ_append, List.append_assoc] at h
  have h1 := rdFld_put (m0 := m0) h (fun x hx' => hx x (List.mem_append_left _ hx')) (fun e => hl (e ▸ List.mem_cons_self))
  have h2 := rdFlds_put (m0 := cpF m m0 ch) (drop_add h) (fun x hx' => hx x (List.mem_append_right _ hx')) (fun e => hl (List.mem_cons_of_mem _ e))
  rw [rdFlds, h1]
  show rdFlds b fs (at_ + (packZ (fNums m ch)).length) (cpF m m0 ch) = _
  rw [h2, packZ_append, List.length_append, List.foldl_cons, Nat.add_assoc]
set_option maxHeartbeats 8000000 in
theorem getF_set (m : Mg) (ch c : Nat) (x : Int) (h : ch ≠ c) : getF (setF m c x) ch = getF m ch := by
 by_cases h70 : ch = 70
 ·subst h70
  show (setF m c x).frm = m.frm
  unfold setF
  (repeat' split) <;> first | rfl | (exfalso; omega)
 by_cases h86 : ch = 86
 ·subst h86
  show (setF m c x).view = m.view
  unfold setF
  (repeat' split) <;> first | rfl | (exfalso; omega)
 by_cases h79 : ch = 79
 ·subst h79
  show (setF m c x).op = m.op
  unfold setF
  (repeat' split) <;> first | rfl | (exfalso; omega)
 by_cases h67 : ch = 67
 ·subst h67
  show (setF m c x).commit = m.commit
  unfold setF
  (repeat' split) <;> first | rfl | (exfalso; omega)
 by_cases h78 : ch = 78
 ·subst h78
  show (setF m c x).normal = m.normal
  unfold setF
  (repeat' split) <;> first | rfl | (exfalso; omega)
 by_cases h110 : ch = 110
 ·subst h110
  show (setF m c x).nonce = m.nonce
  unfold setF
  (repeat' split) <;> first | rfl | (exfalso; omega)
 by_cases h99 : ch = 99
 ·subst h99
  show (setF m c x).client = m.client
  unfold setF
  (repeat' split) <;> first | rfl | (exfalso; omega)
 by_cases h114 : ch = 114
 ·subst h114
  show (setF m c x).req = m.req
  unfold setF
  (repeat' split) <;> first | rfl | (exfalso; omega)
 by_cases h65 : ch = 65
 ·subst h65
  show (setF m c x).answer + 1 = m.answer + 1
  congr 1
  unfold setF
  (repeat' split) <;> first | rfl | (exfalso; omega)
 unfold getF
 rw [if_neg h70, if_neg h86, if_neg h79, if_neg h67, if_neg h78, if_neg h110, if_neg h99, if_neg h114, if_neg h65, if_neg h70, if_neg h86, if_neg h79, if_neg h67, if_neg h78, if_neg h110, if_neg h99, if_neg h114, if_neg h65]
set_option maxHeartbeats 4000000 in
theorem fNums_set (m : Mg) (ch c : Nat) (x : Int) (h : ch ≠ c) : fNums (setF m c x) ch = fNums m ch := by
 unfold fNums
 by_cases h1 : ch = 120
 ·rw [if_pos h1, if_pos h1]
  unfold setF
  (repeat' split) <;> rfl
 ·rw [if_neg h1, if_neg h1]
  by_cases h2 : ch = 76
  ·rw [if_pos h2, if_pos h2]
   unfold setF
   (repeat' split) <;> rfl
  ·rw [if_neg h2, if_neg h2, getF_set m ch c x h]
theorem fNums_own (m : Mg) (c : Nat) (x : Int) (h1 : c ≠ 120) (h2 : c ≠ 76) (h3 : c = 70 ∨ c = 86 ∨ c = 79 ∨ c = 67 ∨ c = 78 ∨ c = 110 ∨ c = 99 ∨ c = 114 ∨ c = 65) : fNums (setF m c x) c = [x] := by
 unfold fNums
 rw [if_neg h1, if_neg h2]
 rcases h3 with rfl | rfl | rfl | rfl | rfl | rfl | rfl | rfl | rfl <;> first | rfl | (show [x - 1 + 1] = [x]; rw [show x - 1 + 1 = x by omega])
theorem setF_kind (m : Mg) (c : Nat) (x : Int) : (setF m c x).kind = m.kind := by
 unfold setF
 (repeat' split) <;> rfl
def letter (c : Nat) : Prop := c = 120 ∨ c = 76 ∨ c = 70 ∨ c = 86 ∨ c = 79 ∨ c = 67 ∨ c = 78 ∨ c = 110 ∨ c = 99 ∨ c = 114 ∨ c = 65
theorem rdFld_of {b : List Nat} (hb : ∀ y ∈ b, y < 256) {ch at_ : Nat} {m m1 : Mg} {e : Nat} (hc : letter ch) (h : rdFld b ch at_ m = some (m1, e)) : b.drop at_ = packZ (fNums m1 ch) ++ b.drop e ∧ (∀ c, c ≠ ch → fNums m1 c = fNums m c) ∧ m1.kind = m.kind := by
 unfold rdFld at h
 by_cases h1 : ch = 120
 ·subst h1
  rw [if_pos rfl] at h
  split at h
  ·rename_i x y z e' hz
   split at h
   ·simp only [Option.some.injEq, Prod.mk.injEq] at h
    obtain ⟨rfl, rfl⟩ := h
    obtain ⟨k1, _, _, _⟩ := getZs_of hb hz
    refine ⟨k1, fun c hne => ?_, rfl⟩
    unfold fNums
    rw [if_neg hne, if_neg hne]
    rfl
   ·cases h
  ·cases h
 ·rw [if_neg h1] at h
  by_cases h2 : ch = 76
  ·subst h2
   rw [if_pos rfl] at h
   cases hl : rdLog b at_ with
   | none => rw [hl] at h; cases h
   | some p =>
    rw [hl] at h
    simp only [Option.map_some, Option.some.injEq, Prod.mk.injEq] at h
    obtain ⟨rfl, rfl⟩ := h
    obtain ⟨k1, _⟩ := rdLog_of hb (l := p.1) (e := p.2) hl
    refine ⟨k1, fun c hne => ?_, rfl⟩
    unfold fNums
    rw [if_neg hne, if_neg hne]
    rfl
  ·rw [if_neg h2] at h
   cases hz : getZ b at_ with
   | none => rw [hz] at h; cases h
   | some p =>
    rw [hz] at h
    simp only at h
    split at h
    ·simp only [Option.some.injEq, Prod.mk.injEq] at h
     obtain ⟨rfl, rfl⟩ := h
     obtain ⟨k1, _⟩ := getZ_of hb (x := p.1) (e := p.2) hz
     refine ⟨?_, fun c hne => fNums_set m c ch p.1 hne, setF_kind m ch p.1⟩
     rw [fNums_own m ch p.1 h1 h2 (by unfold letter at hc; omega)]
     simpa [packZ] using k1
    ·cases h
theorem rdFlds_of {b : List Nat} (hb : ∀ y ∈ b, y < 256) : ∀ {fs : List Nat} {at_ : Nat} {m m1 : Mg} {e : Nat}, (∀ c ∈ fs, letter c) → fs.Nodup → rdFlds b fs at_ m = some (m1, e) → b.drop at_ = packZ (fs.flatMap (fNums m1)) ++ b.drop e ∧ (∀ c, c ∉ fs → fNums m1 c = fNums m c) ∧ m1.kind = m.kind
 | [], at_, m, m1, e, _, _, h => by
  simp only [rdFlds, Option.some.injEq, Prod.mk.injEq] at h
  obtain ⟨rfl, rfl⟩ := h
  exact ⟨rfl, fun _ _ => rfl, rfl⟩
 | ch :: fs, at_, m, m1, e, hc, hn, h => by
  rw [rdFlds] at h
  cases hf : rdFld b ch at_ m with
  | none => rw [hf] at h; cases h
  | some p =>
   rw [hf] at h
   simp only at h
   rw [List.nodup_cons] at hn
   obtain ⟨a1, a2, a3⟩ := rdFld_of hb (m1 := p.1) (e := p.2) (hc ch List.mem_cons_self) hf
   obtain ⟨b1, b2, b3⟩ := rdFlds_of hb (fun c hcm => hc c (List.mem_cons_of_mem _ hcm)) hn.2 h
   refine ⟨?_, fun c hcn => ?_, b3.trans a3⟩
   ·rw [List.flatMap_cons, packZ_append, List.append_assoc, ← b1, b2 ch hn.1]
    exact a1
   ·rw [List.mem_cons, not_or] at hcn
    rw [b2 c hcn.2, a2 c hcn.1]
theorem formL_ok (k : Int) : (∀ c ∈ formL k, letter c) ∧ (formL k).Nodup := by
 unfold formL letter
 (repeat' split) <;> decide
theorem body_of {b : List Nat} (hb : ∀ y ∈ b, y < 256) {m : Mg} (h : rdBody b = (m, 0)) : b = packZ (msgNums m) ∧ iFits m = true := by
 unfold rdBody at h
 cases hz : getZ b 0 with
 | none => rw [hz] at h; cases h
 | some p =>
  rw [hz] at h
  simp only at h
  split at h
  ·cases h
  ·cases hf : rdFlds b (formL p.1) p.2 (Mg.ofKind p.1) with
   | none => rw [hf] at h; cases h
   | some q =>
    rw [hf] at h
    simp only at h
    split at h
    ·cases h
    ·rename_i hlen
     split at h
     ·rename_i hfit
      simp only [Prod.mk.injEq, and_true] at h
      subst h
      refine ⟨?_, hfit⟩
      obtain ⟨z1, _⟩ := getZ_of hb (x := p.1) (e := p.2) hz
      obtain ⟨f1, f2, f3⟩ := rdFlds_of hb (m1 := q.1) (e := q.2) (formL_ok p.1).1 (formL_ok p.1).2 hf
      have hk : q.1.kind = p.1 := f3
      rw [List.drop_of_length_le (by omega : b.length ≤ q.2), List.append_nil] at f1
      rw [Dz] at z1
      unfold msgNums
      rw [packZ_cons, hk, ← f1]
      exact z1
     ·cases h
end Go.Proofs.Ytpghedeghoegmaa
