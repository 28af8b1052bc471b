/- Frames: read, written, spoilt: plain lists, no program in sight. -/
import Derived.Test.YtpghedeghoegmaaWr
namespace Go.Proofs.Ytpghedeghoegmaa
open Go.ChangeShapes Go.WideShapes Go.ChangeAt Go.RowKit Go.Sort
set_option linter.unusedVariables false
set_option linter.unusedSimpArgs false

/-- a frame is read from the beginning: what it holds, where it ends, the code -/
def unfr (b : List Nat) : List Nat × Nat × Int := match getZ b 0 with
  | none => ([], 0, 1)
  | some p => if (4000 : Int) < p.1 then ([], 0, 1)
    else if (b.length : Int) - p.2 < p.1 + 4 then ([], 0, 2)
    else if ((b.drop (p.2 + p.1.toNat)).take 4 == le4 (crc ((b.drop p.2).take p.1.toNat))) = true then ((b.drop p.2).take p.1.toNat, p.2 + p.1.toNat + 4, 0)
    else ([], 0, 3)
def unpackM (b : List Nat) : Mg × Int := if ((unfr b).2.2 == 0 && ((unfr b).2.1 == b.length)) = true then rdBody (unfr b).1 else (Mg.z, 1)
def packM (m : Mg) : List Nat := frame (packZ (msgNums m))
theorem packZ_bytes (l : List Int) : ∀ y ∈ packZ l, y < 256 := fun y hy => by
  obtain ⟨x, _, hx⟩ := List.mem_flatMap.1 hy
  exact putN_bytes x.toNat x.toNat (Nat.le_refl _) y hx
theorem le4_bytes (n : Nat) : ∀ y ∈ le4 n, y < 256 := fun y hy => by
  simp only [le4, List.mem_cons, List.not_mem_nil, or_false] at hy
  omega
theorem frame_bytes {b : List Nat} (hb : ∀ y ∈ b, y < 256) : ∀ y ∈ frame b, y < 256 := fun y hy => by
  unfold frame at hy
  rcases List.mem_append.1 hy with hy | hy
  · exact putN_bytes _ _ (Nat.le_refl _) y hy
  · rcases List.mem_append.1 hy with hy | hy
    · exact hb y hy
    · exact le4_bytes _ y hy
theorem le4_len (n : Nat) : (le4 n).length = 4 := rfl
theorem le4_inj {a b : Nat} (ha : a < 4294967296) (hb : b < 4294967296) (h : le4 a = le4 b) : a = b := by
  simp only [le4, List.cons.injEq, and_true] at h
  omega
/-- the length is read, whatever follows -/
theorem unfr_at {b r : List Nat} {n : Nat} (hn : n ≤ 4000) (h : b = putN n ++ r) : getZ b 0 = some ((n : Int), (putN n).length) := by
  have h1 := getZ_put (b := b) (at_ := 0) (x := (n : Int)) (r := r) (by rw [List.drop_zero, show ((n : Int)).toNat = n by omega]; exact h) (by omega) (by omega)
  rw [show ((n : Int)).toNat = n by omega, Nat.zero_add] at h1
  exact h1
/-- a frame of that many bytes: right just where its last four are the check of them -/
theorem unfr_eq {body c4 : List Nat} (hn : body.length ≤ 4000) (h4 : c4.length = 4) : unfr (putN body.length ++ (body ++ c4)) = if (c4 == le4 (crc body)) = true then (body, (putN body.length ++ (body ++ c4)).length, 0) else ([], 0, 3) := by
  have hl := putN_pos body.length
  have e1 : (putN body.length ++ (body ++ c4)).drop (putN body.length).length = body ++ c4 := List.drop_left
  have e2 : (putN body.length ++ (body ++ c4)).drop ((putN body.length).length + body.length) = c4 := by
    rw [← List.drop_drop, e1]; exact List.drop_left
  unfold unfr
  rw [unfr_at hn rfl]
  simp only
  rw [if_neg (by omega), if_neg (by simp only [List.length_append, h4]; omega), show ((body.length : Int)).toNat = body.length by omega, e1, e2]
  have e3 : (body ++ c4).take body.length = body := List.take_left
  have e4 : c4.take 4 = c4 := List.take_of_length_le (by omega)
  rw [e3, e4]
  split
  · simp only [List.length_append, h4, Prod.mk.injEq, true_and, and_true]
    omega
  · rfl
theorem unfr_frame {body : List Nat} (hn : body.length ≤ 4000) : unfr (frame body) = (body, (frame body).length, 0) := by
  unfold frame
  rw [unfr_eq hn (le4_len _), if_pos (by simp)]
theorem unfr_of {b body : List Nat} (hb : ∀ y ∈ b, y < 256) (h : unfr b = (body, b.length, 0)) : b = frame body ∧ body.length ≤ 4000 := by
  unfold unfr at h
  cases hz : getZ b 0 with
  | none => rw [hz] at h; simp at h
  | some p =>
    rw [hz] at h
    simp only at h
    split at h
    · simp at h
    · rename_i h40
      split at h
      · simp at h
      · rename_i hsh
        split at h
        · rename_i hcr
          simp only [Prod.mk.injEq, and_true] at h
          obtain ⟨rfl, he⟩ := h
          obtain ⟨z1, z2, z3, z4, z5⟩ := getZ_of hb (x := p.1) (e := p.2) hz
          rw [List.drop_zero] at z1
          have hc := beq_iff_eq.1 hcr
          have hlb : ((b.drop p.2).take p.1.toNat).length = p.1.toNat := by rw [List.length_take, List.length_drop]; omega
          refine ⟨?_, by omega⟩
          unfold frame
          rw [hlb, ← hc]
          have e4 : (b.drop (p.2 + p.1.toNat)).take 4 = b.drop (p.2 + p.1.toNat) := List.take_of_length_le (by rw [List.length_drop]; omega)
          rw [e4, ← List.drop_drop, List.take_append_drop]
          exact z1
        · simp at h
theorem unpack_pack {m : Mg} (h : iFits m = true) : unpackM (packM m) = (m, 0) := by
  obtain ⟨h1, h2⟩ := body_put h
  unfold unpackM packM
  rw [unfr_frame h2]
  simp [h1]
theorem pack_unpack {b : List Nat} (hb : ∀ y ∈ b, y < 256) {m : Mg} (h : unpackM b = (m, 0)) : b = packM m ∧ iFits m = true := by
  unfold unpackM at h
  split at h
  · rename_i hc
    simp only [Bool.and_eq_true, beq_iff_eq] at hc
    have hu : unfr b = ((unfr b).1, b.length, 0) := by
      rw [← hc.1, ← hc.2]
    obtain ⟨h1, h2⟩ := unfr_of hb hu
    have hbb : ∀ y ∈ (unfr b).1, y < 256 := fun y hy => hb y (by
      rw [h1]
      unfold frame
      exact List.mem_append_right _ (List.mem_append_left _ hy))
    obtain ⟨k1, k2⟩ := body_of hbb h
    refine ⟨?_, k2⟩
    unfold packM
    rw [← k1]
    exact h1
  · cases h
theorem set_right {α : Type} {a b : List α} {i : Nat} (h : a.length ≤ i) (x : α) : (a ++ b).set i x = a ++ b.set (i - a.length) x := by
  rw [List.set_append, if_neg (by omega)]
theorem set_left {α : Type} {a b : List α} {i : Nat} (h : i < a.length) (x : α) : (a ++ b).set i x = a.set i x ++ b := by
  rw [List.set_append, if_pos h]
/-- one byte behind the length turned: the check fails -/
theorem spoilt {body : List Nat} (hb : ∀ y ∈ body, y < 256) (hn : body.length ≤ 4000) {i y : Nat} (h0 : (putN body.length).length ≤ i) (h1 : i < (frame body).length) (hy : y < 256) (hne : ∀ h : i < (frame body).length, y ≠ (frame body)[i]) :
    unfr ((frame body).set i y) = ([], 0, 3) := by
  have hne := hne h1
  have hcl := crc_lt hb
  unfold frame at h1 hne ⊢
  obtain ⟨j, rfl⟩ : ∃ j, i = (putN body.length).length + j := ⟨i - (putN body.length).length, by omega⟩
  rw [List.getElem_append_right (by omega)] at hne
  rw [set_right (by omega), show (putN body.length).length + j - (putN body.length).length = j by omega]
  simp only [show (putN body.length).length + j - (putN body.length).length = j by omega] at hne
  simp only [List.length_append, le4_len] at h1
  by_cases hj : j < body.length
  · rw [List.getElem_append_left hj] at hne
    rw [set_left hj]
    have hl : (body.set j y).length = body.length := List.length_set
    have h2 := unfr_eq (body := body.set j y) (c4 := le4 (crc body)) (by rw [hl]; exact hn) (le4_len _)
    rw [hl] at h2
    rw [h2, if_neg]
    rw [beq_iff_eq]
    intro he
    have hbs : ∀ z ∈ body.set j y, z < 256 := fun z hz => by
      rcases List.mem_or_eq_of_mem_set hz with hz | rfl
      · exact hb z hz
      · exact hy
    exact crc_turned hb hj hy hne (le4_inj (crc_lt hbs) hcl he.symm)
  · rw [List.getElem_append_right (by omega)] at hne
    rw [set_right (by omega)]
    have hl4 : ((le4 (crc body)).set (j - body.length) y).length = 4 := by rw [List.length_set]; rfl
    rw [unfr_eq hn hl4, if_neg]
    rw [beq_iff_eq]
    intro he
    have h5 := congrArg (fun l => l[j - body.length]?) he
    have hk : j - body.length < (le4 (crc body)).length := by rw [le4_len]; omega
    simp only [List.getElem?_set, if_true, hk, List.getElem?_eq_getElem hk, Option.some.injEq] at h5
    exact hne h5
theorem unpack_spoilt {b : List Nat} (h : unfr b = ([], 0, 3)) : unpackM b = (Mg.z, 1) := by
  unfold unpackM
  rw [h]
  rfl
end Go.Proofs.Ytpghedeghoegmaa
