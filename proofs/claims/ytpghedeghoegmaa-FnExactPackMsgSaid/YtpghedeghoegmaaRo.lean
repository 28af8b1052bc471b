/- ReplicaOk of the reference and of the program. -/
import Derived.Test.YtpghedeghoegmaaRk
import Derived.Test.YtpghedeghoegmaaRz
namespace Go.Proofs.Ytpghedeghoegmaa
open Go.ChangeShapes Go.WideShapes Go.ChangeAt Go.RowKit Go.Sort
set_option linter.unusedVariables false
set_option linter.unusedSimpArgs false

def ofB (n : Int) : Bool := n == 1 || n == 3 || n == 5
theorem ofB_b {n : Int} (h : ofB n = true) : 1 ≤ n ∧ n ≤ 5 := by simp [ofB] at h; omega
def rpTail (r : Rp) : Bool := (r.mode == 1 && (r.view == r.normal && r.view == r.cell)) || (r.mode == 2 && (decide (r.normal ≤ r.view) && r.view == r.cell)) || ((r.mode == 0 || r.mode == 3) && (r.view == 0 && r.normal == 0 && r.commit == 0 && isZ r.log && (r.mode == 3 || r.votes.length == 0)))
/-- the replica is right -/
def rpOk (r : Rp) : Bool := ofB r.of && inB r.me 0 (r.of - 1) && inB r.view 0 1000000000 && inB r.normal 0 1000000000 && inB r.cell 0 1000000000 && inB r.nonce 0 1000000000 && hasNum r.log r.commit && decide (r.votes.length ≤ 20) && r.votes.all (vtOk r.of) && rpTail r

theorem rpNo_0 {r : Rp} (h : ofB r.of = false) : rpOk r = false := by simp [rpOk, h]
theorem rpNo_1 {r : Rp} (h : inB r.me 0 (r.of - 1) = false) : rpOk r = false := by simp [rpOk, h]
theorem rpNo_2 {r : Rp} (h : inB r.view 0 1000000000 = false) : rpOk r = false := by simp [rpOk, h]
theorem rpNo_3 {r : Rp} (h : inB r.normal 0 1000000000 = false) : rpOk r = false := by simp [rpOk, h]
theorem rpNo_4 {r : Rp} (h : inB r.cell 0 1000000000 = false) : rpOk r = false := by simp [rpOk, h]
theorem rpNo_5 {r : Rp} (h : inB r.nonce 0 1000000000 = false) : rpOk r = false := by simp [rpOk, h]
theorem rpNo_6 {r : Rp} (h : hasNum r.log r.commit = false) : rpOk r = false := by simp [rpOk, h]
theorem rpNo_len {r : Rp} (h : ¬ r.votes.length ≤ 20) : rpOk r = false := by simp [rpOk, h]
theorem rpNo_vote {ps : List VtE} {r : Rp} (he : ps.map Prod.snd = r.votes) {k : Nat} (hk : k < ps.length) (h : vtOk r.of ps[k].2 = false) : rpOk r = false := by
  have : r.votes.all (vtOk r.of) = false := by
    rw [← he, List.all_eq_false]
    exact ⟨ps[k].2, List.mem_map_of_mem (List.getElem_mem hk), by simp [h]⟩
  simp [rpOk, this]
def VkTo (of : Int) (ps : List VtE) (k : Nat) : Prop := ∀ j (h : j < ps.length), j < k → vtOk of ps[j].2 = true
theorem VkTo.next {of : Int} {ps : List VtE} {k : Nat} (h : VkTo of ps k) (hk : k < ps.length) (hs : vtOk of ps[k].2 = true) : VkTo of ps (k + 1) := fun j hj hjk => by
  by_cases he : j = k
  · subst he; exact hs
  · exact h j hj (by omega)
theorem rpOk_all {ps : List VtE} {r : Rp} (he : ps.map Prod.snd = r.votes) (h : VkTo r.of ps ps.length) : r.votes.all (vtOk r.of) = true := by
  rw [← he, List.all_eq_true]
  intro v hv
  obtain ⟨p, hp, rfl⟩ := List.mem_map.1 hv
  obtain ⟨k, hk, rfl⟩ := List.mem_iff_getElem.1 hp
  exact h k hk hk
theorem rpOk_any {ps : List VtE} {r : Rp} (he : ps.map Prod.snd = r.votes) : r.votes.all (vtOk r.of) = !ps.any (fun p => !vtOk r.of p.2) := by
  subst_vars
  rw [← he, List.all_map, List.any_eq_not_all_not, Bool.not_not]
  congr 1
  funext p
  simp
theorem rpOk_tail {r : Rp} (h0 : ofB r.of = true) (h1 : inB r.me 0 (r.of - 1) = true) (h2 : inB r.view 0 1000000000 = true) (h3 : inB r.normal 0 1000000000 = true) (h4 : inB r.cell 0 1000000000 = true) (h5 : inB r.nonce 0 1000000000 = true) (h6 : hasNum r.log r.commit = true) (h8 : r.votes.length ≤ 20) (h9 : r.votes.all (vtOk r.of) = true) : rpTail r = rpOk r := by
  unfold rpOk
  rw [h0, h1, h2, h3, h4, h5, h6, h9, decide_eq_true h8]
  simp


end Go.Proofs.Ytpghedeghoegmaa
