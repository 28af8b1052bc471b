/- Slices of ranges: the laws' own functions on them. -/
import Derived.Test.YtgebfcmkcggdmaaRng
import Derived.OwnWalk
namespace Go.Proofs.Ytgebfcmkcggdmaa
open Go.ChangeShapes Go.WideShapes Go.ChangeAt Go.RowKit Go.Sort
set_option linter.unusedVariables false

theorem Rng.enc_len (r : Rng) : r.enc.length = 2 := rfl

theorem Rd.atRng {w : World} {A : Option Addr} {c : Nat} {l : List Rng} (h : Rd Rng.enc 2 w A c l) {k : Nat} (hk : k < l.length) : ∃ b o, A = some ⟨b, o, none⟩ ∧ b < w.heap.size ∧
    w.cell? ⟨b, o + k * 2, none⟩ = some (.int .i64 l[k].lo) ∧ w.cell? ⟨b, o + k * 2 + 1, none⟩ = some (.int .i64 l[k].hi) := by
  obtain ⟨b, o, e, hlt, hc⟩ := h.2.2 (by omega)
  exact ⟨b, o, e, hlt, hc k hk 0 _ rfl, hc k hk 1 _ rfl⟩

theorem Try.infoRng : (Try.prog.info? 35).map (fun i => (i.zero, i.size, i.bytes)) = some (some (.agg #[.int .i64 0, .int .i64 0]), 2, 16) := by kernel_rfl

def Rng.mark (k : Int) (i : Nat) : Rng := ⟨k + 2 * i, k + 2 * i + 1⟩

def marksRng (k : Int) (n : Nat) : List Rng := (List.range n).map (Rng.mark k)

theorem heldRng_at (k : Int) (n j : Nat) (hj : j < n) : (marksRng k n)[j]'(by simpa [marksRng] using hj) = ⟨k + 2 * j, k + 2 * j + 1⟩ := by simp [marksRng, Rng.mark]

theorem marksRng_length (k : Int) (n : Nat) : (marksRng k n).length = n := by simp [marksRng]

end Go.Proofs.Ytgebfcmkcggdmaa
