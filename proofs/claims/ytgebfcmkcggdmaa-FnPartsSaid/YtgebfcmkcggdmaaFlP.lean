/- Slices of parts: the laws' own functions on them. -/
import Derived.Test.YtgebfcmkcggdmaaProg
import Derived.Test.YtgebfcmkcggdmaaGa
import Derived.OwnWalk
namespace Go.Proofs.Ytgebfcmkcggdmaa
open Go.ChangeShapes Go.WideShapes Go.ChangeAt Go.RowKit Go.Sort
set_option linter.unusedVariables false

structure Prt where
  lo : Int
  hi : Int
  owner : Int
deriving DecidableEq

def Prt.enc (r : Prt) : List Value := [.int .i64 r.lo, .int .i64 r.hi, .int .i64 r.owner]

theorem Prt.enc_len (r : Prt) : r.enc.length = 3 := rfl

theorem Rd.atPrt {w : World} {A : Option Addr} {c : Nat} {l : List Prt} (h : Rd Prt.enc 3 w A c l) {k : Nat} (hk : k < l.length) : ∃ b o, A = some ⟨b, o, none⟩ ∧ b < w.heap.size ∧
    w.cell? ⟨b, o + k * 3, none⟩ = some (.int .i64 l[k].lo) ∧ w.cell? ⟨b, o + k * 3 + 1, none⟩ = some (.int .i64 l[k].hi) ∧ w.cell? ⟨b, o + k * 3 + 2, none⟩ = some (.int .i64 l[k].owner) := by
  obtain ⟨b, o, e, hlt, hc⟩ := h.2.2 (by omega)
  exact ⟨b, o, e, hlt, hc k hk 0 _ rfl, hc k hk 1 _ rfl, hc k hk 2 _ rfl⟩

theorem Try.infoPrt : (Try.prog.info? 37).map (fun i => (i.zero, i.size, i.bytes)) = some (some (.agg #[.int .i64 0, .int .i64 0, .int .i64 0]), 3, 24) := by kernel_rfl

def Prt.mark (k : Int) (i : Nat) : Prt := ⟨k + 3 * i, k + 3 * i + 1, k + 3 * i + 1 + 1⟩

def marksPrt (k : Int) (n : Nat) : List Prt := (List.range n).map (Prt.mark k)

theorem heldPrt_at (k : Int) (n j : Nat) (hj : j < n) : (marksPrt k n)[j]'(by simpa [marksPrt] using hj) = ⟨k + 3 * j, k + 3 * j + 1, k + 3 * j + 1 + 1⟩ := by simp [marksPrt, Prt.mark]

theorem marksPrt_length (k : Int) (n : Nat) : (marksPrt k n).length = n := by simp [marksPrt]

end Go.Proofs.Ytgebfcmkcggdmaa
