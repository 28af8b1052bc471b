/- The laws' own functions on cells, seats, entries. -/
import Derived.Test.YtednimdklbmjgaaDeep
import Derived.Test.YtednimdklbmjgaaProg
import Derived.OwnWalk
namespace Go.Proofs.Ytednimdklbmjgaa
open Go.ChangeShapes Go.WideShapes Go.ChangeAt Go.RowKit Go.Sort
set_option linter.unusedVariables false
set_option linter.unusedSimpArgs false

theorem Cel.enc_len (r : Cel) : r.enc.length = 2 := rfl

theorem Rd.atCel {w : World} {A : Option Addr} {c : Nat} {l : List Cel} (h : Rd Cel.enc 2 w A c l) {k : Nat} (hk : k < l.length) : ∃ b o, A = some ⟨b, o, none⟩ ∧ b < w.heap.size ∧
    w.cell? ⟨b, o + k * 2, none⟩ = some (.int .i64 l[k].key) ∧ w.cell? ⟨b, o + k * 2 + 1, none⟩ = some (.int .i64 l[k].value) := by
  obtain ⟨b, o, e, hlt, hc⟩ := h.2.2 (by omega)
  exact ⟨b, o, e, hlt, hc k hk 0 _ rfl, hc k hk 1 _ rfl⟩

theorem Try.infoCel : (Try.prog.info? 63).map (fun i => (i.zero, i.size, i.bytes)) = some (some (.agg #[.int .i64 0, .int .i64 0]), 2, 16) := by kernel_rfl

def Cel.mark (k : Int) (i : Nat) : Cel := ⟨k + 2 * i, k + 2 * i + 1⟩

def marksCel (k : Int) (n : Nat) : List Cel := (List.range n).map (Cel.mark k)

theorem heldCel_at (k : Int) (n j : Nat) (hj : j < n) : (marksCel k n)[j]'(by simpa [marksCel] using hj) = ⟨k + 2 * j, k + 2 * j + 1⟩ := by simp [marksCel, Cel.mark]

theorem marksCel_length (k : Int) (n : Nat) : (marksCel k n).length = n := by simp [marksCel]

theorem Sea.enc_len (r : Sea) : r.enc.length = 3 := rfl

theorem Rd.atSea {w : World} {A : Option Addr} {c : Nat} {l : List Sea} (h : Rd Sea.enc 3 w A c l) {k : Nat} (hk : k < l.length) : ∃ b o, A = some ⟨b, o, none⟩ ∧ b < w.heap.size ∧
    w.cell? ⟨b, o + k * 3, none⟩ = some (.int .i64 l[k].client) ∧ w.cell? ⟨b, o + k * 3 + 1, none⟩ = some (.int .i64 l[k].req) ∧ w.cell? ⟨b, o + k * 3 + 2, none⟩ = some (.int .i64 l[k].answer) := by
  obtain ⟨b, o, e, hlt, hc⟩ := h.2.2 (by omega)
  exact ⟨b, o, e, hlt, hc k hk 0 _ rfl, hc k hk 1 _ rfl, hc k hk 2 _ rfl⟩

theorem Try.infoSea : (Try.prog.info? 65).map (fun i => (i.zero, i.size, i.bytes)) = some (some (.agg #[.int .i64 0, .int .i64 0, .int .i64 0]), 3, 24) := by kernel_rfl

def Sea.mark (k : Int) (i : Nat) : Sea := ⟨k + 3 * i, k + 3 * i + 1, k + 3 * i + 1 + 1⟩

def marksSea (k : Int) (n : Nat) : List Sea := (List.range n).map (Sea.mark k)

theorem heldSea_at (k : Int) (n j : Nat) (hj : j < n) : (marksSea k n)[j]'(by simpa [marksSea] using hj) = ⟨k + 3 * j, k + 3 * j + 1, k + 3 * j + 1 + 1⟩ := by simp [marksSea, Sea.mark]

theorem marksSea_length (k : Int) (n : Nat) : (marksSea k n).length = n := by simp [marksSea]

theorem Ent.enc_len (r : Ent) : r.enc.length = 5 := rfl

theorem Rd.atEnt {w : World} {A : Option Addr} {c : Nat} {l : List Ent} (h : Rd Ent.enc 5 w A c l) {k : Nat} (hk : k < l.length) : ∃ b o, A = some ⟨b, o, none⟩ ∧ b < w.heap.size ∧
    w.cell? ⟨b, o + k * 5, none⟩ = some (.int .i64 l[k].client) ∧ w.cell? ⟨b, o + k * 5 + 1, none⟩ = some (.int .i64 l[k].req) ∧ w.cell? ⟨b, o + k * 5 + 2, none⟩ = some (.int .i64 l[k].kind) ∧ w.cell? ⟨b, o + k * 5 + 3, none⟩ = some (.int .i64 l[k].key) ∧ w.cell? ⟨b, o + k * 5 + 4, none⟩ = some (.int .i64 l[k].value) := by
  obtain ⟨b, o, e, hlt, hc⟩ := h.2.2 (by omega)
  exact ⟨b, o, e, hlt, hc k hk 0 _ rfl, hc k hk 1 _ rfl, hc k hk 2 _ rfl, hc k hk 3 _ rfl, hc k hk 4 _ rfl⟩

theorem Try.infoEnt : (Try.prog.info? 53).map (fun i => (i.zero, i.size, i.bytes)) = some (some (.agg #[.int .i64 0, .int .i64 0, .int .i64 0, .int .i64 0, .int .i64 0]), 5, 40) := by kernel_rfl

def Ent.mark (k : Int) (i : Nat) : Ent := ⟨k + 5 * i, k + 5 * i + 1, k + 5 * i + 1 + 1, k + 5 * i + 1 + 1 + 1, k + 5 * i + 1 + 1 + 1 + 1⟩

def marksEnt (k : Int) (n : Nat) : List Ent := (List.range n).map (Ent.mark k)

theorem heldEnt_at (k : Int) (n j : Nat) (hj : j < n) : (marksEnt k n)[j]'(by simpa [marksEnt] using hj) = ⟨k + 5 * j, k + 5 * j + 1, k + 5 * j + 1 + 1, k + 5 * j + 1 + 1 + 1, k + 5 * j + 1 + 1 + 1 + 1⟩ := by simp [marksEnt, Ent.mark]

theorem marksEnt_length (k : Int) (n : Nat) : (marksEnt k n).length = n := by simp [marksEnt]

end Go.Proofs.Ytednimdklbmjgaa
