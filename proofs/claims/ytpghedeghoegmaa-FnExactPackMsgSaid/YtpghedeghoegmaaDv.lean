/- The laws' own functions on votes. -/
import Derived.Test.YtpghedeghoegmaaDm
namespace Go.Proofs.Ytpghedeghoegmaa
open Go.ChangeShapes Go.WideShapes Go.ChangeAt Go.RowKit Go.Sort
set_option linter.unusedVariables false
set_option linter.unusedSimpArgs false

theorem Rd.atVtE {w : World} {A : Option Addr} {c : Nat} {l : List VtE} (h : Rd VtE.enc 10 w A c l) {k : Nat} (hk : k < l.length) : ∃ b o, A = some ⟨b, o, none⟩ ∧ b < w.heap.size ∧
    w.cell? ⟨b, o + k * 10, none⟩ = some (.int .i64 l[k].2.kind) ∧ w.cell? ⟨b, o + k * 10 + 1, none⟩ = some (.int .i64 l[k].2.frm) ∧ w.cell? ⟨b, o + k * 10 + 2, none⟩ = some (.int .i64 l[k].2.view) ∧ w.cell? ⟨b, o + k * 10 + 3, none⟩ = some (.int .i64 l[k].2.normal) ∧ w.cell? ⟨b, o + k * 10 + 4, none⟩ = some (.int .i64 l[k].2.op) ∧ w.cell? ⟨b, o + k * 10 + 5, none⟩ = some (.int .i64 l[k].2.commit) ∧ w.cell? ⟨b, o + k * 10 + 6, none⟩ = some (.int .i64 l[k].2.log.base) ∧
    w.cell? ⟨b, o + k * 10 + 7, none⟩ = some (.slice l[k].1.cA l[k].2.log.cells.length l[k].1.cc) ∧ w.cell? ⟨b, o + k * 10 + 8, none⟩ = some (.slice l[k].1.sA l[k].2.log.seats.length l[k].1.sc) ∧ w.cell? ⟨b, o + k * 10 + 9, none⟩ = some (.slice l[k].1.eA l[k].2.log.ents.length l[k].1.ec) := by
  obtain ⟨b, o, e, hlt, hc⟩ := h.2.2 (by omega)
  exact ⟨b, o, e, hlt, hc k hk 0 _ rfl, hc k hk 1 _ rfl, hc k hk 2 _ rfl, hc k hk 3 _ rfl, hc k hk 4 _ rfl, hc k hk 5 _ rfl, hc k hk 6 _ rfl, hc k hk 7 _ rfl, hc k hk 8 _ rfl, hc k hk 9 _ rfl⟩

/-- how great a row of votes is: the rows of its logs -/
def lgN (l : Lg) : Nat := l.cells.length + l.seats.length + l.ents.length
def vsN (ps : List VtE) : Nat → Nat
  | 0 => 0
  | k + 1 => vsN ps k + match ps[k]? with | some p => lgN p.2.log | none => 0
theorem vsN_next {ps : List VtE} {k : Nat} (h : k < ps.length) : vsN ps (k + 1) = vsN ps k + lgN ps[k].2.log := by
  simp [vsN, h]
theorem vsN_up (ps : List VtE) (k : Nat) : ∀ d, vsN ps k ≤ vsN ps (k + d)
  | 0 => Nat.le_refl _
  | d + 1 => by
    have ih := vsN_up ps k d
    show _ ≤ vsN ps (k + d) + _
    omega
theorem lgR_le {w : World} {a : LAd} {l : Lg} (h : LgR w a l) : (l.cells.length : Int) ≤ 9223372036854775807 ∧ (l.seats.length : Int) ≤ 9223372036854775807 ∧ (l.ents.length : Int) ≤ 9223372036854775807 := ⟨rd_len h.1, rd_len h.2.1, rd_len h.2.2⟩

end Go.Proofs.Ytpghedeghoegmaa
