/-
  No cell of these rows narrows 'for every input' (looked for: loops, veiled, ifaces, maps, wideKeys, modest, calm, conditions, laid).
  DERIVED. THE GIVEN ROWS OF THIS SEAT. 4 by the template 'for every input the law returns true; each argument reads behind the call as it read before'; 0 by the template 'total and deterministic' (their statements: YtpghedeghoegmaaTotals.lean).
  GIVEN WITH THE SEED: the statements are not yours to turn. If you find one false, say at which input.
  Laid BY PROGRAM, IN A SANDBOX (cutbox-rows.mjs): the forced cells as the released guide's own fill.sh prints them over the translation 4aaaf949855b373a… (all of the seat's roots in one cut). By AI agents, Wed Nov 11 2026. No macro, syntax, notation, axiom, sorry.
-/
import Derived.Test.YtpghedeghoegmaaChecked
import GoSem.Claim
import GoSem.ClaimJoined
import GoSem.ClaimMapViews
import Derived.JoinedTies
import Derived.KernelRfl
namespace Go.Proofs.Ytpghedeghoegmaa
/- THE CELL 'sum', in the pinned program and in every row, IS THE sha256 OF THE DUMP (.gsa) THAT YtpghedeghoegmaaProg.lean LOADS. Nothing in Lean hashes anything: it is a label: what it is worth is what the hold of that sum in a sandbox is worth. -/
noncomputable def Try.pinned : Pinned := { name := "ytpghedeghoegmaa", sum := "4aaaf949855b373af0f0c34edda361ece53c6958f537ed98ec5f0900ef5f62c8", checked := Try.checked }
namespace Rows
def none {H : Type} : Left H := { results := [], args := [] }

/-- 'laws.FnExactPackMsg': WHATEVER THE INPUT: true; the input reads as it did. -/
def fnExactPackMsgSpec : ChangeSpec := { name := "fnExactPackMsg", fn := fun _ => fun
  | [d] => { results := [.lit (.bool true)], args := [d] }
  | _ => none }
def fnExactPackMsgRow : OpenClaim := { program := "ytpghedeghoegmaa", sum := "4aaaf949855b373af0f0c34edda361ece53c6958f537ed98ec5f0900ef5f62c8", func := "loop.example/g00097/laws.FnExactPackMsg", spec := "fnExactPackMsg", unfollowed := true, recurses := true, apart := false }
def FnExactPackMsgSaid : Prop := fnExactPackMsgRow.holds Try.pinned (OpenSpec.ofChange fnExactPackMsgSpec)

/-- ITS FALSE NEIGHBOUR: 'it returns false'. Refute it at one input. -/
def fnExactPackMsgWrong : ChangeSpec := { name := "fnExactPackMsg", fn := fun _ => fun
  | [d] => { results := [.lit (.bool false)], args := [d] }
  | _ => none }
def FnExactPackMsgWrongFalsely : Prop := fnExactPackMsgRow.holds Try.pinned (OpenSpec.ofChange fnExactPackMsgWrong)

/-- 'laws.FnExactUnpackMsg': WHATEVER THE INPUT: true; the input reads as it did. -/
def fnExactUnpackMsgSpec : ChangeSpec := { name := "fnExactUnpackMsg", fn := fun _ => fun
  | [d] => { results := [.lit (.bool true)], args := [d] }
  | _ => none }
def fnExactUnpackMsgRow : OpenClaim := { program := "ytpghedeghoegmaa", sum := "4aaaf949855b373af0f0c34edda361ece53c6958f537ed98ec5f0900ef5f62c8", func := "loop.example/g00097/laws.FnExactUnpackMsg", spec := "fnExactUnpackMsg", unfollowed := true, recurses := true, apart := false }
def FnExactUnpackMsgSaid : Prop := fnExactUnpackMsgRow.holds Try.pinned (OpenSpec.ofChange fnExactUnpackMsgSpec)

/-- ITS FALSE NEIGHBOUR: 'it returns false'. Refute it at one input. -/
def fnExactUnpackMsgWrong : ChangeSpec := { name := "fnExactUnpackMsg", fn := fun _ => fun
  | [d] => { results := [.lit (.bool false)], args := [d] }
  | _ => none }
def FnExactUnpackMsgWrongFalsely : Prop := fnExactUnpackMsgRow.holds Try.pinned (OpenSpec.ofChange fnExactUnpackMsgWrong)

/-- 'laws.FnSpoilt': WHATEVER THE INPUT: true; the input reads as it did. -/
def fnSpoiltSpec : ChangeSpec := { name := "fnSpoilt", fn := fun _ => fun
  | [d] => { results := [.lit (.bool true)], args := [d] }
  | _ => none }
def fnSpoiltRow : OpenClaim := { program := "ytpghedeghoegmaa", sum := "4aaaf949855b373af0f0c34edda361ece53c6958f537ed98ec5f0900ef5f62c8", func := "loop.example/g00097/laws.FnSpoilt", spec := "fnSpoilt", unfollowed := true, recurses := true, apart := false }
def FnSpoiltSaid : Prop := fnSpoiltRow.holds Try.pinned (OpenSpec.ofChange fnSpoiltSpec)

/-- ITS FALSE NEIGHBOUR: 'it returns false'. Refute it at one input. -/
def fnSpoiltWrong : ChangeSpec := { name := "fnSpoilt", fn := fun _ => fun
  | [d] => { results := [.lit (.bool false)], args := [d] }
  | _ => none }
def FnSpoiltWrongFalsely : Prop := fnSpoiltRow.holds Try.pinned (OpenSpec.ofChange fnSpoiltWrong)

/-- 'laws.FnMsg': WHATEVER THE INPUT: true; the input reads as it did. -/
def fnMsgSpec : ChangeSpec := { name := "fnMsg", fn := fun _ => fun
  | [d] => { results := [.lit (.bool true)], args := [d] }
  | _ => none }
def fnMsgRow : OpenClaim := { program := "ytpghedeghoegmaa", sum := "4aaaf949855b373af0f0c34edda361ece53c6958f537ed98ec5f0900ef5f62c8", func := "loop.example/g00097/laws.FnMsg", spec := "fnMsg", unfollowed := true, recurses := true, apart := false }
def FnMsgSaid : Prop := fnMsgRow.holds Try.pinned (OpenSpec.ofChange fnMsgSpec)

/-- ITS FALSE NEIGHBOUR: 'it returns false'. Refute it at one input. -/
def fnMsgWrong : ChangeSpec := { name := "fnMsg", fn := fun _ => fun
  | [d] => { results := [.lit (.bool false)], args := [d] }
  | _ => none }
def FnMsgWrongFalsely : Prop := fnMsgRow.holds Try.pinned (OpenSpec.ofChange fnMsgWrong)

/- THE SECOND FORM. 'bulk': how many values and letters a reading holds, each counted each time it is reached (what is shared counts as often as it is met; a slice's spare places count too). A statement '..UptoSaid' is the law's where the arguments, and the package variables that the reading takes, are together of bulk at most 1048576: NARROWER than '..Said'. Prove '..Said' where nothing that the law and all that it calls make is longer than what came in: it says more and counts as full. Else prove '..UptoSaid'. A law counts once. -/
mutual
def uptoBulk {H : Type} : DataW H → Nat
  | .lit (.string bytes) => bytes.length + 1
  | .lit _ => 1
  | .nil => 1
  | .ptr d => uptoBulk d + 1
  | .slice elems spare => uptoBulkAll elems + uptoBulkAll spare + 1
  | .agg parts => uptoBulkAll parts + 1
  | .iface _ d => uptoBulk d + 1
  | .map entries => uptoBulkEntries entries + 1
  | .held _ => 1
def uptoBulkAll {H : Type} : List (DataW H) → Nat
  | [] => 0
  | d :: r => uptoBulk d + uptoBulkAll r
def uptoBulkEntries {H : Type} : List (Lit × DataW H) → Nat
  | [] => 0
  | x :: r => uptoBulkEntry x + uptoBulkEntries r
def uptoBulkEntry {H : Type} : Lit × DataW H → Nat
  | (.string bytes, d) => bytes.length + uptoBulk d + 1
  | (_, d) => uptoBulk d + 1
 end
def uptoSmall : (H : Type) → List (DataW H) → Bool := fun _ ds => decide (uptoBulkAll ds ≤ 1048576)
def OpenSpec.upto (s : _root_.Go.ChangeSpec) : _root_.Go.OpenSpec := { _root_.Go.OpenSpec.ofChange s with cond := some uptoSmall }

/-- 'laws.FnExactPackMsg', WHERE WHAT IT READS IS OF BULK AT MOST 1048576: true; the input reads as it did. -/
def fnExactPackMsgUptoRow : OpenClaim := { program := "ytpghedeghoegmaa", sum := "4aaaf949855b373af0f0c34edda361ece53c6958f537ed98ec5f0900ef5f62c8", func := "loop.example/g00097/laws.FnExactPackMsg", spec := "fnExactPackMsg", unfollowed := true, recurses := true, apart := false, narrowed := true }
def FnExactPackMsgUptoSaid : Prop := fnExactPackMsgUptoRow.holds Try.pinned (OpenSpec.upto fnExactPackMsgSpec)

/-- 'laws.FnExactUnpackMsg', WHERE WHAT IT READS IS OF BULK AT MOST 1048576: true; the input reads as it did. -/
def fnExactUnpackMsgUptoRow : OpenClaim := { program := "ytpghedeghoegmaa", sum := "4aaaf949855b373af0f0c34edda361ece53c6958f537ed98ec5f0900ef5f62c8", func := "loop.example/g00097/laws.FnExactUnpackMsg", spec := "fnExactUnpackMsg", unfollowed := true, recurses := true, apart := false, narrowed := true }
def FnExactUnpackMsgUptoSaid : Prop := fnExactUnpackMsgUptoRow.holds Try.pinned (OpenSpec.upto fnExactUnpackMsgSpec)

/-- 'laws.FnSpoilt', WHERE WHAT IT READS IS OF BULK AT MOST 1048576: true; the input reads as it did. -/
def fnSpoiltUptoRow : OpenClaim := { program := "ytpghedeghoegmaa", sum := "4aaaf949855b373af0f0c34edda361ece53c6958f537ed98ec5f0900ef5f62c8", func := "loop.example/g00097/laws.FnSpoilt", spec := "fnSpoilt", unfollowed := true, recurses := true, apart := false, narrowed := true }
def FnSpoiltUptoSaid : Prop := fnSpoiltUptoRow.holds Try.pinned (OpenSpec.upto fnSpoiltSpec)

/-- 'laws.FnMsg', WHERE WHAT IT READS IS OF BULK AT MOST 1048576: true; the input reads as it did. -/
def fnMsgUptoRow : OpenClaim := { program := "ytpghedeghoegmaa", sum := "4aaaf949855b373af0f0c34edda361ece53c6958f537ed98ec5f0900ef5f62c8", func := "loop.example/g00097/laws.FnMsg", spec := "fnMsg", unfollowed := true, recurses := true, apart := false, narrowed := true }
def FnMsgUptoSaid : Prop := fnMsgUptoRow.holds Try.pinned (OpenSpec.upto fnMsgSpec)

end Rows
end Go.Proofs.Ytpghedeghoegmaa
