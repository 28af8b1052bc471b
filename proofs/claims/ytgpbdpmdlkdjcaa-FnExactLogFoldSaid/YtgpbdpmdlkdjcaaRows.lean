/-
  No cell of these rows narrows 'for every input' (looked for: loops, veiled, ifaces, maps, wideKeys, modest, calm, conditions, laid).
  DERIVED. THE GIVEN ROWS OF THIS SEAT. 5 by the template 'for every input the law returns true; each argument reads behind the call as it read before'; 0 by the template 'total and deterministic' (their statements: YtgpbdpmdlkdjcaaTotals.lean).
  GIVEN WITH THE SEED: the statements are not yours to turn. If you find one false, say at which input.
  Laid BY PROGRAM, IN A SANDBOX (cutbox-rows.mjs): the forced cells as the released guide's own fill.sh prints them over the translation 722e5ca63025400e… (all of the seat's roots in one cut). By AI agents, Wed Nov 11 2026. No macro, syntax, notation, axiom, sorry.
-/
import Derived.Test.YtgpbdpmdlkdjcaaChecked
import GoSem.Claim
import GoSem.ClaimJoined
import GoSem.ClaimMapViews
import Derived.JoinedTies
import Derived.KernelRfl
namespace Go.Proofs.Ytgpbdpmdlkdjcaa
/- THE CELL 'sum', in the pinned program and in every row, IS THE sha256 OF THE DUMP (.gsa) THAT YtgpbdpmdlkdjcaaProg.lean LOADS. Nothing in Lean hashes anything: it is a label: what it is worth is what the hold of that sum in a sandbox is worth. -/
noncomputable def Try.pinned : Pinned := { name := "ytgpbdpmdlkdjcaa", sum := "722e5ca63025400ea0aba82151c0ab41764a0834fdcd5e507a8a4245178c2007", checked := Try.checked }
namespace Rows
def none {H : Type} : Left H := { results := [], args := [] }

/-- 'laws.FnExactBestVote': WHATEVER THE INPUT: true; the input reads as it did. -/
def fnExactBestVoteSpec : ChangeSpec := { name := "fnExactBestVote", fn := fun _ => fun
  | [d] => { results := [.lit (.bool true)], args := [d] }
  | _ => none }
def fnExactBestVoteRow : OpenClaim := { program := "ytgpbdpmdlkdjcaa", sum := "722e5ca63025400ea0aba82151c0ab41764a0834fdcd5e507a8a4245178c2007", func := "loop.example/g00097/laws.FnExactBestVote", spec := "fnExactBestVote", unfollowed := true, recurses := true, apart := false }
def FnExactBestVoteSaid : Prop := fnExactBestVoteRow.holds Try.pinned (OpenSpec.ofChange fnExactBestVoteSpec)

/-- ITS FALSE NEIGHBOUR: 'it returns false'. Refute it at one input. -/
def fnExactBestVoteWrong : ChangeSpec := { name := "fnExactBestVote", fn := fun _ => fun
  | [d] => { results := [.lit (.bool false)], args := [d] }
  | _ => none }
def FnExactBestVoteWrongFalsely : Prop := fnExactBestVoteRow.holds Try.pinned (OpenSpec.ofChange fnExactBestVoteWrong)

/-- 'laws.FnExactMsgFits': WHATEVER THE INPUT: true; the input reads as it did. -/
def fnExactMsgFitsSpec : ChangeSpec := { name := "fnExactMsgFits", fn := fun _ => fun
  | [d] => { results := [.lit (.bool true)], args := [d] }
  | _ => none }
def fnExactMsgFitsRow : OpenClaim := { program := "ytgpbdpmdlkdjcaa", sum := "722e5ca63025400ea0aba82151c0ab41764a0834fdcd5e507a8a4245178c2007", func := "loop.example/g00097/laws.FnExactMsgFits", spec := "fnExactMsgFits", unfollowed := true, recurses := true, apart := false }
def FnExactMsgFitsSaid : Prop := fnExactMsgFitsRow.holds Try.pinned (OpenSpec.ofChange fnExactMsgFitsSpec)

/-- ITS FALSE NEIGHBOUR: 'it returns false'. Refute it at one input. -/
def fnExactMsgFitsWrong : ChangeSpec := { name := "fnExactMsgFits", fn := fun _ => fun
  | [d] => { results := [.lit (.bool false)], args := [d] }
  | _ => none }
def FnExactMsgFitsWrongFalsely : Prop := fnExactMsgFitsRow.holds Try.pinned (OpenSpec.ofChange fnExactMsgFitsWrong)

/-- 'laws.FnExactSettled': WHATEVER THE INPUT: true; the input reads as it did. -/
def fnExactSettledSpec : ChangeSpec := { name := "fnExactSettled", fn := fun _ => fun
  | [d] => { results := [.lit (.bool true)], args := [d] }
  | _ => none }
def fnExactSettledRow : OpenClaim := { program := "ytgpbdpmdlkdjcaa", sum := "722e5ca63025400ea0aba82151c0ab41764a0834fdcd5e507a8a4245178c2007", func := "loop.example/g00097/laws.FnExactSettled", spec := "fnExactSettled", unfollowed := true, recurses := true, apart := false }
def FnExactSettledSaid : Prop := fnExactSettledRow.holds Try.pinned (OpenSpec.ofChange fnExactSettledSpec)

/-- ITS FALSE NEIGHBOUR: 'it returns false'. Refute it at one input. -/
def fnExactSettledWrong : ChangeSpec := { name := "fnExactSettled", fn := fun _ => fun
  | [d] => { results := [.lit (.bool false)], args := [d] }
  | _ => none }
def FnExactSettledWrongFalsely : Prop := fnExactSettledRow.holds Try.pinned (OpenSpec.ofChange fnExactSettledWrong)

/-- 'laws.FnExactLogFold': WHATEVER THE INPUT: true; the input reads as it did. -/
def fnExactLogFoldSpec : ChangeSpec := { name := "fnExactLogFold", fn := fun _ => fun
  | [d1, d2] => { results := [.lit (.bool true)], args := [d1, d2] }
  | _ => none }
def fnExactLogFoldRow : OpenClaim := { program := "ytgpbdpmdlkdjcaa", sum := "722e5ca63025400ea0aba82151c0ab41764a0834fdcd5e507a8a4245178c2007", func := "loop.example/g00097/laws.FnExactLogFold", spec := "fnExactLogFold", inPlace := ["slices.overlaps[loop.example/g00097/impl.Cell]", "slices.overlaps[loop.example/g00097/impl.Seat]"], unfollowed := true, recurses := true, apart := false }
def FnExactLogFoldSaid : Prop := fnExactLogFoldRow.holds Try.pinned (OpenSpec.ofChange fnExactLogFoldSpec)

/-- ITS FALSE NEIGHBOUR: 'it returns false'. Refute it at one input. -/
def fnExactLogFoldWrong : ChangeSpec := { name := "fnExactLogFold", fn := fun _ => fun
  | [d1, d2] => { results := [.lit (.bool false)], args := [d1, d2] }
  | _ => none }
def FnExactLogFoldWrongFalsely : Prop := fnExactLogFoldRow.holds Try.pinned (OpenSpec.ofChange fnExactLogFoldWrong)

/-- 'laws.FnExactCrash': WHATEVER THE INPUT: true; the input reads as it did. -/
def fnExactCrashSpec : ChangeSpec := { name := "fnExactCrash", fn := fun _ => fun
  | [d] => { results := [.lit (.bool true)], args := [d] }
  | _ => none }
def fnExactCrashRow : OpenClaim := { program := "ytgpbdpmdlkdjcaa", sum := "722e5ca63025400ea0aba82151c0ab41764a0834fdcd5e507a8a4245178c2007", func := "loop.example/g00097/laws.FnExactCrash", spec := "fnExactCrash", unfollowed := true, recurses := true, apart := false }
def FnExactCrashSaid : Prop := fnExactCrashRow.holds Try.pinned (OpenSpec.ofChange fnExactCrashSpec)

/-- ITS FALSE NEIGHBOUR: 'it returns false'. Refute it at one input. -/
def fnExactCrashWrong : ChangeSpec := { name := "fnExactCrash", fn := fun _ => fun
  | [d] => { results := [.lit (.bool false)], args := [d] }
  | _ => none }
def FnExactCrashWrongFalsely : Prop := fnExactCrashRow.holds Try.pinned (OpenSpec.ofChange fnExactCrashWrong)

/- THE SECOND FORM. 'bulk': how many values and letters a reading holds, each counted each time it is reached (what is shared counts as often as it is met; a slice's spare places count too). A statement '..UptoSaid' is the law's where the arguments, and the package variables that the reading takes, are together of bulk at most 1048576: NARROWER than '..Said'. Prove '..Said' where nothing that the law and all that it calls make is longer than what came in: it says more and counts as full. Else prove '..UptoSaid'. A law counts once. -/
mutual
def uptoBulk {H : Type} : DataW H → Nat
  | .lit (.string bytes) => bytes.length + 1
  | .lit _ => 1
  | .nil => 1
  | .ptr d => uptoBulk d + 1
  | .slice elems spare => uptoBulkAll elems + uptoBulkAll spare + 1
  | .agg parts => uptoBulkAll parts + 1
  | .iface _ d => uptoBulk d + 1
  | .map entries => uptoBulkEntries entries + 1
  | .held _ => 1
def uptoBulkAll {H : Type} : List (DataW H) → Nat
  | [] => 0
  | d :: r => uptoBulk d + uptoBulkAll r
def uptoBulkEntries {H : Type} : List (Lit × DataW H) → Nat
  | [] => 0
  | x :: r => uptoBulkEntry x + uptoBulkEntries r
def uptoBulkEntry {H : Type} : Lit × DataW H → Nat
  | (.string bytes, d) => bytes.length + uptoBulk d + 1
  | (_, d) => uptoBulk d + 1
 end
def uptoSmall : (H : Type) → List (DataW H) → Bool := fun _ ds => decide (uptoBulkAll ds ≤ 1048576)
def OpenSpec.upto (s : _root_.Go.ChangeSpec) : _root_.Go.OpenSpec := { _root_.Go.OpenSpec.ofChange s with cond := some uptoSmall }

/-- 'laws.FnExactBestVote', WHERE WHAT IT READS IS OF BULK AT MOST 1048576: true; the input reads as it did. -/
def fnExactBestVoteUptoRow : OpenClaim := { program := "ytgpbdpmdlkdjcaa", sum := "722e5ca63025400ea0aba82151c0ab41764a0834fdcd5e507a8a4245178c2007", func := "loop.example/g00097/laws.FnExactBestVote", spec := "fnExactBestVote", unfollowed := true, recurses := true, apart := false, narrowed := true }
def FnExactBestVoteUptoSaid : Prop := fnExactBestVoteUptoRow.holds Try.pinned (OpenSpec.upto fnExactBestVoteSpec)

/-- 'laws.FnExactMsgFits', WHERE WHAT IT READS IS OF BULK AT MOST 1048576: true; the input reads as it did. -/
def fnExactMsgFitsUptoRow : OpenClaim := { program := "ytgpbdpmdlkdjcaa", sum := "722e5ca63025400ea0aba82151c0ab41764a0834fdcd5e507a8a4245178c2007", func := "loop.example/g00097/laws.FnExactMsgFits", spec := "fnExactMsgFits", unfollowed := true, recurses := true, apart := false, narrowed := true }
def FnExactMsgFitsUptoSaid : Prop := fnExactMsgFitsUptoRow.holds Try.pinned (OpenSpec.upto fnExactMsgFitsSpec)

/-- 'laws.FnExactSettled', WHERE WHAT IT READS IS OF BULK AT MOST 1048576: true; the input reads as it did. -/
def fnExactSettledUptoRow : OpenClaim := { program := "ytgpbdpmdlkdjcaa", sum := "722e5ca63025400ea0aba82151c0ab41764a0834fdcd5e507a8a4245178c2007", func := "loop.example/g00097/laws.FnExactSettled", spec := "fnExactSettled", unfollowed := true, recurses := true, apart := false, narrowed := true }
def FnExactSettledUptoSaid : Prop := fnExactSettledUptoRow.holds Try.pinned (OpenSpec.upto fnExactSettledSpec)

/-- 'laws.FnExactLogFold', WHERE WHAT IT READS IS OF BULK AT MOST 1048576: true; the input reads as it did. -/
def fnExactLogFoldUptoRow : OpenClaim := { program := "ytgpbdpmdlkdjcaa", sum := "722e5ca63025400ea0aba82151c0ab41764a0834fdcd5e507a8a4245178c2007", func := "loop.example/g00097/laws.FnExactLogFold", spec := "fnExactLogFold", inPlace := ["slices.overlaps[loop.example/g00097/impl.Cell]", "slices.overlaps[loop.example/g00097/impl.Seat]"], unfollowed := true, recurses := true, apart := false, narrowed := true }
def FnExactLogFoldUptoSaid : Prop := fnExactLogFoldUptoRow.holds Try.pinned (OpenSpec.upto fnExactLogFoldSpec)

/-- 'laws.FnExactCrash', WHERE WHAT IT READS IS OF BULK AT MOST 1048576: true; the input reads as it did. -/
def fnExactCrashUptoRow : OpenClaim := { program := "ytgpbdpmdlkdjcaa", sum := "722e5ca63025400ea0aba82151c0ab41764a0834fdcd5e507a8a4245178c2007", func := "loop.example/g00097/laws.FnExactCrash", spec := "fnExactCrash", unfollowed := true, recurses := true, apart := false, narrowed := true }
def FnExactCrashUptoSaid : Prop := fnExactCrashUptoRow.holds Try.pinned (OpenSpec.upto fnExactCrashSpec)

end Rows
end Go.Proofs.Ytgpbdpmdlkdjcaa
