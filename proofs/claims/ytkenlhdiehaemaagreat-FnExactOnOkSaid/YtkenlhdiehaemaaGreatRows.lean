/-
  No cell of these rows narrows 'for every input' (looked for: loops, veiled, ifaces, maps, wideKeys, modest, calm, conditions, laid).
  DERIVED. THE GIVEN ROWS OF THIS SEAT. 9 by the template 'for every input the law returns true; each argument reads behind the call as it read before'; 0 by the template 'total and deterministic' (their statements: YtkenlhdiehaemaaGreatTotals.lean).
  GIVEN WITH THE SEED: the statements are not yours to turn. If you find one false, say at which input.
  Laid BY PROGRAM, IN A SANDBOX (cutbox-rows.mjs): the forced cells as the released guide's own fill.sh prints them over the translation 95275c3c06fe9bd3… (all of the seat's roots in one cut). By AI agents, Wed Nov 11 2026. No macro, syntax, notation, axiom, sorry.
-/
import Derived.Test.YtkenlhdiehaemaaGreatChecked
import GoSem.Claim
import GoSem.ClaimJoined
import GoSem.ClaimMapViews
import Derived.JoinedTies
import Derived.KernelRfl
namespace Go.Proofs.YtkenlhdiehaemaaGreat
/- THE CELL 'sum', in the pinned program and in every row, IS THE sha256 OF THE DUMP (.gsa) THAT YtkenlhdiehaemaaGreatProg.lean LOADS. Nothing in Lean hashes anything: it is a label: what it is worth is what the hold of that sum in a sandbox is worth. -/
noncomputable def Tryz.pinned : Pinned := { name := "ytkenlhdiehaemaagreat", sum := "95275c3c06fe9bd3481dad259773285afa97c5faa4bff46e86c910c95710e53e", checked := Tryz.checked }
namespace Rows
def none {H : Type} : Left H := { results := [], args := [] }

/-- 'laws.FnExactCommitted': WHATEVER THE INPUT: true; the input reads as it did. -/
def fnExactCommittedSpec : ChangeSpec := { name := "fnExactCommitted", fn := fun _ => fun
  | [d] => { results := [.lit (.bool true)], args := [d] }
  | _ => none }
def fnExactCommittedRow : OpenClaim := { program := "ytkenlhdiehaemaagreat", sum := "95275c3c06fe9bd3481dad259773285afa97c5faa4bff46e86c910c95710e53e", func := "loop.example/g00097/laws.FnExactCommitted", spec := "fnExactCommitted", inPlace := ["slices.overlaps[loop.example/g00097/impl.Cell]", "slices.overlaps[loop.example/g00097/impl.Seat]"], unfollowed := true, recurses := true, apart := false }
def FnExactCommittedSaid : Prop := fnExactCommittedRow.holds Tryz.pinned (OpenSpec.ofChange fnExactCommittedSpec)

/-- ITS FALSE NEIGHBOUR: 'it returns false'. Refute it at one input. -/
def fnExactCommittedWrong : ChangeSpec := { name := "fnExactCommitted", fn := fun _ => fun
  | [d] => { results := [.lit (.bool false)], args := [d] }
  | _ => none }
def FnExactCommittedWrongFalsely : Prop := fnExactCommittedRow.holds Tryz.pinned (OpenSpec.ofChange fnExactCommittedWrong)

/-- 'laws.FnExactOnCommit': WHATEVER THE INPUT: true; the input reads as it did. -/
def fnExactOnCommitSpec : ChangeSpec := { name := "fnExactOnCommit", fn := fun _ => fun
  | [d1, d2] => { results := [.lit (.bool true)], args := [d1, d2] }
  | _ => none }
def fnExactOnCommitRow : OpenClaim := { program := "ytkenlhdiehaemaagreat", sum := "95275c3c06fe9bd3481dad259773285afa97c5faa4bff46e86c910c95710e53e", func := "loop.example/g00097/laws.FnExactOnCommit", spec := "fnExactOnCommit", unfollowed := true, recurses := true, apart := false }
def FnExactOnCommitSaid : Prop := fnExactOnCommitRow.holds Tryz.pinned (OpenSpec.ofChange fnExactOnCommitSpec)

/-- ITS FALSE NEIGHBOUR: 'it returns false'. Refute it at one input. -/
def fnExactOnCommitWrong : ChangeSpec := { name := "fnExactOnCommit", fn := fun _ => fun
  | [d1, d2] => { results := [.lit (.bool false)], args := [d1, d2] }
  | _ => none }
def FnExactOnCommitWrongFalsely : Prop := fnExactOnCommitRow.holds Tryz.pinned (OpenSpec.ofChange fnExactOnCommitWrong)

/-- 'laws.FnExactOnStart': WHATEVER THE INPUT: true; the input reads as it did. -/
def fnExactOnStartSpec : ChangeSpec := { name := "fnExactOnStart", fn := fun _ => fun
  | [d1, d2] => { results := [.lit (.bool true)], args := [d1, d2] }
  | _ => none }
def fnExactOnStartRow : OpenClaim := { program := "ytkenlhdiehaemaagreat", sum := "95275c3c06fe9bd3481dad259773285afa97c5faa4bff46e86c910c95710e53e", func := "loop.example/g00097/laws.FnExactOnStart", spec := "fnExactOnStart", unfollowed := true, recurses := true, apart := false }
def FnExactOnStartSaid : Prop := fnExactOnStartRow.holds Tryz.pinned (OpenSpec.ofChange fnExactOnStartSpec)

/-- ITS FALSE NEIGHBOUR: 'it returns false'. Refute it at one input. -/
def fnExactOnStartWrong : ChangeSpec := { name := "fnExactOnStart", fn := fun _ => fun
  | [d1, d2] => { results := [.lit (.bool false)], args := [d1, d2] }
  | _ => none }
def FnExactOnStartWrongFalsely : Prop := fnExactOnStartRow.holds Tryz.pinned (OpenSpec.ofChange fnExactOnStartWrong)

/-- 'laws.FnExactOnState': WHATEVER THE INPUT: true; the input reads as it did. -/
def fnExactOnStateSpec : ChangeSpec := { name := "fnExactOnState", fn := fun _ => fun
  | [d1, d2] => { results := [.lit (.bool true)], args := [d1, d2] }
  | _ => none }
def fnExactOnStateRow : OpenClaim := { program := "ytkenlhdiehaemaagreat", sum := "95275c3c06fe9bd3481dad259773285afa97c5faa4bff46e86c910c95710e53e", func := "loop.example/g00097/laws.FnExactOnState", spec := "fnExactOnState", unfollowed := true, recurses := true, apart := false }
def FnExactOnStateSaid : Prop := fnExactOnStateRow.holds Tryz.pinned (OpenSpec.ofChange fnExactOnStateSpec)

/-- ITS FALSE NEIGHBOUR: 'it returns false'. Refute it at one input. -/
def fnExactOnStateWrong : ChangeSpec := { name := "fnExactOnState", fn := fun _ => fun
  | [d1, d2] => { results := [.lit (.bool false)], args := [d1, d2] }
  | _ => none }
def FnExactOnStateWrongFalsely : Prop := fnExactOnStateRow.holds Tryz.pinned (OpenSpec.ofChange fnExactOnStateWrong)

/-- 'laws.FnExactTurn': WHATEVER THE INPUT: true; the input reads as it did. -/
def fnExactTurnSpec : ChangeSpec := { name := "fnExactTurn", fn := fun _ => fun
  | [d] => { results := [.lit (.bool true)], args := [d] }
  | _ => none }
def fnExactTurnRow : OpenClaim := { program := "ytkenlhdiehaemaagreat", sum := "95275c3c06fe9bd3481dad259773285afa97c5faa4bff46e86c910c95710e53e", func := "loop.example/g00097/laws.FnExactTurn", spec := "fnExactTurn", unfollowed := true, recurses := true, apart := false }
def FnExactTurnSaid : Prop := fnExactTurnRow.holds Tryz.pinned (OpenSpec.ofChange fnExactTurnSpec)

/-- ITS FALSE NEIGHBOUR: 'it returns false'. Refute it at one input. -/
def fnExactTurnWrong : ChangeSpec := { name := "fnExactTurn", fn := fun _ => fun
  | [d] => { results := [.lit (.bool false)], args := [d] }
  | _ => none }
def FnExactTurnWrongFalsely : Prop := fnExactTurnRow.holds Tryz.pinned (OpenSpec.ofChange fnExactTurnWrong)

/-- 'laws.FnExactOnTurn': WHATEVER THE INPUT: true; the input reads as it did. -/
def fnExactOnTurnSpec : ChangeSpec := { name := "fnExactOnTurn", fn := fun _ => fun
  | [d1, d2] => { results := [.lit (.bool true)], args := [d1, d2] }
  | _ => none }
def fnExactOnTurnRow : OpenClaim := { program := "ytkenlhdiehaemaagreat", sum := "95275c3c06fe9bd3481dad259773285afa97c5faa4bff46e86c910c95710e53e", func := "loop.example/g00097/laws.FnExactOnTurn", spec := "fnExactOnTurn", unfollowed := true, recurses := true, apart := false }
def FnExactOnTurnSaid : Prop := fnExactOnTurnRow.holds Tryz.pinned (OpenSpec.ofChange fnExactOnTurnSpec)

/-- ITS FALSE NEIGHBOUR: 'it returns false'. Refute it at one input. -/
def fnExactOnTurnWrong : ChangeSpec := { name := "fnExactOnTurn", fn := fun _ => fun
  | [d1, d2] => { results := [.lit (.bool false)], args := [d1, d2] }
  | _ => none }
def FnExactOnTurnWrongFalsely : Prop := fnExactOnTurnRow.holds Tryz.pinned (OpenSpec.ofChange fnExactOnTurnWrong)

/-- 'laws.FnExactOnDo': WHATEVER THE INPUT: true; the input reads as it did. -/
def fnExactOnDoSpec : ChangeSpec := { name := "fnExactOnDo", fn := fun _ => fun
  | [d1, d2] => { results := [.lit (.bool true)], args := [d1, d2] }
  | _ => none }
def fnExactOnDoRow : OpenClaim := { program := "ytkenlhdiehaemaagreat", sum := "95275c3c06fe9bd3481dad259773285afa97c5faa4bff46e86c910c95710e53e", func := "loop.example/g00097/laws.FnExactOnDo", spec := "fnExactOnDo", unfollowed := true, recurses := true, apart := false }
def FnExactOnDoSaid : Prop := fnExactOnDoRow.holds Tryz.pinned (OpenSpec.ofChange fnExactOnDoSpec)

/-- ITS FALSE NEIGHBOUR: 'it returns false'. Refute it at one input. -/
def fnExactOnDoWrong : ChangeSpec := { name := "fnExactOnDo", fn := fun _ => fun
  | [d1, d2] => { results := [.lit (.bool false)], args := [d1, d2] }
  | _ => none }
def FnExactOnDoWrongFalsely : Prop := fnExactOnDoRow.holds Tryz.pinned (OpenSpec.ofChange fnExactOnDoWrong)

/-- 'laws.FnExactOnPrepare': WHATEVER THE INPUT: true; the input reads as it did. -/
def fnExactOnPrepareSpec : ChangeSpec := { name := "fnExactOnPrepare", fn := fun _ => fun
  | [d1, d2] => { results := [.lit (.bool true)], args := [d1, d2] }
  | _ => none }
def fnExactOnPrepareRow : OpenClaim := { program := "ytkenlhdiehaemaagreat", sum := "95275c3c06fe9bd3481dad259773285afa97c5faa4bff46e86c910c95710e53e", func := "loop.example/g00097/laws.FnExactOnPrepare", spec := "fnExactOnPrepare", inPlace := ["slices.overlaps[loop.example/g00097/impl.Cell]", "slices.overlaps[loop.example/g00097/impl.Seat]"], unfollowed := true, recurses := true, apart := false }
def FnExactOnPrepareSaid : Prop := fnExactOnPrepareRow.holds Tryz.pinned (OpenSpec.ofChange fnExactOnPrepareSpec)

/-- ITS FALSE NEIGHBOUR: 'it returns false'. Refute it at one input. -/
def fnExactOnPrepareWrong : ChangeSpec := { name := "fnExactOnPrepare", fn := fun _ => fun
  | [d1, d2] => { results := [.lit (.bool false)], args := [d1, d2] }
  | _ => none }
def FnExactOnPrepareWrongFalsely : Prop := fnExactOnPrepareRow.holds Tryz.pinned (OpenSpec.ofChange fnExactOnPrepareWrong)

/-- 'laws.FnExactOnOk': WHATEVER THE INPUT: true; the input reads as it did. -/
def fnExactOnOkSpec : ChangeSpec := { name := "fnExactOnOk", fn := fun _ => fun
  | [d1, d2] => { results := [.lit (.bool true)], args := [d1, d2] }
  | _ => none }
def fnExactOnOkRow : OpenClaim := { program := "ytkenlhdiehaemaagreat", sum := "95275c3c06fe9bd3481dad259773285afa97c5faa4bff46e86c910c95710e53e", func := "loop.example/g00097/laws.FnExactOnOk", spec := "fnExactOnOk", inPlace := ["slices.overlaps[loop.example/g00097/impl.Cell]", "slices.overlaps[loop.example/g00097/impl.Seat]"], unfollowed := true, recurses := true, apart := false }
def FnExactOnOkSaid : Prop := fnExactOnOkRow.holds Tryz.pinned (OpenSpec.ofChange fnExactOnOkSpec)

/-- ITS FALSE NEIGHBOUR: 'it returns false'. Refute it at one input. -/
def fnExactOnOkWrong : ChangeSpec := { name := "fnExactOnOk", fn := fun _ => fun
  | [d1, d2] => { results := [.lit (.bool false)], args := [d1, d2] }
  | _ => none }
def FnExactOnOkWrongFalsely : Prop := fnExactOnOkRow.holds Tryz.pinned (OpenSpec.ofChange fnExactOnOkWrong)

/- THE SECOND FORM. 'bulk': how many values and letters a reading holds, each counted each time it is reached (what is shared counts as often as it is met; a slice's spare places count too). A statement '..UptoSaid' is the law's where the arguments, and the package variables that the reading takes, are together of bulk at most 1048576: NARROWER than '..Said'. Prove '..Said' where nothing that the law and all that it calls make is longer than what came in: it says more and counts as full. Else prove '..UptoSaid'. A law counts once. -/
mutual
def uptoBulk {H : Type} : DataW H → Nat
  | .lit (.string bytes) => bytes.length + 1
  | .lit _ => 1
  | .nil => 1
  | .ptr d => uptoBulk d + 1
  | .slice elems spare => uptoBulkAll elems + uptoBulkAll spare + 1
  | .agg parts => uptoBulkAll parts + 1
  | .iface _ d => uptoBulk d + 1
  | .map entries => uptoBulkEntries entries + 1
  | .held _ => 1
def uptoBulkAll {H : Type} : List (DataW H) → Nat
  | [] => 0
  | d :: r => uptoBulk d + uptoBulkAll r
def uptoBulkEntries {H : Type} : List (Lit × DataW H) → Nat
  | [] => 0
  | x :: r => uptoBulkEntry x + uptoBulkEntries r
def uptoBulkEntry {H : Type} : Lit × DataW H → Nat
  | (.string bytes, d) => bytes.length + uptoBulk d + 1
  | (_, d) => uptoBulk d + 1
 end
def uptoSmall : (H : Type) → List (DataW H) → Bool := fun _ ds => decide (uptoBulkAll ds ≤ 1048576)
def OpenSpec.upto (s : _root_.Go.ChangeSpec) : _root_.Go.OpenSpec := { _root_.Go.OpenSpec.ofChange s with cond := some uptoSmall }

/-- 'laws.FnExactCommitted', WHERE WHAT IT READS IS OF BULK AT MOST 1048576: true; the input reads as it did. -/
def fnExactCommittedUptoRow : OpenClaim := { program := "ytkenlhdiehaemaagreat", sum := "95275c3c06fe9bd3481dad259773285afa97c5faa4bff46e86c910c95710e53e", func := "loop.example/g00097/laws.FnExactCommitted", spec := "fnExactCommitted", inPlace := ["slices.overlaps[loop.example/g00097/impl.Cell]", "slices.overlaps[loop.example/g00097/impl.Seat]"], unfollowed := true, recurses := true, apart := false, narrowed := true }
def FnExactCommittedUptoSaid : Prop := fnExactCommittedUptoRow.holds Tryz.pinned (OpenSpec.upto fnExactCommittedSpec)

/-- 'laws.FnExactOnCommit', WHERE WHAT IT READS IS OF BULK AT MOST 1048576: true; the input reads as it did. -/
def fnExactOnCommitUptoRow : OpenClaim := { program := "ytkenlhdiehaemaagreat", sum := "95275c3c06fe9bd3481dad259773285afa97c5faa4bff46e86c910c95710e53e", func := "loop.example/g00097/laws.FnExactOnCommit", spec := "fnExactOnCommit", unfollowed := true, recurses := true, apart := false, narrowed := true }
def FnExactOnCommitUptoSaid : Prop := fnExactOnCommitUptoRow.holds Tryz.pinned (OpenSpec.upto fnExactOnCommitSpec)

/-- 'laws.FnExactOnStart', WHERE WHAT IT READS IS OF BULK AT MOST 1048576: true; the input reads as it did. -/
def fnExactOnStartUptoRow : OpenClaim := { program := "ytkenlhdiehaemaagreat", sum := "95275c3c06fe9bd3481dad259773285afa97c5faa4bff46e86c910c95710e53e", func := "loop.example/g00097/laws.FnExactOnStart", spec := "fnExactOnStart", unfollowed := true, recurses := true, apart := false, narrowed := true }
def FnExactOnStartUptoSaid : Prop := fnExactOnStartUptoRow.holds Tryz.pinned (OpenSpec.upto fnExactOnStartSpec)

/-- 'laws.FnExactOnState', WHERE WHAT IT READS IS OF BULK AT MOST 1048576: true; the input reads as it did. -/
def fnExactOnStateUptoRow : OpenClaim := { program := "ytkenlhdiehaemaagreat", sum := "95275c3c06fe9bd3481dad259773285afa97c5faa4bff46e86c910c95710e53e", func := "loop.example/g00097/laws.FnExactOnState", spec := "fnExactOnState", unfollowed := true, recurses := true, apart := false, narrowed := true }
def FnExactOnStateUptoSaid : Prop := fnExactOnStateUptoRow.holds Tryz.pinned (OpenSpec.upto fnExactOnStateSpec)

/-- 'laws.FnExactTurn', WHERE WHAT IT READS IS OF BULK AT MOST 1048576: true; the input reads as it did. -/
def fnExactTurnUptoRow : OpenClaim := { program := "ytkenlhdiehaemaagreat", sum := "95275c3c06fe9bd3481dad259773285afa97c5faa4bff46e86c910c95710e53e", func := "loop.example/g00097/laws.FnExactTurn", spec := "fnExactTurn", unfollowed := true, recurses := true, apart := false, narrowed := true }
def FnExactTurnUptoSaid : Prop := fnExactTurnUptoRow.holds Tryz.pinned (OpenSpec.upto fnExactTurnSpec)

/-- 'laws.FnExactOnTurn', WHERE WHAT IT READS IS OF BULK AT MOST 1048576: true; the input reads as it did. -/
def fnExactOnTurnUptoRow : OpenClaim := { program := "ytkenlhdiehaemaagreat", sum := "95275c3c06fe9bd3481dad259773285afa97c5faa4bff46e86c910c95710e53e", func := "loop.example/g00097/laws.FnExactOnTurn", spec := "fnExactOnTurn", unfollowed := true, recurses := true, apart := false, narrowed := true }
def FnExactOnTurnUptoSaid : Prop := fnExactOnTurnUptoRow.holds Tryz.pinned (OpenSpec.upto fnExactOnTurnSpec)

/-- 'laws.FnExactOnDo', WHERE WHAT IT READS IS OF BULK AT MOST 1048576: true; the input reads as it did. -/
def fnExactOnDoUptoRow : OpenClaim := { program := "ytkenlhdiehaemaagreat", sum := "95275c3c06fe9bd3481dad259773285afa97c5faa4bff46e86c910c95710e53e", func := "loop.example/g00097/laws.FnExactOnDo", spec := "fnExactOnDo", unfollowed := true, recurses := true, apart := false, narrowed := true }
def FnExactOnDoUptoSaid : Prop := fnExactOnDoUptoRow.holds Tryz.pinned (OpenSpec.upto fnExactOnDoSpec)

/-- 'laws.FnExactOnPrepare', WHERE WHAT IT READS IS OF BULK AT MOST 1048576: true; the input reads as it did. -/
def fnExactOnPrepareUptoRow : OpenClaim := { program := "ytkenlhdiehaemaagreat", sum := "95275c3c06fe9bd3481dad259773285afa97c5faa4bff46e86c910c95710e53e", func := "loop.example/g00097/laws.FnExactOnPrepare", spec := "fnExactOnPrepare", inPlace := ["slices.overlaps[loop.example/g00097/impl.Cell]", "slices.overlaps[loop.example/g00097/impl.Seat]"], unfollowed := true, recurses := true, apart := false, narrowed := true }
def FnExactOnPrepareUptoSaid : Prop := fnExactOnPrepareUptoRow.holds Tryz.pinned (OpenSpec.upto fnExactOnPrepareSpec)

/-- 'laws.FnExactOnOk', WHERE WHAT IT READS IS OF BULK AT MOST 1048576: true; the input reads as it did. -/
def fnExactOnOkUptoRow : OpenClaim := { program := "ytkenlhdiehaemaagreat", sum := "95275c3c06fe9bd3481dad259773285afa97c5faa4bff46e86c910c95710e53e", func := "loop.example/g00097/laws.FnExactOnOk", spec := "fnExactOnOk", inPlace := ["slices.overlaps[loop.example/g00097/impl.Cell]", "slices.overlaps[loop.example/g00097/impl.Seat]"], unfollowed := true, recurses := true, apart := false, narrowed := true }
def FnExactOnOkUptoSaid : Prop := fnExactOnOkUptoRow.holds Tryz.pinned (OpenSpec.upto fnExactOnOkSpec)

end Rows
end Go.Proofs.YtkenlhdiehaemaaGreat
