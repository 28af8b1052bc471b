/-
  No cell of these rows narrows 'for every input' (looked for: loops, veiled, ifaces, maps, wideKeys, modest, calm, conditions, laid).
  DERIVED. THE GIVEN ROWS OF THIS SEAT. 16 by the template 'for every input the law returns true; each argument reads behind the call as it read before'; 0 by the template 'total and deterministic' (their statements: YtinfkgbgeajphaaTotals.lean).
  GIVEN WITH THE SEED: the statements are not yours to turn. If you find one false, say at which input.
  Laid BY PROGRAM, IN A SANDBOX (cutbox-rows.mjs): the forced cells as the released guide's own fill.sh prints them over the translation 81c85a053024ae2b… (all of the seat's roots in one cut). By AI agents, Wed Nov 11 2026. No macro, syntax, notation, axiom, sorry.
-/
import Derived.Test.YtinfkgbgeajphaaChecked
import GoSem.Claim
import GoSem.ClaimJoined
import GoSem.ClaimMapViews
import Derived.JoinedTies
import Derived.KernelRfl
namespace Go.Proofs.Ytinfkgbgeajphaa
/- THE CELL 'sum', in the pinned program and in every row, IS THE sha256 OF THE DUMP (.gsa) THAT YtinfkgbgeajphaaProg.lean LOADS. Nothing in Lean hashes anything: it is a label: what it is worth is what the hold of that sum in a sandbox is worth. -/
noncomputable def Try.pinned : Pinned := { name := "ytinfkgbgeajphaa", sum := "81c85a053024ae2b5398de8af90119c78c82920d11b9251da2fcbb3e53d5d8b7", checked := Try.checked }
namespace Rows
def none {H : Type} : Left H := { results := [], args := [] }

/-- 'laws.FnExactRangeOk': WHATEVER THE INPUT: true; the input reads as it did. -/
def fnExactRangeOkSpec : ChangeSpec := { name := "fnExactRangeOk", fn := fun _ => fun
  | [d] => { results := [.lit (.bool true)], args := [d] }
  | _ => none }
def fnExactRangeOkRow : OpenClaim := { program := "ytinfkgbgeajphaa", sum := "81c85a053024ae2b5398de8af90119c78c82920d11b9251da2fcbb3e53d5d8b7", func := "loop.example/g00097/laws.FnExactRangeOk", spec := "fnExactRangeOk", apart := false }
def FnExactRangeOkSaid : Prop := fnExactRangeOkRow.holds Try.pinned (OpenSpec.ofChange fnExactRangeOkSpec)

/-- ITS FALSE NEIGHBOUR: 'it returns false'. Refute it at one input. -/
def fnExactRangeOkWrong : ChangeSpec := { name := "fnExactRangeOk", fn := fun _ => fun
  | [d] => { results := [.lit (.bool false)], args := [d] }
  | _ => none }
def FnExactRangeOkWrongFalsely : Prop := fnExactRangeOkRow.holds Try.pinned (OpenSpec.ofChange fnExactRangeOkWrong)

/-- 'laws.FnExactRangeIn': WHATEVER THE INPUT: true; the input reads as it did. -/
def fnExactRangeInSpec : ChangeSpec := { name := "fnExactRangeIn", fn := fun _ => fun
  | [d1, d2] => { results := [.lit (.bool true)], args := [d1, d2] }
  | _ => none }
def fnExactRangeInRow : OpenClaim := { program := "ytinfkgbgeajphaa", sum := "81c85a053024ae2b5398de8af90119c78c82920d11b9251da2fcbb3e53d5d8b7", func := "loop.example/g00097/laws.FnExactRangeIn", spec := "fnExactRangeIn", apart := false }
def FnExactRangeInSaid : Prop := fnExactRangeInRow.holds Try.pinned (OpenSpec.ofChange fnExactRangeInSpec)

/-- ITS FALSE NEIGHBOUR: 'it returns false'. Refute it at one input. -/
def fnExactRangeInWrong : ChangeSpec := { name := "fnExactRangeIn", fn := fun _ => fun
  | [d1, d2] => { results := [.lit (.bool false)], args := [d1, d2] }
  | _ => none }
def FnExactRangeInWrongFalsely : Prop := fnExactRangeInRow.holds Try.pinned (OpenSpec.ofChange fnExactRangeInWrong)

/-- 'laws.FnExactRangeMeet': WHATEVER THE INPUT: true; the input reads as it did. -/
def fnExactRangeMeetSpec : ChangeSpec := { name := "fnExactRangeMeet", fn := fun _ => fun
  | [d1, d2] => { results := [.lit (.bool true)], args := [d1, d2] }
  | _ => none }
def fnExactRangeMeetRow : OpenClaim := { program := "ytinfkgbgeajphaa", sum := "81c85a053024ae2b5398de8af90119c78c82920d11b9251da2fcbb3e53d5d8b7", func := "loop.example/g00097/laws.FnExactRangeMeet", spec := "fnExactRangeMeet", apart := false }
def FnExactRangeMeetSaid : Prop := fnExactRangeMeetRow.holds Try.pinned (OpenSpec.ofChange fnExactRangeMeetSpec)

/-- ITS FALSE NEIGHBOUR: 'it returns false'. Refute it at one input. -/
def fnExactRangeMeetWrong : ChangeSpec := { name := "fnExactRangeMeet", fn := fun _ => fun
  | [d1, d2] => { results := [.lit (.bool false)], args := [d1, d2] }
  | _ => none }
def FnExactRangeMeetWrongFalsely : Prop := fnExactRangeMeetRow.holds Try.pinned (OpenSpec.ofChange fnExactRangeMeetWrong)

/-- 'laws.FnExactRangesOk': WHATEVER THE INPUT: true; the input reads as it did. -/
def fnExactRangesOkSpec : ChangeSpec := { name := "fnExactRangesOk", fn := fun _ => fun
  | [d] => { results := [.lit (.bool true)], args := [d] }
  | _ => none }
def fnExactRangesOkRow : OpenClaim := { program := "ytinfkgbgeajphaa", sum := "81c85a053024ae2b5398de8af90119c78c82920d11b9251da2fcbb3e53d5d8b7", func := "loop.example/g00097/laws.FnExactRangesOk", spec := "fnExactRangesOk", apart := false }
def FnExactRangesOkSaid : Prop := fnExactRangesOkRow.holds Try.pinned (OpenSpec.ofChange fnExactRangesOkSpec)

/-- ITS FALSE NEIGHBOUR: 'it returns false'. Refute it at one input. -/
def fnExactRangesOkWrong : ChangeSpec := { name := "fnExactRangesOk", fn := fun _ => fun
  | [d] => { results := [.lit (.bool false)], args := [d] }
  | _ => none }
def FnExactRangesOkWrongFalsely : Prop := fnExactRangesOkRow.holds Try.pinned (OpenSpec.ofChange fnExactRangesOkWrong)

/-- 'laws.FnExactWritesOk': WHATEVER THE INPUT: true; the input reads as it did. -/
def fnExactWritesOkSpec : ChangeSpec := { name := "fnExactWritesOk", fn := fun _ => fun
  | [d] => { results := [.lit (.bool true)], args := [d] }
  | _ => none }
def fnExactWritesOkRow : OpenClaim := { program := "ytinfkgbgeajphaa", sum := "81c85a053024ae2b5398de8af90119c78c82920d11b9251da2fcbb3e53d5d8b7", func := "loop.example/g00097/laws.FnExactWritesOk", spec := "fnExactWritesOk", apart := false }
def FnExactWritesOkSaid : Prop := fnExactWritesOkRow.holds Try.pinned (OpenSpec.ofChange fnExactWritesOkSpec)

/-- ITS FALSE NEIGHBOUR: 'it returns false'. Refute it at one input. -/
def fnExactWritesOkWrong : ChangeSpec := { name := "fnExactWritesOk", fn := fun _ => fun
  | [d] => { results := [.lit (.bool false)], args := [d] }
  | _ => none }
def FnExactWritesOkWrongFalsely : Prop := fnExactWritesOkRow.holds Try.pinned (OpenSpec.ofChange fnExactWritesOkWrong)

/-- 'laws.FnExactGoOk': WHATEVER THE INPUT: true; the input reads as it did. -/
def fnExactGoOkSpec : ChangeSpec := { name := "fnExactGoOk", fn := fun _ => fun
  | [d] => { results := [.lit (.bool true)], args := [d] }
  | _ => none }
def fnExactGoOkRow : OpenClaim := { program := "ytinfkgbgeajphaa", sum := "81c85a053024ae2b5398de8af90119c78c82920d11b9251da2fcbb3e53d5d8b7", func := "loop.example/g00097/laws.FnExactGoOk", spec := "fnExactGoOk", apart := false }
def FnExactGoOkSaid : Prop := fnExactGoOkRow.holds Try.pinned (OpenSpec.ofChange fnExactGoOkSpec)

/-- ITS FALSE NEIGHBOUR: 'it returns false'. Refute it at one input. -/
def fnExactGoOkWrong : ChangeSpec := { name := "fnExactGoOk", fn := fun _ => fun
  | [d] => { results := [.lit (.bool false)], args := [d] }
  | _ => none }
def FnExactGoOkWrongFalsely : Prop := fnExactGoOkRow.holds Try.pinned (OpenSpec.ofChange fnExactGoOkWrong)

/-- 'laws.FnExactPartsOk': WHATEVER THE INPUT: true; the input reads as it did. -/
def fnExactPartsOkSpec : ChangeSpec := { name := "fnExactPartsOk", fn := fun _ => fun
  | [d] => { results := [.lit (.bool true)], args := [d] }
  | _ => none }
def fnExactPartsOkRow : OpenClaim := { program := "ytinfkgbgeajphaa", sum := "81c85a053024ae2b5398de8af90119c78c82920d11b9251da2fcbb3e53d5d8b7", func := "loop.example/g00097/laws.FnExactPartsOk", spec := "fnExactPartsOk", apart := false }
def FnExactPartsOkSaid : Prop := fnExactPartsOkRow.holds Try.pinned (OpenSpec.ofChange fnExactPartsOkSpec)

/-- ITS FALSE NEIGHBOUR: 'it returns false'. Refute it at one input. -/
def fnExactPartsOkWrong : ChangeSpec := { name := "fnExactPartsOk", fn := fun _ => fun
  | [d] => { results := [.lit (.bool false)], args := [d] }
  | _ => none }
def FnExactPartsOkWrongFalsely : Prop := fnExactPartsOkRow.holds Try.pinned (OpenSpec.ofChange fnExactPartsOkWrong)

/-- 'laws.FnExactRangesHave': WHATEVER THE INPUT: true; the input reads as it did. -/
def fnExactRangesHaveSpec : ChangeSpec := { name := "fnExactRangesHave", fn := fun _ => fun
  | [d1, d2] => { results := [.lit (.bool true)], args := [d1, d2] }
  | _ => none }
def fnExactRangesHaveRow : OpenClaim := { program := "ytinfkgbgeajphaa", sum := "81c85a053024ae2b5398de8af90119c78c82920d11b9251da2fcbb3e53d5d8b7", func := "loop.example/g00097/laws.FnExactRangesHave", spec := "fnExactRangesHave", apart := false }
def FnExactRangesHaveSaid : Prop := fnExactRangesHaveRow.holds Try.pinned (OpenSpec.ofChange fnExactRangesHaveSpec)

/-- ITS FALSE NEIGHBOUR: 'it returns false'. Refute it at one input. -/
def fnExactRangesHaveWrong : ChangeSpec := { name := "fnExactRangesHave", fn := fun _ => fun
  | [d1, d2] => { results := [.lit (.bool false)], args := [d1, d2] }
  | _ => none }
def FnExactRangesHaveWrongFalsely : Prop := fnExactRangesHaveRow.holds Try.pinned (OpenSpec.ofChange fnExactRangesHaveWrong)

/-- 'laws.FnExactPartAt': WHATEVER THE INPUT: true; the input reads as it did. -/
def fnExactPartAtSpec : ChangeSpec := { name := "fnExactPartAt", fn := fun _ => fun
  | [d1, d2] => { results := [.lit (.bool true)], args := [d1, d2] }
  | _ => none }
def fnExactPartAtRow : OpenClaim := { program := "ytinfkgbgeajphaa", sum := "81c85a053024ae2b5398de8af90119c78c82920d11b9251da2fcbb3e53d5d8b7", func := "loop.example/g00097/laws.FnExactPartAt", spec := "fnExactPartAt", unfollowed := true, recurses := true, apart := false }
def FnExactPartAtSaid : Prop := fnExactPartAtRow.holds Try.pinned (OpenSpec.ofChange fnExactPartAtSpec)

/-- ITS FALSE NEIGHBOUR: 'it returns false'. Refute it at one input. -/
def fnExactPartAtWrong : ChangeSpec := { name := "fnExactPartAt", fn := fun _ => fun
  | [d1, d2] => { results := [.lit (.bool false)], args := [d1, d2] }
  | _ => none }
def FnExactPartAtWrongFalsely : Prop := fnExactPartAtRow.holds Try.pinned (OpenSpec.ofChange fnExactPartAtWrong)

/-- 'laws.FnExactGiveTo': WHATEVER THE INPUT: true; the input reads as it did. -/
def fnExactGiveToSpec : ChangeSpec := { name := "fnExactGiveTo", fn := fun _ => fun
  | [d1, d2, d3] => { results := [.lit (.bool true)], args := [d1, d2, d3] }
  | _ => none }
def fnExactGiveToRow : OpenClaim := { program := "ytinfkgbgeajphaa", sum := "81c85a053024ae2b5398de8af90119c78c82920d11b9251da2fcbb3e53d5d8b7", func := "loop.example/g00097/laws.FnExactGiveTo", spec := "fnExactGiveTo", unfollowed := true, recurses := true, apart := false }
def FnExactGiveToSaid : Prop := fnExactGiveToRow.holds Try.pinned (OpenSpec.ofChange fnExactGiveToSpec)

/-- ITS FALSE NEIGHBOUR: 'it returns false'. Refute it at one input. -/
def fnExactGiveToWrong : ChangeSpec := { name := "fnExactGiveTo", fn := fun _ => fun
  | [d1, d2, d3] => { results := [.lit (.bool false)], args := [d1, d2, d3] }
  | _ => none }
def FnExactGiveToWrongFalsely : Prop := fnExactGiveToRow.holds Try.pinned (OpenSpec.ofChange fnExactGiveToWrong)

/-- 'laws.FnExactRangesLess': WHATEVER THE INPUT: true; the input reads as it did. -/
def fnExactRangesLessSpec : ChangeSpec := { name := "fnExactRangesLess", fn := fun _ => fun
  | [d1, d2] => { results := [.lit (.bool true)], args := [d1, d2] }
  | _ => none }
def fnExactRangesLessRow : OpenClaim := { program := "ytinfkgbgeajphaa", sum := "81c85a053024ae2b5398de8af90119c78c82920d11b9251da2fcbb3e53d5d8b7", func := "loop.example/g00097/laws.FnExactRangesLess", spec := "fnExactRangesLess", unfollowed := true, recurses := true, apart := false }
def FnExactRangesLessSaid : Prop := fnExactRangesLessRow.holds Try.pinned (OpenSpec.ofChange fnExactRangesLessSpec)

/-- ITS FALSE NEIGHBOUR: 'it returns false'. Refute it at one input. -/
def fnExactRangesLessWrong : ChangeSpec := { name := "fnExactRangesLess", fn := fun _ => fun
  | [d1, d2] => { results := [.lit (.bool false)], args := [d1, d2] }
  | _ => none }
def FnExactRangesLessWrongFalsely : Prop := fnExactRangesLessRow.holds Try.pinned (OpenSpec.ofChange fnExactRangesLessWrong)

/-- 'laws.FnExactRangesPlus': WHATEVER THE INPUT: true; the input reads as it did. -/
def fnExactRangesPlusSpec : ChangeSpec := { name := "fnExactRangesPlus", fn := fun _ => fun
  | [d1, d2] => { results := [.lit (.bool true)], args := [d1, d2] }
  | _ => none }
def fnExactRangesPlusRow : OpenClaim := { program := "ytinfkgbgeajphaa", sum := "81c85a053024ae2b5398de8af90119c78c82920d11b9251da2fcbb3e53d5d8b7", func := "loop.example/g00097/laws.FnExactRangesPlus", spec := "fnExactRangesPlus", unfollowed := true, recurses := true, apart := false }
def FnExactRangesPlusSaid : Prop := fnExactRangesPlusRow.holds Try.pinned (OpenSpec.ofChange fnExactRangesPlusSpec)

/-- ITS FALSE NEIGHBOUR: 'it returns false'. Refute it at one input. -/
def fnExactRangesPlusWrong : ChangeSpec := { name := "fnExactRangesPlus", fn := fun _ => fun
  | [d1, d2] => { results := [.lit (.bool false)], args := [d1, d2] }
  | _ => none }
def FnExactRangesPlusWrongFalsely : Prop := fnExactRangesPlusRow.holds Try.pinned (OpenSpec.ofChange fnExactRangesPlusWrong)

/-- 'laws.FnExactRangesOf': WHATEVER THE INPUT: true; the input reads as it did. -/
def fnExactRangesOfSpec : ChangeSpec := { name := "fnExactRangesOf", fn := fun _ => fun
  | [d1, d2] => { results := [.lit (.bool true)], args := [d1, d2] }
  | _ => none }
def fnExactRangesOfRow : OpenClaim := { program := "ytinfkgbgeajphaa", sum := "81c85a053024ae2b5398de8af90119c78c82920d11b9251da2fcbb3e53d5d8b7", func := "loop.example/g00097/laws.FnExactRangesOf", spec := "fnExactRangesOf", unfollowed := true, recurses := true, apart := false }
def FnExactRangesOfSaid : Prop := fnExactRangesOfRow.holds Try.pinned (OpenSpec.ofChange fnExactRangesOfSpec)

/-- ITS FALSE NEIGHBOUR: 'it returns false'. Refute it at one input. -/
def fnExactRangesOfWrong : ChangeSpec := { name := "fnExactRangesOf", fn := fun _ => fun
  | [d1, d2] => { results := [.lit (.bool false)], args := [d1, d2] }
  | _ => none }
def FnExactRangesOfWrongFalsely : Prop := fnExactRangesOfRow.holds Try.pinned (OpenSpec.ofChange fnExactRangesOfWrong)

/-- 'laws.FnRanges10': WHATEVER THE INPUT: true; the input reads as it did. -/
def fnRanges10Spec : ChangeSpec := { name := "fnRanges10", fn := fun _ => fun
  | [d] => { results := [.lit (.bool true)], args := [d] }
  | _ => none }
def fnRanges10Row : OpenClaim := { program := "ytinfkgbgeajphaa", sum := "81c85a053024ae2b5398de8af90119c78c82920d11b9251da2fcbb3e53d5d8b7", func := "loop.example/g00097/laws.FnRanges10", spec := "fnRanges10", unfollowed := true, recurses := true, apart := false }
def FnRanges10Said : Prop := fnRanges10Row.holds Try.pinned (OpenSpec.ofChange fnRanges10Spec)

/-- ITS FALSE NEIGHBOUR: 'it returns false'. Refute it at one input. -/
def fnRanges10Wrong : ChangeSpec := { name := "fnRanges10", fn := fun _ => fun
  | [d] => { results := [.lit (.bool false)], args := [d] }
  | _ => none }
def FnRanges10WrongFalsely : Prop := fnRanges10Row.holds Try.pinned (OpenSpec.ofChange fnRanges10Wrong)

/-- 'laws.FnExactSplitAt': WHATEVER THE INPUT: true; the input reads as it did. -/
def fnExactSplitAtSpec : ChangeSpec := { name := "fnExactSplitAt", fn := fun _ => fun
  | [d1, d2] => { results := [.lit (.bool true)], args := [d1, d2] }
  | _ => none }
def fnExactSplitAtRow : OpenClaim := { program := "ytinfkgbgeajphaa", sum := "81c85a053024ae2b5398de8af90119c78c82920d11b9251da2fcbb3e53d5d8b7", func := "loop.example/g00097/laws.FnExactSplitAt", spec := "fnExactSplitAt", inPlace := ["slices.overlaps[loop.example/g00097/impl.Part]"], unfollowed := true, recurses := true, apart := false }
def FnExactSplitAtSaid : Prop := fnExactSplitAtRow.holds Try.pinned (OpenSpec.ofChange fnExactSplitAtSpec)

/-- ITS FALSE NEIGHBOUR: 'it returns false'. Refute it at one input. -/
def fnExactSplitAtWrong : ChangeSpec := { name := "fnExactSplitAt", fn := fun _ => fun
  | [d1, d2] => { results := [.lit (.bool false)], args := [d1, d2] }
  | _ => none }
def FnExactSplitAtWrongFalsely : Prop := fnExactSplitAtRow.holds Try.pinned (OpenSpec.ofChange fnExactSplitAtWrong)

/-- 'laws.FnParts': WHATEVER THE INPUT: true; the input reads as it did. -/
def fnPartsSpec : ChangeSpec := { name := "fnParts", fn := fun _ => fun
  | [d] => { results := [.lit (.bool true)], args := [d] }
  | _ => none }
def fnPartsRow : OpenClaim := { program := "ytinfkgbgeajphaa", sum := "81c85a053024ae2b5398de8af90119c78c82920d11b9251da2fcbb3e53d5d8b7", func := "loop.example/g00097/laws.FnParts", spec := "fnParts", inPlace := ["slices.overlaps[loop.example/g00097/impl.Part]"], unfollowed := true, recurses := true, apart := false }
def FnPartsSaid : Prop := fnPartsRow.holds Try.pinned (OpenSpec.ofChange fnPartsSpec)

/-- ITS FALSE NEIGHBOUR: 'it returns false'. Refute it at one input. -/
def fnPartsWrong : ChangeSpec := { name := "fnParts", fn := fun _ => fun
  | [d] => { results := [.lit (.bool false)], args := [d] }
  | _ => none }
def FnPartsWrongFalsely : Prop := fnPartsRow.holds Try.pinned (OpenSpec.ofChange fnPartsWrong)

/- THE SECOND FORM. 'bulk': how many values and letters a reading holds, each counted each time it is reached (what is shared counts as often as it is met; a slice's spare places count too). A statement '..UptoSaid' is the law's where the arguments, and the package variables that the reading takes, are together of bulk at most 1048576: NARROWER than '..Said'. Prove '..Said' where nothing that the law and all that it calls make is longer than what came in: it says more and counts as full. Else prove '..UptoSaid'. A law counts once. -/
mutual
def uptoBulk {H : Type} : DataW H → Nat
  | .lit (.string bytes) => bytes.length + 1
  | .lit _ => 1
  | .nil => 1
  | .ptr d => uptoBulk d + 1
  | .slice elems spare => uptoBulkAll elems + uptoBulkAll spare + 1
  | .agg parts => uptoBulkAll parts + 1
  | .iface _ d => uptoBulk d + 1
  | .map entries => uptoBulkEntries entries + 1
  | .held _ => 1
def uptoBulkAll {H : Type} : List (DataW H) → Nat
  | [] => 0
  | d :: r => uptoBulk d + uptoBulkAll r
def uptoBulkEntries {H : Type} : List (Lit × DataW H) → Nat
  | [] => 0
  | x :: r => uptoBulkEntry x + uptoBulkEntries r
def uptoBulkEntry {H : Type} : Lit × DataW H → Nat
  | (.string bytes, d) => bytes.length + uptoBulk d + 1
  | (_, d) => uptoBulk d + 1
 end
def uptoSmall : (H : Type) → List (DataW H) → Bool := fun _ ds => decide (uptoBulkAll ds ≤ 1048576)
def OpenSpec.upto (s : _root_.Go.ChangeSpec) : _root_.Go.OpenSpec := { _root_.Go.OpenSpec.ofChange s with cond := some uptoSmall }

/-- 'laws.FnExactRangeOk', WHERE WHAT IT READS IS OF BULK AT MOST 1048576: true; the input reads as it did. -/
def fnExactRangeOkUptoRow : OpenClaim := { program := "ytinfkgbgeajphaa", sum := "81c85a053024ae2b5398de8af90119c78c82920d11b9251da2fcbb3e53d5d8b7", func := "loop.example/g00097/laws.FnExactRangeOk", spec := "fnExactRangeOk", apart := false, narrowed := true }
def FnExactRangeOkUptoSaid : Prop := fnExactRangeOkUptoRow.holds Try.pinned (OpenSpec.upto fnExactRangeOkSpec)

/-- 'laws.FnExactRangeIn', WHERE WHAT IT READS IS OF BULK AT MOST 1048576: true; the input reads as it did. -/
def fnExactRangeInUptoRow : OpenClaim := { program := "ytinfkgbgeajphaa", sum := "81c85a053024ae2b5398de8af90119c78c82920d11b9251da2fcbb3e53d5d8b7", func := "loop.example/g00097/laws.FnExactRangeIn", spec := "fnExactRangeIn", apart := false, narrowed := true }
def FnExactRangeInUptoSaid : Prop := fnExactRangeInUptoRow.holds Try.pinned (OpenSpec.upto fnExactRangeInSpec)

/-- 'laws.FnExactRangeMeet', WHERE WHAT IT READS IS OF BULK AT MOST 1048576: true; the input reads as it did. -/
def fnExactRangeMeetUptoRow : OpenClaim := { program := "ytinfkgbgeajphaa", sum := "81c85a053024ae2b5398de8af90119c78c82920d11b9251da2fcbb3e53d5d8b7", func := "loop.example/g00097/laws.FnExactRangeMeet", spec := "fnExactRangeMeet", apart := false, narrowed := true }
def FnExactRangeMeetUptoSaid : Prop := fnExactRangeMeetUptoRow.holds Try.pinned (OpenSpec.upto fnExactRangeMeetSpec)

/-- 'laws.FnExactRangesOk', WHERE WHAT IT READS IS OF BULK AT MOST 1048576: true; the input reads as it did. -/
def fnExactRangesOkUptoRow : OpenClaim := { program := "ytinfkgbgeajphaa", sum := "81c85a053024ae2b5398de8af90119c78c82920d11b9251da2fcbb3e53d5d8b7", func := "loop.example/g00097/laws.FnExactRangesOk", spec := "fnExactRangesOk", apart := false, narrowed := true }
def FnExactRangesOkUptoSaid : Prop := fnExactRangesOkUptoRow.holds Try.pinned (OpenSpec.upto fnExactRangesOkSpec)

/-- 'laws.FnExactWritesOk', WHERE WHAT IT READS IS OF BULK AT MOST 1048576: true; the input reads as it did. -/
def fnExactWritesOkUptoRow : OpenClaim := { program := "ytinfkgbgeajphaa", sum := "81c85a053024ae2b5398de8af90119c78c82920d11b9251da2fcbb3e53d5d8b7", func := "loop.example/g00097/laws.FnExactWritesOk", spec := "fnExactWritesOk", apart := false, narrowed := true }
def FnExactWritesOkUptoSaid : Prop := fnExactWritesOkUptoRow.holds Try.pinned (OpenSpec.upto fnExactWritesOkSpec)

/-- 'laws.FnExactGoOk', WHERE WHAT IT READS IS OF BULK AT MOST 1048576: true; the input reads as it did. -/
def fnExactGoOkUptoRow : OpenClaim := { program := "ytinfkgbgeajphaa", sum := "81c85a053024ae2b5398de8af90119c78c82920d11b9251da2fcbb3e53d5d8b7", func := "loop.example/g00097/laws.FnExactGoOk", spec := "fnExactGoOk", apart := false, narrowed := true }
def FnExactGoOkUptoSaid : Prop := fnExactGoOkUptoRow.holds Try.pinned (OpenSpec.upto fnExactGoOkSpec)

/-- 'laws.FnExactPartsOk', WHERE WHAT IT READS IS OF BULK AT MOST 1048576: true; the input reads as it did. -/
def fnExactPartsOkUptoRow : OpenClaim := { program := "ytinfkgbgeajphaa", sum := "81c85a053024ae2b5398de8af90119c78c82920d11b9251da2fcbb3e53d5d8b7", func := "loop.example/g00097/laws.FnExactPartsOk", spec := "fnExactPartsOk", apart := false, narrowed := true }
def FnExactPartsOkUptoSaid : Prop := fnExactPartsOkUptoRow.holds Try.pinned (OpenSpec.upto fnExactPartsOkSpec)

/-- 'laws.FnExactRangesHave', WHERE WHAT IT READS IS OF BULK AT MOST 1048576: true; the input reads as it did. -/
def fnExactRangesHaveUptoRow : OpenClaim := { program := "ytinfkgbgeajphaa", sum := "81c85a053024ae2b5398de8af90119c78c82920d11b9251da2fcbb3e53d5d8b7", func := "loop.example/g00097/laws.FnExactRangesHave", spec := "fnExactRangesHave", apart := false, narrowed := true }
def FnExactRangesHaveUptoSaid : Prop := fnExactRangesHaveUptoRow.holds Try.pinned (OpenSpec.upto fnExactRangesHaveSpec)

/-- 'laws.FnExactPartAt', WHERE WHAT IT READS IS OF BULK AT MOST 1048576: true; the input reads as it did. -/
def fnExactPartAtUptoRow : OpenClaim := { program := "ytinfkgbgeajphaa", sum := "81c85a053024ae2b5398de8af90119c78c82920d11b9251da2fcbb3e53d5d8b7", func := "loop.example/g00097/laws.FnExactPartAt", spec := "fnExactPartAt", unfollowed := true, recurses := true, apart := false, narrowed := true }
def FnExactPartAtUptoSaid : Prop := fnExactPartAtUptoRow.holds Try.pinned (OpenSpec.upto fnExactPartAtSpec)

/-- 'laws.FnExactGiveTo', WHERE WHAT IT READS IS OF BULK AT MOST 1048576: true; the input reads as it did. -/
def fnExactGiveToUptoRow : OpenClaim := { program := "ytinfkgbgeajphaa", sum := "81c85a053024ae2b5398de8af90119c78c82920d11b9251da2fcbb3e53d5d8b7", func := "loop.example/g00097/laws.FnExactGiveTo", spec := "fnExactGiveTo", unfollowed := true, recurses := true, apart := false, narrowed := true }
def FnExactGiveToUptoSaid : Prop := fnExactGiveToUptoRow.holds Try.pinned (OpenSpec.upto fnExactGiveToSpec)

/-- 'laws.FnExactRangesLess', WHERE WHAT IT READS IS OF BULK AT MOST 1048576: true; the input reads as it did. -/
def fnExactRangesLessUptoRow : OpenClaim := { program := "ytinfkgbgeajphaa", sum := "81c85a053024ae2b5398de8af90119c78c82920d11b9251da2fcbb3e53d5d8b7", func := "loop.example/g00097/laws.FnExactRangesLess", spec := "fnExactRangesLess", unfollowed := true, recurses := true, apart := false, narrowed := true }
def FnExactRangesLessUptoSaid : Prop := fnExactRangesLessUptoRow.holds Try.pinned (OpenSpec.upto fnExactRangesLessSpec)

/-- 'laws.FnExactRangesPlus', WHERE WHAT IT READS IS OF BULK AT MOST 1048576: true; the input reads as it did. -/
def fnExactRangesPlusUptoRow : OpenClaim := { program := "ytinfkgbgeajphaa", sum := "81c85a053024ae2b5398de8af90119c78c82920d11b9251da2fcbb3e53d5d8b7", func := "loop.example/g00097/laws.FnExactRangesPlus", spec := "fnExactRangesPlus", unfollowed := true, recurses := true, apart := false, narrowed := true }
def FnExactRangesPlusUptoSaid : Prop := fnExactRangesPlusUptoRow.holds Try.pinned (OpenSpec.upto fnExactRangesPlusSpec)

/-- 'laws.FnExactRangesOf', WHERE WHAT IT READS IS OF BULK AT MOST 1048576: true; the input reads as it did. -/
def fnExactRangesOfUptoRow : OpenClaim := { program := "ytinfkgbgeajphaa", sum := "81c85a053024ae2b5398de8af90119c78c82920d11b9251da2fcbb3e53d5d8b7", func := "loop.example/g00097/laws.FnExactRangesOf", spec := "fnExactRangesOf", unfollowed := true, recurses := true, apart := false, narrowed := true }
def FnExactRangesOfUptoSaid : Prop := fnExactRangesOfUptoRow.holds Try.pinned (OpenSpec.upto fnExactRangesOfSpec)

/-- 'laws.FnRanges10', WHERE WHAT IT READS IS OF BULK AT MOST 1048576: true; the input reads as it did. -/
def fnRanges10UptoRow : OpenClaim := { program := "ytinfkgbgeajphaa", sum := "81c85a053024ae2b5398de8af90119c78c82920d11b9251da2fcbb3e53d5d8b7", func := "loop.example/g00097/laws.FnRanges10", spec := "fnRanges10", unfollowed := true, recurses := true, apart := false, narrowed := true }
def FnRanges10UptoSaid : Prop := fnRanges10UptoRow.holds Try.pinned (OpenSpec.upto fnRanges10Spec)

/-- 'laws.FnExactSplitAt', WHERE WHAT IT READS IS OF BULK AT MOST 1048576: true; the input reads as it did. -/
def fnExactSplitAtUptoRow : OpenClaim := { program := "ytinfkgbgeajphaa", sum := "81c85a053024ae2b5398de8af90119c78c82920d11b9251da2fcbb3e53d5d8b7", func := "loop.example/g00097/laws.FnExactSplitAt", spec := "fnExactSplitAt", inPlace := ["slices.overlaps[loop.example/g00097/impl.Part]"], unfollowed := true, recurses := true, apart := false, narrowed := true }
def FnExactSplitAtUptoSaid : Prop := fnExactSplitAtUptoRow.holds Try.pinned (OpenSpec.upto fnExactSplitAtSpec)

/-- 'laws.FnParts', WHERE WHAT IT READS IS OF BULK AT MOST 1048576: true; the input reads as it did. -/
def fnPartsUptoRow : OpenClaim := { program := "ytinfkgbgeajphaa", sum := "81c85a053024ae2b5398de8af90119c78c82920d11b9251da2fcbb3e53d5d8b7", func := "loop.example/g00097/laws.FnParts", spec := "fnParts", inPlace := ["slices.overlaps[loop.example/g00097/impl.Part]"], unfollowed := true, recurses := true, apart := false, narrowed := true }
def FnPartsUptoSaid : Prop := fnPartsUptoRow.holds Try.pinned (OpenSpec.upto fnPartsSpec)

end Rows
end Go.Proofs.Ytinfkgbgeajphaa
