/-
  No cell of these rows narrows 'for every input' (looked for: loops, veiled, ifaces, maps, wideKeys, modest, calm, conditions, laid).
  DERIVED. THE GIVEN ROWS OF THIS SEAT. 5 by the template 'for every input the law returns true; each argument reads behind the call as it read before'; 0 by the template 'total and deterministic' (their statements: YtmphedkbdlckhaaGreatTotals.lean).
  GIVEN WITH THE SEED: the statements are not yours to turn. If you find one false, say at which input.
  Laid BY PROGRAM, IN A SANDBOX (cutbox-rows.mjs): the forced cells as the released guide's own fill.sh prints them over the translation 462fb7296e2c0932… (all of the seat's roots in one cut). By AI agents, Wed Nov 11 2026. No macro, syntax, notation, axiom, sorry.
-/
import Derived.Test.YtmphedkbdlckhaaGreatChecked
import GoSem.Claim
import GoSem.ClaimJoined
import GoSem.ClaimMapViews
import Derived.JoinedTies
import Derived.KernelRfl
namespace Go.Proofs.YtmphedkbdlckhaaGreat
/- THE CELL 'sum', in the pinned program and in every row, IS THE sha256 OF THE DUMP (.gsa) THAT YtmphedkbdlckhaaGreatProg.lean LOADS. Nothing in Lean hashes anything: it is a label: what it is worth is what the hold of that sum in a sandbox is worth. -/
noncomputable def Tryz.pinned : Pinned := { name := "ytmphedkbdlckhaagreat", sum := "462fb7296e2c0932a5ea7ae58326dcd09edaf7d9fdec3da70f8710e33a3880b1", checked := Tryz.checked }
namespace Rows
def none {H : Type} : Left H := { results := [], args := [] }

/-- 'laws.FnExactGroupOk': WHATEVER THE INPUT: true; the input reads as it did. -/
def fnExactGroupOkSpec : ChangeSpec := { name := "fnExactGroupOk", fn := fun _ => fun
  | [d] => { results := [.lit (.bool true)], args := [d] }
  | _ => none }
def fnExactGroupOkRow : OpenClaim := { program := "ytmphedkbdlckhaagreat", sum := "462fb7296e2c0932a5ea7ae58326dcd09edaf7d9fdec3da70f8710e33a3880b1", func := "loop.example/g00097/laws.FnExactGroupOk", spec := "fnExactGroupOk", unfollowed := true, recurses := true, apart := false }
def FnExactGroupOkSaid : Prop := fnExactGroupOkRow.holds Tryz.pinned (OpenSpec.ofChange fnExactGroupOkSpec)

/-- ITS FALSE NEIGHBOUR: 'it returns false'. Refute it at one input. -/
def fnExactGroupOkWrong : ChangeSpec := { name := "fnExactGroupOk", fn := fun _ => fun
  | [d] => { results := [.lit (.bool false)], args := [d] }
  | _ => none }
def FnExactGroupOkWrongFalsely : Prop := fnExactGroupOkRow.holds Tryz.pinned (OpenSpec.ofChange fnExactGroupOkWrong)

/-- 'laws.FnExactGroupTold': WHATEVER THE INPUT: true; the input reads as it did. -/
def fnExactGroupToldSpec : ChangeSpec := { name := "fnExactGroupTold", fn := fun _ => fun
  | [d] => { results := [.lit (.bool true)], args := [d] }
  | _ => none }
def fnExactGroupToldRow : OpenClaim := { program := "ytmphedkbdlckhaagreat", sum := "462fb7296e2c0932a5ea7ae58326dcd09edaf7d9fdec3da70f8710e33a3880b1", func := "loop.example/g00097/laws.FnExactGroupTold", spec := "fnExactGroupTold", unfollowed := true, recurses := true, apart := false }
def FnExactGroupToldSaid : Prop := fnExactGroupToldRow.holds Tryz.pinned (OpenSpec.ofChange fnExactGroupToldSpec)

/-- ITS FALSE NEIGHBOUR: 'it returns false'. Refute it at one input. -/
def fnExactGroupToldWrong : ChangeSpec := { name := "fnExactGroupTold", fn := fun _ => fun
  | [d] => { results := [.lit (.bool false)], args := [d] }
  | _ => none }
def FnExactGroupToldWrongFalsely : Prop := fnExactGroupToldRow.holds Tryz.pinned (OpenSpec.ofChange fnExactGroupToldWrong)

/-- 'laws.FnExactGroupAhead': WHATEVER THE INPUT: true; the input reads as it did. -/
def fnExactGroupAheadSpec : ChangeSpec := { name := "fnExactGroupAhead", fn := fun _ => fun
  | [d] => { results := [.lit (.bool true)], args := [d] }
  | _ => none }
def fnExactGroupAheadRow : OpenClaim := { program := "ytmphedkbdlckhaagreat", sum := "462fb7296e2c0932a5ea7ae58326dcd09edaf7d9fdec3da70f8710e33a3880b1", func := "loop.example/g00097/laws.FnExactGroupAhead", spec := "fnExactGroupAhead", unfollowed := true, recurses := true, apart := false }
def FnExactGroupAheadSaid : Prop := fnExactGroupAheadRow.holds Tryz.pinned (OpenSpec.ofChange fnExactGroupAheadSpec)

/-- ITS FALSE NEIGHBOUR: 'it returns false'. Refute it at one input. -/
def fnExactGroupAheadWrong : ChangeSpec := { name := "fnExactGroupAhead", fn := fun _ => fun
  | [d] => { results := [.lit (.bool false)], args := [d] }
  | _ => none }
def FnExactGroupAheadWrongFalsely : Prop := fnExactGroupAheadRow.holds Tryz.pinned (OpenSpec.ofChange fnExactGroupAheadWrong)

/-- 'laws.FnExactGroupUp': WHATEVER THE INPUT: true; the input reads as it did. -/
def fnExactGroupUpSpec : ChangeSpec := { name := "fnExactGroupUp", fn := fun _ => fun
  | [d] => { results := [.lit (.bool true)], args := [d] }
  | _ => none }
def fnExactGroupUpRow : OpenClaim := { program := "ytmphedkbdlckhaagreat", sum := "462fb7296e2c0932a5ea7ae58326dcd09edaf7d9fdec3da70f8710e33a3880b1", func := "loop.example/g00097/laws.FnExactGroupUp", spec := "fnExactGroupUp", unfollowed := true, recurses := true, apart := false }
def FnExactGroupUpSaid : Prop := fnExactGroupUpRow.holds Tryz.pinned (OpenSpec.ofChange fnExactGroupUpSpec)

/-- ITS FALSE NEIGHBOUR: 'it returns false'. Refute it at one input. -/
def fnExactGroupUpWrong : ChangeSpec := { name := "fnExactGroupUp", fn := fun _ => fun
  | [d] => { results := [.lit (.bool false)], args := [d] }
  | _ => none }
def FnExactGroupUpWrongFalsely : Prop := fnExactGroupUpRow.holds Tryz.pinned (OpenSpec.ofChange fnExactGroupUpWrong)

/-- 'laws.FnExactGroupAgree': WHATEVER THE INPUT: true; the input reads as it did. -/
def fnExactGroupAgreeSpec : ChangeSpec := { name := "fnExactGroupAgree", fn := fun _ => fun
  | [d] => { results := [.lit (.bool true)], args := [d] }
  | _ => none }
def fnExactGroupAgreeRow : OpenClaim := { program := "ytmphedkbdlckhaagreat", sum := "462fb7296e2c0932a5ea7ae58326dcd09edaf7d9fdec3da70f8710e33a3880b1", func := "loop.example/g00097/laws.FnExactGroupAgree", spec := "fnExactGroupAgree", inPlace := ["slices.overlaps[loop.example/g00097/impl.Cell]", "slices.overlaps[loop.example/g00097/impl.Seat]"], unfollowed := true, recurses := true, apart := false }
def FnExactGroupAgreeSaid : Prop := fnExactGroupAgreeRow.holds Tryz.pinned (OpenSpec.ofChange fnExactGroupAgreeSpec)

/-- ITS FALSE NEIGHBOUR: 'it returns false'. Refute it at one input. -/
def fnExactGroupAgreeWrong : ChangeSpec := { name := "fnExactGroupAgree", fn := fun _ => fun
  | [d] => { results := [.lit (.bool false)], args := [d] }
  | _ => none }
def FnExactGroupAgreeWrongFalsely : Prop := fnExactGroupAgreeRow.holds Tryz.pinned (OpenSpec.ofChange fnExactGroupAgreeWrong)

/- THE SECOND FORM. 'bulk': how many values and letters a reading holds, each counted each time it is reached (what is shared counts as often as it is met; a slice's spare places count too). A statement '..UptoSaid' is the law's where the arguments, and the package variables that the reading takes, are together of bulk at most 1048576: NARROWER than '..Said'. Prove '..Said' where nothing that the law and all that it calls make is longer than what came in: it says more and counts as full. Else prove '..UptoSaid'. A law counts once. -/
mutual
def uptoBulk {H : Type} : DataW H → Nat
  | .lit (.string bytes) => bytes.length + 1
  | .lit _ => 1
  | .nil => 1
  | .ptr d => uptoBulk d + 1
  | .slice elems spare => uptoBulkAll elems + uptoBulkAll spare + 1
  | .agg parts => uptoBulkAll parts + 1
  | .iface _ d => uptoBulk d + 1
  | .map entries => uptoBulkEntries entries + 1
  | .held _ => 1
def uptoBulkAll {H : Type} : List (DataW H) → Nat
  | [] => 0
  | d :: r => uptoBulk d + uptoBulkAll r
def uptoBulkEntries {H : Type} : List (Lit × DataW H) → Nat
  | [] => 0
  | x :: r => uptoBulkEntry x + uptoBulkEntries r
def uptoBulkEntry {H : Type} : Lit × DataW H → Nat
  | (.string bytes, d) => bytes.length + uptoBulk d + 1
  | (_, d) => uptoBulk d + 1
 end
def uptoSmall : (H : Type) → List (DataW H) → Bool := fun _ ds => decide (uptoBulkAll ds ≤ 1048576)
def OpenSpec.upto (s : _root_.Go.ChangeSpec) : _root_.Go.OpenSpec := { _root_.Go.OpenSpec.ofChange s with cond := some uptoSmall }

/-- 'laws.FnExactGroupOk', WHERE WHAT IT READS IS OF BULK AT MOST 1048576: true; the input reads as it did. -/
def fnExactGroupOkUptoRow : OpenClaim := { program := "ytmphedkbdlckhaagreat", sum := "462fb7296e2c0932a5ea7ae58326dcd09edaf7d9fdec3da70f8710e33a3880b1", func := "loop.example/g00097/laws.FnExactGroupOk", spec := "fnExactGroupOk", unfollowed := true, recurses := true, apart := false, narrowed := true }
def FnExactGroupOkUptoSaid : Prop := fnExactGroupOkUptoRow.holds Tryz.pinned (OpenSpec.upto fnExactGroupOkSpec)

/-- 'laws.FnExactGroupTold', WHERE WHAT IT READS IS OF BULK AT MOST 1048576: true; the input reads as it did. -/
def fnExactGroupToldUptoRow : OpenClaim := { program := "ytmphedkbdlckhaagreat", sum := "462fb7296e2c0932a5ea7ae58326dcd09edaf7d9fdec3da70f8710e33a3880b1", func := "loop.example/g00097/laws.FnExactGroupTold", spec := "fnExactGroupTold", unfollowed := true, recurses := true, apart := false, narrowed := true }
def FnExactGroupToldUptoSaid : Prop := fnExactGroupToldUptoRow.holds Tryz.pinned (OpenSpec.upto fnExactGroupToldSpec)

/-- 'laws.FnExactGroupAhead', WHERE WHAT IT READS IS OF BULK AT MOST 1048576: true; the input reads as it did. -/
def fnExactGroupAheadUptoRow : OpenClaim := { program := "ytmphedkbdlckhaagreat", sum := "462fb7296e2c0932a5ea7ae58326dcd09edaf7d9fdec3da70f8710e33a3880b1", func := "loop.example/g00097/laws.FnExactGroupAhead", spec := "fnExactGroupAhead", unfollowed := true, recurses := true, apart := false, narrowed := true }
def FnExactGroupAheadUptoSaid : Prop := fnExactGroupAheadUptoRow.holds Tryz.pinned (OpenSpec.upto fnExactGroupAheadSpec)

/-- 'laws.FnExactGroupUp', WHERE WHAT IT READS IS OF BULK AT MOST 1048576: true; the input reads as it did. -/
def fnExactGroupUpUptoRow : OpenClaim := { program := "ytmphedkbdlckhaagreat", sum := "462fb7296e2c0932a5ea7ae58326dcd09edaf7d9fdec3da70f8710e33a3880b1", func := "loop.example/g00097/laws.FnExactGroupUp", spec := "fnExactGroupUp", unfollowed := true, recurses := true, apart := false, narrowed := true }
def FnExactGroupUpUptoSaid : Prop := fnExactGroupUpUptoRow.holds Tryz.pinned (OpenSpec.upto fnExactGroupUpSpec)

/-- 'laws.FnExactGroupAgree', WHERE WHAT IT READS IS OF BULK AT MOST 1048576: true; the input reads as it did. -/
def fnExactGroupAgreeUptoRow : OpenClaim := { program := "ytmphedkbdlckhaagreat", sum := "462fb7296e2c0932a5ea7ae58326dcd09edaf7d9fdec3da70f8710e33a3880b1", func := "loop.example/g00097/laws.FnExactGroupAgree", spec := "fnExactGroupAgree", inPlace := ["slices.overlaps[loop.example/g00097/impl.Cell]", "slices.overlaps[loop.example/g00097/impl.Seat]"], unfollowed := true, recurses := true, apart := false, narrowed := true }
def FnExactGroupAgreeUptoSaid : Prop := fnExactGroupAgreeUptoRow.holds Tryz.pinned (OpenSpec.upto fnExactGroupAgreeSpec)

end Rows
end Go.Proofs.YtmphedkbdlckhaaGreat
