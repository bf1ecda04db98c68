/-
  No cell of these rows narrows 'for every input' (looked for: loops, veiled, ifaces, maps, wideKeys, modest, calm, conditions, laid).
  DERIVED. THE GIVEN ROWS OF THIS SEAT. 7 by the template 'for every input the law returns true; each argument reads behind the call as it read before'; 0 by the template 'total and deterministic' (their statements: YtffmpmgnkhlmdaaTotals.lean).
  GIVEN WITH THE SEED: the statements are not yours to turn. If you find one false, say at which input.
  Laid BY PROGRAM, IN A SANDBOX (cutbox-rows.mjs): the forced cells as the released guide's own fill.sh prints them over the translation 202e7484c02358da… (all of the seat's roots in one cut). By AI agents, Wed Nov 11 2026. No macro, syntax, notation, axiom, sorry.
-/
import Derived.Test.YtffmpmgnkhlmdaaChecked
import GoSem.Claim
import GoSem.ClaimJoined
import GoSem.ClaimMapViews
import Derived.JoinedTies
import Derived.KernelRfl
namespace Go.Proofs.Ytffmpmgnkhlmdaa
/- THE CELL 'sum', in the pinned program and in every row, IS THE sha256 OF THE DUMP (.gsa) THAT YtffmpmgnkhlmdaaProg.lean LOADS. Nothing in Lean hashes anything: it is a label: what it is worth is what the hold of that sum in a sandbox is worth. -/
noncomputable def Try.pinned : Pinned := { name := "ytffmpmgnkhlmdaa", sum := "202e7484c02358da8bfa119f8a5e7a5a1774193b8da1dec3342955e4592de7ec", checked := Try.checked }
namespace Rows
def none {H : Type} : Left H := { results := [], args := [] }

/-- 'laws.FnExactMachineNew': WHATEVER THE INPUT: true; the input reads as it did. -/
def fnExactMachineNewSpec : ChangeSpec := { name := "fnExactMachineNew", fn := fun _ => fun
  | [d1, d2] => { results := [.lit (.bool true)], args := [d1, d2] }
  | _ => none }
def fnExactMachineNewRow : OpenClaim := { program := "ytffmpmgnkhlmdaa", sum := "202e7484c02358da8bfa119f8a5e7a5a1774193b8da1dec3342955e4592de7ec", func := "loop.example/g00460/laws.FnExactMachineNew", spec := "fnExactMachineNew", inPlace := ["internal/abi.NoEscape", "internal/bytealg.MakeNoZero"], apart := false }
def FnExactMachineNewSaid : Prop := fnExactMachineNewRow.holds Try.pinned (OpenSpec.ofChange fnExactMachineNewSpec)

/-- ITS FALSE NEIGHBOUR: 'it returns false'. Refute it at one input. -/
def fnExactMachineNewWrong : ChangeSpec := { name := "fnExactMachineNew", fn := fun _ => fun
  | [d1, d2] => { results := [.lit (.bool false)], args := [d1, d2] }
  | _ => none }
def FnExactMachineNewWrongFalsely : Prop := fnExactMachineNewRow.holds Try.pinned (OpenSpec.ofChange fnExactMachineNewWrong)

/-- 'laws.FnExactBusWrite': WHATEVER THE INPUT: true; the input reads as it did. -/
def fnExactBusWriteSpec : ChangeSpec := { name := "fnExactBusWrite", fn := fun _ => fun
  | [d1, d2, d3] => { results := [.lit (.bool true)], args := [d1, d2, d3] }
  | _ => none }
def fnExactBusWriteRow : OpenClaim := { program := "ytffmpmgnkhlmdaa", sum := "202e7484c02358da8bfa119f8a5e7a5a1774193b8da1dec3342955e4592de7ec", func := "loop.example/g00460/laws.FnExactBusWrite", spec := "fnExactBusWrite", unfollowed := true, recurses := true, apart := false }
def FnExactBusWriteSaid : Prop := fnExactBusWriteRow.holds Try.pinned (OpenSpec.ofChange fnExactBusWriteSpec)

/-- ITS FALSE NEIGHBOUR: 'it returns false'. Refute it at one input. -/
def fnExactBusWriteWrong : ChangeSpec := { name := "fnExactBusWrite", fn := fun _ => fun
  | [d1, d2, d3] => { results := [.lit (.bool false)], args := [d1, d2, d3] }
  | _ => none }
def FnExactBusWriteWrongFalsely : Prop := fnExactBusWriteRow.holds Try.pinned (OpenSpec.ofChange fnExactBusWriteWrong)

/-- 'laws.FnExactEvalExpr': WHATEVER THE INPUT: true; the input reads as it did. -/
def fnExactEvalExprSpec : ChangeSpec := { name := "fnExactEvalExpr", fn := fun _ => fun
  | [d1, d2] => { results := [.lit (.bool true)], args := [d1, d2] }
  | _ => none }
def fnExactEvalExprRow : OpenClaim := { program := "ytffmpmgnkhlmdaa", sum := "202e7484c02358da8bfa119f8a5e7a5a1774193b8da1dec3342955e4592de7ec", func := "loop.example/g00460/laws.FnExactEvalExpr", spec := "fnExactEvalExpr", unfollowed := true, recurses := true, apart := false }
def FnExactEvalExprSaid : Prop := fnExactEvalExprRow.holds Try.pinned (OpenSpec.ofChange fnExactEvalExprSpec)

/-- ITS FALSE NEIGHBOUR: 'it returns false'. Refute it at one input. -/
def fnExactEvalExprWrong : ChangeSpec := { name := "fnExactEvalExpr", fn := fun _ => fun
  | [d1, d2] => { results := [.lit (.bool false)], args := [d1, d2] }
  | _ => none }
def FnExactEvalExprWrongFalsely : Prop := fnExactEvalExprRow.holds Try.pinned (OpenSpec.ofChange fnExactEvalExprWrong)

/-- 'laws.FnExactFilled': WHATEVER THE INPUT: true; the input reads as it did. -/
def fnExactFilledSpec : ChangeSpec := { name := "fnExactFilled", fn := fun _ => fun
  | [d1, d2] => { results := [.lit (.bool true)], args := [d1, d2] }
  | _ => none }
def fnExactFilledRow : OpenClaim := { program := "ytffmpmgnkhlmdaa", sum := "202e7484c02358da8bfa119f8a5e7a5a1774193b8da1dec3342955e4592de7ec", func := "loop.example/g00460/laws.FnExactFilled", spec := "fnExactFilled", inPlace := ["internal/abi.NoEscape"], apart := false }
def FnExactFilledSaid : Prop := fnExactFilledRow.holds Try.pinned (OpenSpec.ofChange fnExactFilledSpec)

/-- ITS FALSE NEIGHBOUR: 'it returns false'. Refute it at one input. -/
def fnExactFilledWrong : ChangeSpec := { name := "fnExactFilled", fn := fun _ => fun
  | [d1, d2] => { results := [.lit (.bool false)], args := [d1, d2] }
  | _ => none }
def FnExactFilledWrongFalsely : Prop := fnExactFilledRow.holds Try.pinned (OpenSpec.ofChange fnExactFilledWrong)

/-- 'laws.FnExactSectionOk': WHATEVER THE INPUT: true; the input reads as it did. -/
def fnExactSectionOkSpec : ChangeSpec := { name := "fnExactSectionOk", fn := fun _ => fun
  | [d] => { results := [.lit (.bool true)], args := [d] }
  | _ => none }
def fnExactSectionOkRow : OpenClaim := { program := "ytffmpmgnkhlmdaa", sum := "202e7484c02358da8bfa119f8a5e7a5a1774193b8da1dec3342955e4592de7ec", func := "loop.example/g00460/laws.FnExactSectionOk", spec := "fnExactSectionOk", inPlace := ["internal/abi.NoEscape", "internal/bytealg.MakeNoZero"], unfollowed := true, recurses := true, apart := false }
def FnExactSectionOkSaid : Prop := fnExactSectionOkRow.holds Try.pinned (OpenSpec.ofChange fnExactSectionOkSpec)

/-- ITS FALSE NEIGHBOUR: 'it returns false'. Refute it at one input. -/
def fnExactSectionOkWrong : ChangeSpec := { name := "fnExactSectionOk", fn := fun _ => fun
  | [d] => { results := [.lit (.bool false)], args := [d] }
  | _ => none }
def FnExactSectionOkWrongFalsely : Prop := fnExactSectionOkRow.holds Try.pinned (OpenSpec.ofChange fnExactSectionOkWrong)

/-- 'laws.FnExactNamesIn': WHATEVER THE INPUT: true; the input reads as it did. -/
def fnExactNamesInSpec : ChangeSpec := { name := "fnExactNamesIn", fn := fun _ => fun
  | [d] => { results := [.lit (.bool true)], args := [d] }
  | _ => none }
def fnExactNamesInRow : OpenClaim := { program := "ytffmpmgnkhlmdaa", sum := "202e7484c02358da8bfa119f8a5e7a5a1774193b8da1dec3342955e4592de7ec", func := "loop.example/g00460/laws.FnExactNamesIn", spec := "fnExactNamesIn", recurses := true, apart := false }
def FnExactNamesInSaid : Prop := fnExactNamesInRow.holds Try.pinned (OpenSpec.ofChange fnExactNamesInSpec)

/-- ITS FALSE NEIGHBOUR: 'it returns false'. Refute it at one input. -/
def fnExactNamesInWrong : ChangeSpec := { name := "fnExactNamesIn", fn := fun _ => fun
  | [d] => { results := [.lit (.bool false)], args := [d] }
  | _ => none }
def FnExactNamesInWrongFalsely : Prop := fnExactNamesInRow.holds Try.pinned (OpenSpec.ofChange fnExactNamesInWrong)

/-- 'laws.FnExactObjectOk': WHATEVER THE INPUT: true; the input reads as it did. -/
def fnExactObjectOkSpec : ChangeSpec := { name := "fnExactObjectOk", fn := fun _ => fun
  | [d] => { results := [.lit (.bool true)], args := [d] }
  | _ => none }
def fnExactObjectOkRow : OpenClaim := { program := "ytffmpmgnkhlmdaa", sum := "202e7484c02358da8bfa119f8a5e7a5a1774193b8da1dec3342955e4592de7ec", func := "loop.example/g00460/laws.FnExactObjectOk", spec := "fnExactObjectOk", inPlace := ["internal/abi.NoEscape", "internal/bytealg.MakeNoZero"], unfollowed := true, recurses := true, apart := false }
def FnExactObjectOkSaid : Prop := fnExactObjectOkRow.holds Try.pinned (OpenSpec.ofChange fnExactObjectOkSpec)

/-- ITS FALSE NEIGHBOUR: 'it returns false'. Refute it at one input. -/
def fnExactObjectOkWrong : ChangeSpec := { name := "fnExactObjectOk", fn := fun _ => fun
  | [d] => { results := [.lit (.bool false)], args := [d] }
  | _ => none }
def FnExactObjectOkWrongFalsely : Prop := fnExactObjectOkRow.holds Try.pinned (OpenSpec.ofChange fnExactObjectOkWrong)

/- THE SECOND FORM. 'bulk': how many values and letters a reading holds, each counted each time it is reached (what is shared counts as often as it is met; a slice's spare places count too). A statement '..UptoSaid' is the law's where the arguments, and the package variables that the reading takes, are together of bulk at most 1048576: NARROWER than '..Said'. Prove '..Said' where nothing that the law and all that it calls make is longer than what came in: it says more and counts as full. Else prove '..UptoSaid'. A law counts once. -/
mutual
def uptoBulk {H : Type} : DataW H → Nat
  | .lit (.string bytes) => bytes.length + 1
  | .lit _ => 1
  | .nil => 1
  | .ptr d => uptoBulk d + 1
  | .slice elems spare => uptoBulkAll elems + uptoBulkAll spare + 1
  | .agg parts => uptoBulkAll parts + 1
  | .iface _ d => uptoBulk d + 1
  | .map entries => uptoBulkEntries entries + 1
  | .held _ => 1
def uptoBulkAll {H : Type} : List (DataW H) → Nat
  | [] => 0
  | d :: r => uptoBulk d + uptoBulkAll r
def uptoBulkEntries {H : Type} : List (Lit × DataW H) → Nat
  | [] => 0
  | x :: r => uptoBulkEntry x + uptoBulkEntries r
def uptoBulkEntry {H : Type} : Lit × DataW H → Nat
  | (.string bytes, d) => bytes.length + uptoBulk d + 1
  | (_, d) => uptoBulk d + 1
 end
def uptoSmall : (H : Type) → List (DataW H) → Bool := fun _ ds => decide (uptoBulkAll ds ≤ 1048576)
def OpenSpec.upto (s : _root_.Go.ChangeSpec) : _root_.Go.OpenSpec := { _root_.Go.OpenSpec.ofChange s with cond := some uptoSmall }

/-- 'laws.FnExactMachineNew', WHERE WHAT IT READS IS OF BULK AT MOST 1048576: true; the input reads as it did. -/
def fnExactMachineNewUptoRow : OpenClaim := { program := "ytffmpmgnkhlmdaa", sum := "202e7484c02358da8bfa119f8a5e7a5a1774193b8da1dec3342955e4592de7ec", func := "loop.example/g00460/laws.FnExactMachineNew", spec := "fnExactMachineNew", inPlace := ["internal/abi.NoEscape", "internal/bytealg.MakeNoZero"], apart := false, narrowed := true }
def FnExactMachineNewUptoSaid : Prop := fnExactMachineNewUptoRow.holds Try.pinned (OpenSpec.upto fnExactMachineNewSpec)

/-- 'laws.FnExactBusWrite', WHERE WHAT IT READS IS OF BULK AT MOST 1048576: true; the input reads as it did. -/
def fnExactBusWriteUptoRow : OpenClaim := { program := "ytffmpmgnkhlmdaa", sum := "202e7484c02358da8bfa119f8a5e7a5a1774193b8da1dec3342955e4592de7ec", func := "loop.example/g00460/laws.FnExactBusWrite", spec := "fnExactBusWrite", unfollowed := true, recurses := true, apart := false, narrowed := true }
def FnExactBusWriteUptoSaid : Prop := fnExactBusWriteUptoRow.holds Try.pinned (OpenSpec.upto fnExactBusWriteSpec)

/-- 'laws.FnExactEvalExpr', WHERE WHAT IT READS IS OF BULK AT MOST 1048576: true; the input reads as it did. -/
def fnExactEvalExprUptoRow : OpenClaim := { program := "ytffmpmgnkhlmdaa", sum := "202e7484c02358da8bfa119f8a5e7a5a1774193b8da1dec3342955e4592de7ec", func := "loop.example/g00460/laws.FnExactEvalExpr", spec := "fnExactEvalExpr", unfollowed := true, recurses := true, apart := false, narrowed := true }
def FnExactEvalExprUptoSaid : Prop := fnExactEvalExprUptoRow.holds Try.pinned (OpenSpec.upto fnExactEvalExprSpec)

/-- 'laws.FnExactFilled', WHERE WHAT IT READS IS OF BULK AT MOST 1048576: true; the input reads as it did. -/
def fnExactFilledUptoRow : OpenClaim := { program := "ytffmpmgnkhlmdaa", sum := "202e7484c02358da8bfa119f8a5e7a5a1774193b8da1dec3342955e4592de7ec", func := "loop.example/g00460/laws.FnExactFilled", spec := "fnExactFilled", inPlace := ["internal/abi.NoEscape"], apart := false, narrowed := true }
def FnExactFilledUptoSaid : Prop := fnExactFilledUptoRow.holds Try.pinned (OpenSpec.upto fnExactFilledSpec)

/-- 'laws.FnExactSectionOk', WHERE WHAT IT READS IS OF BULK AT MOST 1048576: true; the input reads as it did. -/
def fnExactSectionOkUptoRow : OpenClaim := { program := "ytffmpmgnkhlmdaa", sum := "202e7484c02358da8bfa119f8a5e7a5a1774193b8da1dec3342955e4592de7ec", func := "loop.example/g00460/laws.FnExactSectionOk", spec := "fnExactSectionOk", inPlace := ["internal/abi.NoEscape", "internal/bytealg.MakeNoZero"], unfollowed := true, recurses := true, apart := false, narrowed := true }
def FnExactSectionOkUptoSaid : Prop := fnExactSectionOkUptoRow.holds Try.pinned (OpenSpec.upto fnExactSectionOkSpec)

/-- 'laws.FnExactNamesIn', WHERE WHAT IT READS IS OF BULK AT MOST 1048576: true; the input reads as it did. -/
def fnExactNamesInUptoRow : OpenClaim := { program := "ytffmpmgnkhlmdaa", sum := "202e7484c02358da8bfa119f8a5e7a5a1774193b8da1dec3342955e4592de7ec", func := "loop.example/g00460/laws.FnExactNamesIn", spec := "fnExactNamesIn", recurses := true, apart := false, narrowed := true }
def FnExactNamesInUptoSaid : Prop := fnExactNamesInUptoRow.holds Try.pinned (OpenSpec.upto fnExactNamesInSpec)

/-- 'laws.FnExactObjectOk', WHERE WHAT IT READS IS OF BULK AT MOST 1048576: true; the input reads as it did. -/
def fnExactObjectOkUptoRow : OpenClaim := { program := "ytffmpmgnkhlmdaa", sum := "202e7484c02358da8bfa119f8a5e7a5a1774193b8da1dec3342955e4592de7ec", func := "loop.example/g00460/laws.FnExactObjectOk", spec := "fnExactObjectOk", inPlace := ["internal/abi.NoEscape", "internal/bytealg.MakeNoZero"], unfollowed := true, recurses := true, apart := false, narrowed := true }
def FnExactObjectOkUptoSaid : Prop := fnExactObjectOkUptoRow.holds Try.pinned (OpenSpec.upto fnExactObjectOkSpec)

end Rows
end Go.Proofs.Ytffmpmgnkhlmdaa
