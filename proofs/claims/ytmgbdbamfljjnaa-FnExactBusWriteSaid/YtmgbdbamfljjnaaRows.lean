/-
  No cell of these rows narrows 'for every input' (looked for: loops, veiled, ifaces, maps, wideKeys, modest, calm, conditions, laid).
  DERIVED. THE GIVEN ROWS OF THIS SEAT. 4 by the template 'for every input the law returns true; each argument reads behind the call as it read before'; 0 by the template 'total and deterministic' (their statements: YtmgbdbamfljjnaaTotals.lean).
  GIVEN WITH THE SEED: the statements are not yours to turn. If you find one false, say at which input.
  Laid BY PROGRAM, IN A SANDBOX (cutbox-rows.mjs): the forced cells as the released guide's own fill.sh prints them over the translation bdf1420fc7e72065… (all of the seat's roots in one cut). By AI agents, Wed Nov 11 2026. No macro, syntax, notation, axiom, sorry.
-/
import Derived.Test.YtmgbdbamfljjnaaChecked
import GoSem.Claim
import GoSem.ClaimJoined
import GoSem.ClaimMapViews
import Derived.JoinedTies
import Derived.KernelRfl
namespace Go.Proofs.Ytmgbdbamfljjnaa
/- THE CELL 'sum', in the pinned program and in every row, IS THE sha256 OF THE DUMP (.gsa) THAT YtmgbdbamfljjnaaProg.lean LOADS. Nothing in Lean hashes anything: it is a label: what it is worth is what the hold of that sum in a sandbox is worth. -/
noncomputable def Try.pinned : Pinned := { name := "ytmgbdbamfljjnaa", sum := "bdf1420fc7e72065a67407128723e47e6a8b55f143bc5f9dc6336935c5f6bc7c", checked := Try.checked }
namespace Rows
def none {H : Type} : Left H := { results := [], args := [] }

/-- 'laws.FnExactMachineOk': WHATEVER THE INPUT: true; the input reads as it did. -/
def fnExactMachineOkSpec : ChangeSpec := { name := "fnExactMachineOk", fn := fun _ => fun
  | [d] => { results := [.lit (.bool true)], args := [d] }
  | _ => none }
def fnExactMachineOkRow : OpenClaim := { program := "ytmgbdbamfljjnaa", sum := "bdf1420fc7e72065a67407128723e47e6a8b55f143bc5f9dc6336935c5f6bc7c", func := "loop.example/g00460/laws.FnExactMachineOk", spec := "fnExactMachineOk", unfollowed := true, recurses := true, apart := false }
def FnExactMachineOkSaid : Prop := fnExactMachineOkRow.holds Try.pinned (OpenSpec.ofChange fnExactMachineOkSpec)

/-- ITS FALSE NEIGHBOUR: 'it returns false'. Refute it at one input. -/
def fnExactMachineOkWrong : ChangeSpec := { name := "fnExactMachineOk", fn := fun _ => fun
  | [d] => { results := [.lit (.bool false)], args := [d] }
  | _ => none }
def FnExactMachineOkWrongFalsely : Prop := fnExactMachineOkRow.holds Try.pinned (OpenSpec.ofChange fnExactMachineOkWrong)

/-- 'laws.FnExactBusRead': WHATEVER THE INPUT: true; the input reads as it did. -/
def fnExactBusReadSpec : ChangeSpec := { name := "fnExactBusRead", fn := fun _ => fun
  | [d1, d2] => { results := [.lit (.bool true)], args := [d1, d2] }
  | _ => none }
def fnExactBusReadRow : OpenClaim := { program := "ytmgbdbamfljjnaa", sum := "bdf1420fc7e72065a67407128723e47e6a8b55f143bc5f9dc6336935c5f6bc7c", func := "loop.example/g00460/laws.FnExactBusRead", spec := "fnExactBusRead", unfollowed := true, recurses := true, apart := false }
def FnExactBusReadSaid : Prop := fnExactBusReadRow.holds Try.pinned (OpenSpec.ofChange fnExactBusReadSpec)

/-- ITS FALSE NEIGHBOUR: 'it returns false'. Refute it at one input. -/
def fnExactBusReadWrong : ChangeSpec := { name := "fnExactBusRead", fn := fun _ => fun
  | [d1, d2] => { results := [.lit (.bool false)], args := [d1, d2] }
  | _ => none }
def FnExactBusReadWrongFalsely : Prop := fnExactBusReadRow.holds Try.pinned (OpenSpec.ofChange fnExactBusReadWrong)

/-- 'laws.FnExactBusWrite': WHATEVER THE INPUT: true; the input reads as it did. -/
def fnExactBusWriteSpec : ChangeSpec := { name := "fnExactBusWrite", fn := fun _ => fun
  | [d1, d2, d3] => { results := [.lit (.bool true)], args := [d1, d2, d3] }
  | _ => none }
def fnExactBusWriteRow : OpenClaim := { program := "ytmgbdbamfljjnaa", sum := "bdf1420fc7e72065a67407128723e47e6a8b55f143bc5f9dc6336935c5f6bc7c", func := "loop.example/g00460/laws.FnExactBusWrite", spec := "fnExactBusWrite", unfollowed := true, recurses := true, apart := false }
def FnExactBusWriteSaid : Prop := fnExactBusWriteRow.holds Try.pinned (OpenSpec.ofChange fnExactBusWriteSpec)

/-- ITS FALSE NEIGHBOUR: 'it returns false'. Refute it at one input. -/
def fnExactBusWriteWrong : ChangeSpec := { name := "fnExactBusWrite", fn := fun _ => fun
  | [d1, d2, d3] => { results := [.lit (.bool false)], args := [d1, d2, d3] }
  | _ => none }
def FnExactBusWriteWrongFalsely : Prop := fnExactBusWriteRow.holds Try.pinned (OpenSpec.ofChange fnExactBusWriteWrong)

/-- 'laws.FnExactMachineNew': WHATEVER THE INPUT: true; the input reads as it did. -/
def fnExactMachineNewSpec : ChangeSpec := { name := "fnExactMachineNew", fn := fun _ => fun
  | [d1, d2] => { results := [.lit (.bool true)], args := [d1, d2] }
  | _ => none }
def fnExactMachineNewRow : OpenClaim := { program := "ytmgbdbamfljjnaa", sum := "bdf1420fc7e72065a67407128723e47e6a8b55f143bc5f9dc6336935c5f6bc7c", func := "loop.example/g00460/laws.FnExactMachineNew", spec := "fnExactMachineNew", inPlace := ["internal/abi.NoEscape", "internal/bytealg.MakeNoZero"], apart := false }
def FnExactMachineNewSaid : Prop := fnExactMachineNewRow.holds Try.pinned (OpenSpec.ofChange fnExactMachineNewSpec)

/-- ITS FALSE NEIGHBOUR: 'it returns false'. Refute it at one input. -/
def fnExactMachineNewWrong : ChangeSpec := { name := "fnExactMachineNew", fn := fun _ => fun
  | [d1, d2] => { results := [.lit (.bool false)], args := [d1, d2] }
  | _ => none }
def FnExactMachineNewWrongFalsely : Prop := fnExactMachineNewRow.holds Try.pinned (OpenSpec.ofChange fnExactMachineNewWrong)

/- THE SECOND FORM. 'bulk': how many values and letters a reading holds, each counted each time it is reached (what is shared counts as often as it is met; a slice's spare places count too). A statement '..UptoSaid' is the law's where the arguments, and the package variables that the reading takes, are together of bulk at most 1048576: NARROWER than '..Said'. Prove '..Said' where nothing that the law and all that it calls make is longer than what came in: it says more and counts as full. Else prove '..UptoSaid'. A law counts once. -/
mutual
def uptoBulk {H : Type} : DataW H → Nat
  | .lit (.string bytes) => bytes.length + 1
  | .lit _ => 1
  | .nil => 1
  | .ptr d => uptoBulk d + 1
  | .slice elems spare => uptoBulkAll elems + uptoBulkAll spare + 1
  | .agg parts => uptoBulkAll parts + 1
  | .iface _ d => uptoBulk d + 1
  | .map entries => uptoBulkEntries entries + 1
  | .held _ => 1
def uptoBulkAll {H : Type} : List (DataW H) → Nat
  | [] => 0
  | d :: r => uptoBulk d + uptoBulkAll r
def uptoBulkEntries {H : Type} : List (Lit × DataW H) → Nat
  | [] => 0
  | x :: r => uptoBulkEntry x + uptoBulkEntries r
def uptoBulkEntry {H : Type} : Lit × DataW H → Nat
  | (.string bytes, d) => bytes.length + uptoBulk d + 1
  | (_, d) => uptoBulk d + 1
 end
def uptoSmall : (H : Type) → List (DataW H) → Bool := fun _ ds => decide (uptoBulkAll ds ≤ 1048576)
def OpenSpec.upto (s : _root_.Go.ChangeSpec) : _root_.Go.OpenSpec := { _root_.Go.OpenSpec.ofChange s with cond := some uptoSmall }

/-- 'laws.FnExactMachineOk', WHERE WHAT IT READS IS OF BULK AT MOST 1048576: true; the input reads as it did. -/
def fnExactMachineOkUptoRow : OpenClaim := { program := "ytmgbdbamfljjnaa", sum := "bdf1420fc7e72065a67407128723e47e6a8b55f143bc5f9dc6336935c5f6bc7c", func := "loop.example/g00460/laws.FnExactMachineOk", spec := "fnExactMachineOk", unfollowed := true, recurses := true, apart := false, narrowed := true }
def FnExactMachineOkUptoSaid : Prop := fnExactMachineOkUptoRow.holds Try.pinned (OpenSpec.upto fnExactMachineOkSpec)

/-- 'laws.FnExactBusRead', WHERE WHAT IT READS IS OF BULK AT MOST 1048576: true; the input reads as it did. -/
def fnExactBusReadUptoRow : OpenClaim := { program := "ytmgbdbamfljjnaa", sum := "bdf1420fc7e72065a67407128723e47e6a8b55f143bc5f9dc6336935c5f6bc7c", func := "loop.example/g00460/laws.FnExactBusRead", spec := "fnExactBusRead", unfollowed := true, recurses := true, apart := false, narrowed := true }
def FnExactBusReadUptoSaid : Prop := fnExactBusReadUptoRow.holds Try.pinned (OpenSpec.upto fnExactBusReadSpec)

/-- 'laws.FnExactBusWrite', WHERE WHAT IT READS IS OF BULK AT MOST 1048576: true; the input reads as it did. -/
def fnExactBusWriteUptoRow : OpenClaim := { program := "ytmgbdbamfljjnaa", sum := "bdf1420fc7e72065a67407128723e47e6a8b55f143bc5f9dc6336935c5f6bc7c", func := "loop.example/g00460/laws.FnExactBusWrite", spec := "fnExactBusWrite", unfollowed := true, recurses := true, apart := false, narrowed := true }
def FnExactBusWriteUptoSaid : Prop := fnExactBusWriteUptoRow.holds Try.pinned (OpenSpec.upto fnExactBusWriteSpec)

/-- 'laws.FnExactMachineNew', WHERE WHAT IT READS IS OF BULK AT MOST 1048576: true; the input reads as it did. -/
def fnExactMachineNewUptoRow : OpenClaim := { program := "ytmgbdbamfljjnaa", sum := "bdf1420fc7e72065a67407128723e47e6a8b55f143bc5f9dc6336935c5f6bc7c", func := "loop.example/g00460/laws.FnExactMachineNew", spec := "fnExactMachineNew", inPlace := ["internal/abi.NoEscape", "internal/bytealg.MakeNoZero"], apart := false, narrowed := true }
def FnExactMachineNewUptoSaid : Prop := fnExactMachineNewUptoRow.holds Try.pinned (OpenSpec.upto fnExactMachineNewSpec)

end Rows
end Go.Proofs.Ytmgbdbamfljjnaa
