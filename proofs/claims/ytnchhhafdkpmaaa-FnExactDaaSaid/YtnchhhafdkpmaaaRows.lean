/-
  No cell of these rows narrows 'for every input' (looked for: loops, veiled, ifaces, maps, wideKeys, modest, calm, conditions, laid).
  DERIVED. THE GIVEN ROWS OF THIS SEAT. 12 by the template 'for every input the law returns true; each argument reads behind the call as it read before'; 0 by the template 'total and deterministic' (their statements: YtnchhhafdkpmaaaTotals.lean).
  GIVEN WITH THE SEED: the statements are not yours to turn. If you find one false, say at which input.
  Laid BY PROGRAM, IN A SANDBOX (cutbox-rows.mjs): the forced cells as the released guide's own fill.sh prints them over the translation f490b714e35fb300… (all of the seat's roots in one cut). By AI agents, Wed Nov 11 2026. No macro, syntax, notation, axiom, sorry.
-/
import Derived.Test.YtnchhhafdkpmaaaChecked
import GoSem.Claim
import GoSem.ClaimJoined
import GoSem.ClaimMapViews
import Derived.JoinedTies
import Derived.KernelRfl
namespace Go.Proofs.Ytnchhhafdkpmaaa
/- THE CELL 'sum', in the pinned program and in every row, IS THE sha256 OF THE DUMP (.gsa) THAT YtnchhhafdkpmaaaProg.lean LOADS. Nothing in Lean hashes anything: it is a label: what it is worth is what the hold of that sum in a sandbox is worth. -/
noncomputable def Try.pinned : Pinned := { name := "ytnchhhafdkpmaaa", sum := "f490b714e35fb3006d5a11f19699a5111882cccdc9bb8dfe1c01e0a6986548c9", checked := Try.checked }
namespace Rows
def none {H : Type} : Left H := { results := [], args := [] }

/-- 'laws.FnExactAddSigned': WHATEVER THE INPUT: true; the input reads as it did. -/
def fnExactAddSignedSpec : ChangeSpec := { name := "fnExactAddSigned", fn := fun _ => fun
  | [d1, d2] => { results := [.lit (.bool true)], args := [d1, d2] }
  | _ => none }
def fnExactAddSignedRow : OpenClaim := { program := "ytnchhhafdkpmaaa", sum := "f490b714e35fb3006d5a11f19699a5111882cccdc9bb8dfe1c01e0a6986548c9", func := "loop.example/g00460/laws.FnExactAddSigned", spec := "fnExactAddSigned", apart := false }
def FnExactAddSignedSaid : Prop := fnExactAddSignedRow.holds Try.pinned (OpenSpec.ofChange fnExactAddSignedSpec)

/-- ITS FALSE NEIGHBOUR: 'it returns false'. Refute it at one input. -/
def fnExactAddSignedWrong : ChangeSpec := { name := "fnExactAddSigned", fn := fun _ => fun
  | [d1, d2] => { results := [.lit (.bool false)], args := [d1, d2] }
  | _ => none }
def FnExactAddSignedWrongFalsely : Prop := fnExactAddSignedRow.holds Try.pinned (OpenSpec.ofChange fnExactAddSignedWrong)

/-- 'laws.FnExactDaa': WHATEVER THE INPUT: true; the input reads as it did. -/
def fnExactDaaSpec : ChangeSpec := { name := "fnExactDaa", fn := fun _ => fun
  | [d1, d2] => { results := [.lit (.bool true)], args := [d1, d2] }
  | _ => none }
def fnExactDaaRow : OpenClaim := { program := "ytnchhhafdkpmaaa", sum := "f490b714e35fb3006d5a11f19699a5111882cccdc9bb8dfe1c01e0a6986548c9", func := "loop.example/g00460/laws.FnExactDaa", spec := "fnExactDaa", apart := false }
def FnExactDaaSaid : Prop := fnExactDaaRow.holds Try.pinned (OpenSpec.ofChange fnExactDaaSpec)

/-- ITS FALSE NEIGHBOUR: 'it returns false'. Refute it at one input. -/
def fnExactDaaWrong : ChangeSpec := { name := "fnExactDaa", fn := fun _ => fun
  | [d1, d2] => { results := [.lit (.bool false)], args := [d1, d2] }
  | _ => none }
def FnExactDaaWrongFalsely : Prop := fnExactDaaRow.holds Try.pinned (OpenSpec.ofChange fnExactDaaWrong)

/-- 'laws.FnExactMappedBank': WHATEVER THE INPUT: true; the input reads as it did. -/
def fnExactMappedBankSpec : ChangeSpec := { name := "fnExactMappedBank", fn := fun _ => fun
  | [d] => { results := [.lit (.bool true)], args := [d] }
  | _ => none }
def fnExactMappedBankRow : OpenClaim := { program := "ytnchhhafdkpmaaa", sum := "f490b714e35fb3006d5a11f19699a5111882cccdc9bb8dfe1c01e0a6986548c9", func := "loop.example/g00460/laws.FnExactMappedBank", spec := "fnExactMappedBank", apart := false }
def FnExactMappedBankSaid : Prop := fnExactMappedBankRow.holds Try.pinned (OpenSpec.ofChange fnExactMappedBankSpec)

/-- ITS FALSE NEIGHBOUR: 'it returns false'. Refute it at one input. -/
def fnExactMappedBankWrong : ChangeSpec := { name := "fnExactMappedBank", fn := fun _ => fun
  | [d] => { results := [.lit (.bool false)], args := [d] }
  | _ => none }
def FnExactMappedBankWrongFalsely : Prop := fnExactMappedBankRow.holds Try.pinned (OpenSpec.ofChange fnExactMappedBankWrong)

/-- 'laws.FnExactReadNum': WHATEVER THE INPUT: true; the input reads as it did. -/
def fnExactReadNumSpec : ChangeSpec := { name := "fnExactReadNum", fn := fun _ => fun
  | [d] => { results := [.lit (.bool true)], args := [d] }
  | _ => none }
def fnExactReadNumRow : OpenClaim := { program := "ytnchhhafdkpmaaa", sum := "f490b714e35fb3006d5a11f19699a5111882cccdc9bb8dfe1c01e0a6986548c9", func := "loop.example/g00460/laws.FnExactReadNum", spec := "fnExactReadNum", inPlace := ["internal/bytealg.IndexByteString"], apart := false }
def FnExactReadNumSaid : Prop := fnExactReadNumRow.holds Try.pinned (OpenSpec.ofChange fnExactReadNumSpec)

/-- ITS FALSE NEIGHBOUR: 'it returns false'. Refute it at one input. -/
def fnExactReadNumWrong : ChangeSpec := { name := "fnExactReadNum", fn := fun _ => fun
  | [d] => { results := [.lit (.bool false)], args := [d] }
  | _ => none }
def FnExactReadNumWrongFalsely : Prop := fnExactReadNumRow.holds Try.pinned (OpenSpec.ofChange fnExactReadNumWrong)

/-- 'laws.FnExactAlu': WHATEVER THE INPUT: true; the input reads as it did. -/
def fnExactAluSpec : ChangeSpec := { name := "fnExactAlu", fn := fun _ => fun
  | [d1, d2, d3, d4] => { results := [.lit (.bool true)], args := [d1, d2, d3, d4] }
  | _ => none }
def fnExactAluRow : OpenClaim := { program := "ytnchhhafdkpmaaa", sum := "f490b714e35fb3006d5a11f19699a5111882cccdc9bb8dfe1c01e0a6986548c9", func := "loop.example/g00460/laws.FnExactAlu", spec := "fnExactAlu", apart := false }
def FnExactAluSaid : Prop := fnExactAluRow.holds Try.pinned (OpenSpec.ofChange fnExactAluSpec)

/-- ITS FALSE NEIGHBOUR: 'it returns false'. Refute it at one input. -/
def fnExactAluWrong : ChangeSpec := { name := "fnExactAlu", fn := fun _ => fun
  | [d1, d2, d3, d4] => { results := [.lit (.bool false)], args := [d1, d2, d3, d4] }
  | _ => none }
def FnExactAluWrongFalsely : Prop := fnExactAluRow.holds Try.pinned (OpenSpec.ofChange fnExactAluWrong)

/-- 'laws.FnExactTurned': WHATEVER THE INPUT: true; the input reads as it did. -/
def fnExactTurnedSpec : ChangeSpec := { name := "fnExactTurned", fn := fun _ => fun
  | [d1, d2, d3] => { results := [.lit (.bool true)], args := [d1, d2, d3] }
  | _ => none }
def fnExactTurnedRow : OpenClaim := { program := "ytnchhhafdkpmaaa", sum := "f490b714e35fb3006d5a11f19699a5111882cccdc9bb8dfe1c01e0a6986548c9", func := "loop.example/g00460/laws.FnExactTurned", spec := "fnExactTurned", apart := false }
def FnExactTurnedSaid : Prop := fnExactTurnedRow.holds Try.pinned (OpenSpec.ofChange fnExactTurnedSpec)

/-- ITS FALSE NEIGHBOUR: 'it returns false'. Refute it at one input. -/
def fnExactTurnedWrong : ChangeSpec := { name := "fnExactTurned", fn := fun _ => fun
  | [d1, d2, d3] => { results := [.lit (.bool false)], args := [d1, d2, d3] }
  | _ => none }
def FnExactTurnedWrongFalsely : Prop := fnExactTurnedRow.holds Try.pinned (OpenSpec.ofChange fnExactTurnedWrong)

/-- 'laws.FnExactCartRead': WHATEVER THE INPUT: true; the input reads as it did. -/
def fnExactCartReadSpec : ChangeSpec := { name := "fnExactCartRead", fn := fun _ => fun
  | [d1, d2] => { results := [.lit (.bool true)], args := [d1, d2] }
  | _ => none }
def fnExactCartReadRow : OpenClaim := { program := "ytnchhhafdkpmaaa", sum := "f490b714e35fb3006d5a11f19699a5111882cccdc9bb8dfe1c01e0a6986548c9", func := "loop.example/g00460/laws.FnExactCartRead", spec := "fnExactCartRead", apart := false }
def FnExactCartReadSaid : Prop := fnExactCartReadRow.holds Try.pinned (OpenSpec.ofChange fnExactCartReadSpec)

/-- ITS FALSE NEIGHBOUR: 'it returns false'. Refute it at one input. -/
def fnExactCartReadWrong : ChangeSpec := { name := "fnExactCartRead", fn := fun _ => fun
  | [d1, d2] => { results := [.lit (.bool false)], args := [d1, d2] }
  | _ => none }
def FnExactCartReadWrongFalsely : Prop := fnExactCartReadRow.holds Try.pinned (OpenSpec.ofChange fnExactCartReadWrong)

/-- 'laws.FnExactExprOk': WHATEVER THE INPUT: true; the input reads as it did. -/
def fnExactExprOkSpec : ChangeSpec := { name := "fnExactExprOk", fn := fun _ => fun
  | [d] => { results := [.lit (.bool true)], args := [d] }
  | _ => none }
def fnExactExprOkRow : OpenClaim := { program := "ytnchhhafdkpmaaa", sum := "f490b714e35fb3006d5a11f19699a5111882cccdc9bb8dfe1c01e0a6986548c9", func := "loop.example/g00460/laws.FnExactExprOk", spec := "fnExactExprOk", apart := false }
def FnExactExprOkSaid : Prop := fnExactExprOkRow.holds Try.pinned (OpenSpec.ofChange fnExactExprOkSpec)

/-- ITS FALSE NEIGHBOUR: 'it returns false'. Refute it at one input. -/
def fnExactExprOkWrong : ChangeSpec := { name := "fnExactExprOk", fn := fun _ => fun
  | [d] => { results := [.lit (.bool false)], args := [d] }
  | _ => none }
def FnExactExprOkWrongFalsely : Prop := fnExactExprOkRow.holds Try.pinned (OpenSpec.ofChange fnExactExprOkWrong)

/-- 'laws.FnExactCartWrite': WHATEVER THE INPUT: true; the input reads as it did. -/
def fnExactCartWriteSpec : ChangeSpec := { name := "fnExactCartWrite", fn := fun _ => fun
  | [d1, d2, d3] => { results := [.lit (.bool true)], args := [d1, d2, d3] }
  | _ => none }
def fnExactCartWriteRow : OpenClaim := { program := "ytnchhhafdkpmaaa", sum := "f490b714e35fb3006d5a11f19699a5111882cccdc9bb8dfe1c01e0a6986548c9", func := "loop.example/g00460/laws.FnExactCartWrite", spec := "fnExactCartWrite", apart := false }
def FnExactCartWriteSaid : Prop := fnExactCartWriteRow.holds Try.pinned (OpenSpec.ofChange fnExactCartWriteSpec)

/-- ITS FALSE NEIGHBOUR: 'it returns false'. Refute it at one input. -/
def fnExactCartWriteWrong : ChangeSpec := { name := "fnExactCartWrite", fn := fun _ => fun
  | [d1, d2, d3] => { results := [.lit (.bool false)], args := [d1, d2, d3] }
  | _ => none }
def FnExactCartWriteWrongFalsely : Prop := fnExactCartWriteRow.holds Try.pinned (OpenSpec.ofChange fnExactCartWriteWrong)

/-- 'laws.FnExactCartNew': WHATEVER THE INPUT: true; the input reads as it did. -/
def fnExactCartNewSpec : ChangeSpec := { name := "fnExactCartNew", fn := fun _ => fun
  | [d1, d2] => { results := [.lit (.bool true)], args := [d1, d2] }
  | _ => none }
def fnExactCartNewRow : OpenClaim := { program := "ytnchhhafdkpmaaa", sum := "f490b714e35fb3006d5a11f19699a5111882cccdc9bb8dfe1c01e0a6986548c9", func := "loop.example/g00460/laws.FnExactCartNew", spec := "fnExactCartNew", inPlace := ["internal/abi.NoEscape", "internal/bytealg.MakeNoZero"], apart := false }
def FnExactCartNewSaid : Prop := fnExactCartNewRow.holds Try.pinned (OpenSpec.ofChange fnExactCartNewSpec)

/-- ITS FALSE NEIGHBOUR: 'it returns false'. Refute it at one input. -/
def fnExactCartNewWrong : ChangeSpec := { name := "fnExactCartNew", fn := fun _ => fun
  | [d1, d2] => { results := [.lit (.bool false)], args := [d1, d2] }
  | _ => none }
def FnExactCartNewWrongFalsely : Prop := fnExactCartNewRow.holds Try.pinned (OpenSpec.ofChange fnExactCartNewWrong)

/-- 'laws.FnExactMachineOk': WHATEVER THE INPUT: true; the input reads as it did. -/
def fnExactMachineOkSpec : ChangeSpec := { name := "fnExactMachineOk", fn := fun _ => fun
  | [d] => { results := [.lit (.bool true)], args := [d] }
  | _ => none }
def fnExactMachineOkRow : OpenClaim := { program := "ytnchhhafdkpmaaa", sum := "f490b714e35fb3006d5a11f19699a5111882cccdc9bb8dfe1c01e0a6986548c9", func := "loop.example/g00460/laws.FnExactMachineOk", spec := "fnExactMachineOk", unfollowed := true, recurses := true, apart := false }
def FnExactMachineOkSaid : Prop := fnExactMachineOkRow.holds Try.pinned (OpenSpec.ofChange fnExactMachineOkSpec)

/-- ITS FALSE NEIGHBOUR: 'it returns false'. Refute it at one input. -/
def fnExactMachineOkWrong : ChangeSpec := { name := "fnExactMachineOk", fn := fun _ => fun
  | [d] => { results := [.lit (.bool false)], args := [d] }
  | _ => none }
def FnExactMachineOkWrongFalsely : Prop := fnExactMachineOkRow.holds Try.pinned (OpenSpec.ofChange fnExactMachineOkWrong)

/-- 'laws.FnExactBusRead': WHATEVER THE INPUT: true; the input reads as it did. -/
def fnExactBusReadSpec : ChangeSpec := { name := "fnExactBusRead", fn := fun _ => fun
  | [d1, d2] => { results := [.lit (.bool true)], args := [d1, d2] }
  | _ => none }
def fnExactBusReadRow : OpenClaim := { program := "ytnchhhafdkpmaaa", sum := "f490b714e35fb3006d5a11f19699a5111882cccdc9bb8dfe1c01e0a6986548c9", func := "loop.example/g00460/laws.FnExactBusRead", spec := "fnExactBusRead", unfollowed := true, recurses := true, apart := false }
def FnExactBusReadSaid : Prop := fnExactBusReadRow.holds Try.pinned (OpenSpec.ofChange fnExactBusReadSpec)

/-- ITS FALSE NEIGHBOUR: 'it returns false'. Refute it at one input. -/
def fnExactBusReadWrong : ChangeSpec := { name := "fnExactBusRead", fn := fun _ => fun
  | [d1, d2] => { results := [.lit (.bool false)], args := [d1, d2] }
  | _ => none }
def FnExactBusReadWrongFalsely : Prop := fnExactBusReadRow.holds Try.pinned (OpenSpec.ofChange fnExactBusReadWrong)

/- THE SECOND FORM. 'bulk': how many values and letters a reading holds, each counted each time it is reached (what is shared counts as often as it is met; a slice's spare places count too). A statement '..UptoSaid' is the law's where the arguments, and the package variables that the reading takes, are together of bulk at most 1048576: NARROWER than '..Said'. Prove '..Said' where nothing that the law and all that it calls make is longer than what came in: it says more and counts as full. Else prove '..UptoSaid'. A law counts once. -/
mutual
def uptoBulk {H : Type} : DataW H → Nat
  | .lit (.string bytes) => bytes.length + 1
  | .lit _ => 1
  | .nil => 1
  | .ptr d => uptoBulk d + 1
  | .slice elems spare => uptoBulkAll elems + uptoBulkAll spare + 1
  | .agg parts => uptoBulkAll parts + 1
  | .iface _ d => uptoBulk d + 1
  | .map entries => uptoBulkEntries entries + 1
  | .held _ => 1
def uptoBulkAll {H : Type} : List (DataW H) → Nat
  | [] => 0
  | d :: r => uptoBulk d + uptoBulkAll r
def uptoBulkEntries {H : Type} : List (Lit × DataW H) → Nat
  | [] => 0
  | x :: r => uptoBulkEntry x + uptoBulkEntries r
def uptoBulkEntry {H : Type} : Lit × DataW H → Nat
  | (.string bytes, d) => bytes.length + uptoBulk d + 1
  | (_, d) => uptoBulk d + 1
 end
def uptoSmall : (H : Type) → List (DataW H) → Bool := fun _ ds => decide (uptoBulkAll ds ≤ 1048576)
def OpenSpec.upto (s : _root_.Go.ChangeSpec) : _root_.Go.OpenSpec := { _root_.Go.OpenSpec.ofChange s with cond := some uptoSmall }

/-- 'laws.FnExactAddSigned', WHERE WHAT IT READS IS OF BULK AT MOST 1048576: true; the input reads as it did. -/
def fnExactAddSignedUptoRow : OpenClaim := { program := "ytnchhhafdkpmaaa", sum := "f490b714e35fb3006d5a11f19699a5111882cccdc9bb8dfe1c01e0a6986548c9", func := "loop.example/g00460/laws.FnExactAddSigned", spec := "fnExactAddSigned", apart := false, narrowed := true }
def FnExactAddSignedUptoSaid : Prop := fnExactAddSignedUptoRow.holds Try.pinned (OpenSpec.upto fnExactAddSignedSpec)

/-- 'laws.FnExactDaa', WHERE WHAT IT READS IS OF BULK AT MOST 1048576: true; the input reads as it did. -/
def fnExactDaaUptoRow : OpenClaim := { program := "ytnchhhafdkpmaaa", sum := "f490b714e35fb3006d5a11f19699a5111882cccdc9bb8dfe1c01e0a6986548c9", func := "loop.example/g00460/laws.FnExactDaa", spec := "fnExactDaa", apart := false, narrowed := true }
def FnExactDaaUptoSaid : Prop := fnExactDaaUptoRow.holds Try.pinned (OpenSpec.upto fnExactDaaSpec)

/-- 'laws.FnExactMappedBank', WHERE WHAT IT READS IS OF BULK AT MOST 1048576: true; the input reads as it did. -/
def fnExactMappedBankUptoRow : OpenClaim := { program := "ytnchhhafdkpmaaa", sum := "f490b714e35fb3006d5a11f19699a5111882cccdc9bb8dfe1c01e0a6986548c9", func := "loop.example/g00460/laws.FnExactMappedBank", spec := "fnExactMappedBank", apart := false, narrowed := true }
def FnExactMappedBankUptoSaid : Prop := fnExactMappedBankUptoRow.holds Try.pinned (OpenSpec.upto fnExactMappedBankSpec)

/-- 'laws.FnExactReadNum', WHERE WHAT IT READS IS OF BULK AT MOST 1048576: true; the input reads as it did. -/
def fnExactReadNumUptoRow : OpenClaim := { program := "ytnchhhafdkpmaaa", sum := "f490b714e35fb3006d5a11f19699a5111882cccdc9bb8dfe1c01e0a6986548c9", func := "loop.example/g00460/laws.FnExactReadNum", spec := "fnExactReadNum", inPlace := ["internal/bytealg.IndexByteString"], apart := false, narrowed := true }
def FnExactReadNumUptoSaid : Prop := fnExactReadNumUptoRow.holds Try.pinned (OpenSpec.upto fnExactReadNumSpec)

/-- 'laws.FnExactAlu', WHERE WHAT IT READS IS OF BULK AT MOST 1048576: true; the input reads as it did. -/
def fnExactAluUptoRow : OpenClaim := { program := "ytnchhhafdkpmaaa", sum := "f490b714e35fb3006d5a11f19699a5111882cccdc9bb8dfe1c01e0a6986548c9", func := "loop.example/g00460/laws.FnExactAlu", spec := "fnExactAlu", apart := false, narrowed := true }
def FnExactAluUptoSaid : Prop := fnExactAluUptoRow.holds Try.pinned (OpenSpec.upto fnExactAluSpec)

/-- 'laws.FnExactTurned', WHERE WHAT IT READS IS OF BULK AT MOST 1048576: true; the input reads as it did. -/
def fnExactTurnedUptoRow : OpenClaim := { program := "ytnchhhafdkpmaaa", sum := "f490b714e35fb3006d5a11f19699a5111882cccdc9bb8dfe1c01e0a6986548c9", func := "loop.example/g00460/laws.FnExactTurned", spec := "fnExactTurned", apart := false, narrowed := true }
def FnExactTurnedUptoSaid : Prop := fnExactTurnedUptoRow.holds Try.pinned (OpenSpec.upto fnExactTurnedSpec)

/-- 'laws.FnExactCartRead', WHERE WHAT IT READS IS OF BULK AT MOST 1048576: true; the input reads as it did. -/
def fnExactCartReadUptoRow : OpenClaim := { program := "ytnchhhafdkpmaaa", sum := "f490b714e35fb3006d5a11f19699a5111882cccdc9bb8dfe1c01e0a6986548c9", func := "loop.example/g00460/laws.FnExactCartRead", spec := "fnExactCartRead", apart := false, narrowed := true }
def FnExactCartReadUptoSaid : Prop := fnExactCartReadUptoRow.holds Try.pinned (OpenSpec.upto fnExactCartReadSpec)

/-- 'laws.FnExactExprOk', WHERE WHAT IT READS IS OF BULK AT MOST 1048576: true; the input reads as it did. -/
def fnExactExprOkUptoRow : OpenClaim := { program := "ytnchhhafdkpmaaa", sum := "f490b714e35fb3006d5a11f19699a5111882cccdc9bb8dfe1c01e0a6986548c9", func := "loop.example/g00460/laws.FnExactExprOk", spec := "fnExactExprOk", apart := false, narrowed := true }
def FnExactExprOkUptoSaid : Prop := fnExactExprOkUptoRow.holds Try.pinned (OpenSpec.upto fnExactExprOkSpec)

/-- 'laws.FnExactCartWrite', WHERE WHAT IT READS IS OF BULK AT MOST 1048576: true; the input reads as it did. -/
def fnExactCartWriteUptoRow : OpenClaim := { program := "ytnchhhafdkpmaaa", sum := "f490b714e35fb3006d5a11f19699a5111882cccdc9bb8dfe1c01e0a6986548c9", func := "loop.example/g00460/laws.FnExactCartWrite", spec := "fnExactCartWrite", apart := false, narrowed := true }
def FnExactCartWriteUptoSaid : Prop := fnExactCartWriteUptoRow.holds Try.pinned (OpenSpec.upto fnExactCartWriteSpec)

/-- 'laws.FnExactCartNew', WHERE WHAT IT READS IS OF BULK AT MOST 1048576: true; the input reads as it did. -/
def fnExactCartNewUptoRow : OpenClaim := { program := "ytnchhhafdkpmaaa", sum := "f490b714e35fb3006d5a11f19699a5111882cccdc9bb8dfe1c01e0a6986548c9", func := "loop.example/g00460/laws.FnExactCartNew", spec := "fnExactCartNew", inPlace := ["internal/abi.NoEscape", "internal/bytealg.MakeNoZero"], apart := false, narrowed := true }
def FnExactCartNewUptoSaid : Prop := fnExactCartNewUptoRow.holds Try.pinned (OpenSpec.upto fnExactCartNewSpec)

/-- 'laws.FnExactMachineOk', WHERE WHAT IT READS IS OF BULK AT MOST 1048576: true; the input reads as it did. -/
def fnExactMachineOkUptoRow : OpenClaim := { program := "ytnchhhafdkpmaaa", sum := "f490b714e35fb3006d5a11f19699a5111882cccdc9bb8dfe1c01e0a6986548c9", func := "loop.example/g00460/laws.FnExactMachineOk", spec := "fnExactMachineOk", unfollowed := true, recurses := true, apart := false, narrowed := true }
def FnExactMachineOkUptoSaid : Prop := fnExactMachineOkUptoRow.holds Try.pinned (OpenSpec.upto fnExactMachineOkSpec)

/-- 'laws.FnExactBusRead', WHERE WHAT IT READS IS OF BULK AT MOST 1048576: true; the input reads as it did. -/
def fnExactBusReadUptoRow : OpenClaim := { program := "ytnchhhafdkpmaaa", sum := "f490b714e35fb3006d5a11f19699a5111882cccdc9bb8dfe1c01e0a6986548c9", func := "loop.example/g00460/laws.FnExactBusRead", spec := "fnExactBusRead", unfollowed := true, recurses := true, apart := false, narrowed := true }
def FnExactBusReadUptoSaid : Prop := fnExactBusReadUptoRow.holds Try.pinned (OpenSpec.upto fnExactBusReadSpec)

end Rows
end Go.Proofs.Ytnchhhafdkpmaaa
