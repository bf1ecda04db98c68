/-
  No cell of these rows narrows 'for every input' (looked for: loops, veiled, ifaces, maps, wideKeys, modest, calm, conditions, laid).
  DERIVED. THE GIVEN ROWS OF THIS SEAT. 6 by the template 'for every input the law returns true; each argument reads behind the call as it read before'; 0 by the template 'total and deterministic' (their statements: YtnijfhdmjbioaaaTotals.lean).
  GIVEN WITH THE SEED: the statements are not yours to turn. If you find one false, say at which input.
  Laid BY PROGRAM, IN A SANDBOX (cutbox-rows.mjs): the forced cells as the released guide's own fill.sh prints them over the translation 4773c9585de8058c… (all of the seat's roots in one cut). By AI agents, Wed Nov 11 2026. No macro, syntax, notation, axiom, sorry.
-/
import Derived.Test.YtnijfhdmjbioaaaChecked
import GoSem.Claim
import GoSem.ClaimJoined
import GoSem.ClaimMapViews
import Derived.JoinedTies
import Derived.KernelRfl
namespace Go.Proofs.Ytnijfhdmjbioaaa
/- THE CELL 'sum', in the pinned program and in every row, IS THE sha256 OF THE DUMP (.gsa) THAT YtnijfhdmjbioaaaProg.lean LOADS. Nothing in Lean hashes anything: it is a label: what it is worth is what the hold of that sum in a sandbox is worth. -/
noncomputable def Try.pinned : Pinned := { name := "ytnijfhdmjbioaaa", sum := "4773c9585de8058cd2f039b2fc9bf5ef591540f67417275a9d59c73e2c2c85c0", checked := Try.checked }
namespace Rows
def none {H : Type} : Left H := { results := [], args := [] }

/-- 'laws.FnExactConstants': WHATEVER THE INPUT: true; the input reads as it did. -/
def fnExactConstantsSpec : ChangeSpec := { name := "fnExactConstants", fn := fun _ => fun
  | [] => { results := [.lit (.bool true)], args := [] }
  | _ => none }
def fnExactConstantsRow : OpenClaim := { program := "ytnijfhdmjbioaaa", sum := "4773c9585de8058cd2f039b2fc9bf5ef591540f67417275a9d59c73e2c2c85c0", func := "loop.example/g00460/laws.FnExactConstants", spec := "fnExactConstants", apart := false }
def FnExactConstantsSaid : Prop := fnExactConstantsRow.holds Try.pinned (OpenSpec.ofChange fnExactConstantsSpec)

/-- ITS FALSE NEIGHBOUR: 'it returns false'. Refute it at one input. -/
def fnExactConstantsWrong : ChangeSpec := { name := "fnExactConstants", fn := fun _ => fun
  | [] => { results := [.lit (.bool false)], args := [] }
  | _ => none }
def FnExactConstantsWrongFalsely : Prop := fnExactConstantsRow.holds Try.pinned (OpenSpec.ofChange fnExactConstantsWrong)

/-- 'laws.FnExactSignedOf': WHATEVER THE INPUT: true; the input reads as it did. -/
def fnExactSignedOfSpec : ChangeSpec := { name := "fnExactSignedOf", fn := fun _ => fun
  | [d] => { results := [.lit (.bool true)], args := [d] }
  | _ => none }
def fnExactSignedOfRow : OpenClaim := { program := "ytnijfhdmjbioaaa", sum := "4773c9585de8058cd2f039b2fc9bf5ef591540f67417275a9d59c73e2c2c85c0", func := "loop.example/g00460/laws.FnExactSignedOf", spec := "fnExactSignedOf", apart := false }
def FnExactSignedOfSaid : Prop := fnExactSignedOfRow.holds Try.pinned (OpenSpec.ofChange fnExactSignedOfSpec)

/-- ITS FALSE NEIGHBOUR: 'it returns false'. Refute it at one input. -/
def fnExactSignedOfWrong : ChangeSpec := { name := "fnExactSignedOf", fn := fun _ => fun
  | [d] => { results := [.lit (.bool false)], args := [d] }
  | _ => none }
def FnExactSignedOfWrongFalsely : Prop := fnExactSignedOfRow.holds Try.pinned (OpenSpec.ofChange fnExactSignedOfWrong)

/-- 'laws.FnExactNameOk': WHATEVER THE INPUT: true; the input reads as it did. -/
def fnExactNameOkSpec : ChangeSpec := { name := "fnExactNameOk", fn := fun _ => fun
  | [d] => { results := [.lit (.bool true)], args := [d] }
  | _ => none }
def fnExactNameOkRow : OpenClaim := { program := "ytnijfhdmjbioaaa", sum := "4773c9585de8058cd2f039b2fc9bf5ef591540f67417275a9d59c73e2c2c85c0", func := "loop.example/g00460/laws.FnExactNameOk", spec := "fnExactNameOk", apart := false }
def FnExactNameOkSaid : Prop := fnExactNameOkRow.holds Try.pinned (OpenSpec.ofChange fnExactNameOkSpec)

/-- ITS FALSE NEIGHBOUR: 'it returns false'. Refute it at one input. -/
def fnExactNameOkWrong : ChangeSpec := { name := "fnExactNameOk", fn := fun _ => fun
  | [d] => { results := [.lit (.bool false)], args := [d] }
  | _ => none }
def FnExactNameOkWrongFalsely : Prop := fnExactNameOkRow.holds Try.pinned (OpenSpec.ofChange fnExactNameOkWrong)

/-- 'laws.FnExactAddWords': WHATEVER THE INPUT: true; the input reads as it did. -/
def fnExactAddWordsSpec : ChangeSpec := { name := "fnExactAddWords", fn := fun _ => fun
  | [d1, d2, d3] => { results := [.lit (.bool true)], args := [d1, d2, d3] }
  | _ => none }
def fnExactAddWordsRow : OpenClaim := { program := "ytnijfhdmjbioaaa", sum := "4773c9585de8058cd2f039b2fc9bf5ef591540f67417275a9d59c73e2c2c85c0", func := "loop.example/g00460/laws.FnExactAddWords", spec := "fnExactAddWords", apart := false }
def FnExactAddWordsSaid : Prop := fnExactAddWordsRow.holds Try.pinned (OpenSpec.ofChange fnExactAddWordsSpec)

/-- ITS FALSE NEIGHBOUR: 'it returns false'. Refute it at one input. -/
def fnExactAddWordsWrong : ChangeSpec := { name := "fnExactAddWords", fn := fun _ => fun
  | [d1, d2, d3] => { results := [.lit (.bool false)], args := [d1, d2, d3] }
  | _ => none }
def FnExactAddWordsWrongFalsely : Prop := fnExactAddWordsRow.holds Try.pinned (OpenSpec.ofChange fnExactAddWordsWrong)

/-- 'laws.FnExactStepped8': WHATEVER THE INPUT: true; the input reads as it did. -/
def fnExactStepped8Spec : ChangeSpec := { name := "fnExactStepped8", fn := fun _ => fun
  | [d1, d2, d3] => { results := [.lit (.bool true)], args := [d1, d2, d3] }
  | _ => none }
def fnExactStepped8Row : OpenClaim := { program := "ytnijfhdmjbioaaa", sum := "4773c9585de8058cd2f039b2fc9bf5ef591540f67417275a9d59c73e2c2c85c0", func := "loop.example/g00460/laws.FnExactStepped8", spec := "fnExactStepped8", apart := false }
def FnExactStepped8Said : Prop := fnExactStepped8Row.holds Try.pinned (OpenSpec.ofChange fnExactStepped8Spec)

/-- ITS FALSE NEIGHBOUR: 'it returns false'. Refute it at one input. -/
def fnExactStepped8Wrong : ChangeSpec := { name := "fnExactStepped8", fn := fun _ => fun
  | [d1, d2, d3] => { results := [.lit (.bool false)], args := [d1, d2, d3] }
  | _ => none }
def FnExactStepped8WrongFalsely : Prop := fnExactStepped8Row.holds Try.pinned (OpenSpec.ofChange fnExactStepped8Wrong)

/-- 'laws.FnExactCartOk': WHATEVER THE INPUT: true; the input reads as it did. -/
def fnExactCartOkSpec : ChangeSpec := { name := "fnExactCartOk", fn := fun _ => fun
  | [d] => { results := [.lit (.bool true)], args := [d] }
  | _ => none }
def fnExactCartOkRow : OpenClaim := { program := "ytnijfhdmjbioaaa", sum := "4773c9585de8058cd2f039b2fc9bf5ef591540f67417275a9d59c73e2c2c85c0", func := "loop.example/g00460/laws.FnExactCartOk", spec := "fnExactCartOk", apart := false }
def FnExactCartOkSaid : Prop := fnExactCartOkRow.holds Try.pinned (OpenSpec.ofChange fnExactCartOkSpec)

/-- ITS FALSE NEIGHBOUR: 'it returns false'. Refute it at one input. -/
def fnExactCartOkWrong : ChangeSpec := { name := "fnExactCartOk", fn := fun _ => fun
  | [d] => { results := [.lit (.bool false)], args := [d] }
  | _ => none }
def FnExactCartOkWrongFalsely : Prop := fnExactCartOkRow.holds Try.pinned (OpenSpec.ofChange fnExactCartOkWrong)

/- THE SECOND FORM. 'bulk': how many values and letters a reading holds, each counted each time it is reached (what is shared counts as often as it is met; a slice's spare places count too). A statement '..UptoSaid' is the law's where the arguments, and the package variables that the reading takes, are together of bulk at most 1048576: NARROWER than '..Said'. Prove '..Said' where nothing that the law and all that it calls make is longer than what came in: it says more and counts as full. Else prove '..UptoSaid'. A law counts once. -/
mutual
def uptoBulk {H : Type} : DataW H → Nat
  | .lit (.string bytes) => bytes.length + 1
  | .lit _ => 1
  | .nil => 1
  | .ptr d => uptoBulk d + 1
  | .slice elems spare => uptoBulkAll elems + uptoBulkAll spare + 1
  | .agg parts => uptoBulkAll parts + 1
  | .iface _ d => uptoBulk d + 1
  | .map entries => uptoBulkEntries entries + 1
  | .held _ => 1
def uptoBulkAll {H : Type} : List (DataW H) → Nat
  | [] => 0
  | d :: r => uptoBulk d + uptoBulkAll r
def uptoBulkEntries {H : Type} : List (Lit × DataW H) → Nat
  | [] => 0
  | x :: r => uptoBulkEntry x + uptoBulkEntries r
def uptoBulkEntry {H : Type} : Lit × DataW H → Nat
  | (.string bytes, d) => bytes.length + uptoBulk d + 1
  | (_, d) => uptoBulk d + 1
 end
def uptoSmall : (H : Type) → List (DataW H) → Bool := fun _ ds => decide (uptoBulkAll ds ≤ 1048576)
def OpenSpec.upto (s : _root_.Go.ChangeSpec) : _root_.Go.OpenSpec := { _root_.Go.OpenSpec.ofChange s with cond := some uptoSmall }

/-- 'laws.FnExactConstants', WHERE WHAT IT READS IS OF BULK AT MOST 1048576: true; the input reads as it did. -/
def fnExactConstantsUptoRow : OpenClaim := { program := "ytnijfhdmjbioaaa", sum := "4773c9585de8058cd2f039b2fc9bf5ef591540f67417275a9d59c73e2c2c85c0", func := "loop.example/g00460/laws.FnExactConstants", spec := "fnExactConstants", apart := false, narrowed := true }
def FnExactConstantsUptoSaid : Prop := fnExactConstantsUptoRow.holds Try.pinned (OpenSpec.upto fnExactConstantsSpec)

/-- 'laws.FnExactSignedOf', WHERE WHAT IT READS IS OF BULK AT MOST 1048576: true; the input reads as it did. -/
def fnExactSignedOfUptoRow : OpenClaim := { program := "ytnijfhdmjbioaaa", sum := "4773c9585de8058cd2f039b2fc9bf5ef591540f67417275a9d59c73e2c2c85c0", func := "loop.example/g00460/laws.FnExactSignedOf", spec := "fnExactSignedOf", apart := false, narrowed := true }
def FnExactSignedOfUptoSaid : Prop := fnExactSignedOfUptoRow.holds Try.pinned (OpenSpec.upto fnExactSignedOfSpec)

/-- 'laws.FnExactNameOk', WHERE WHAT IT READS IS OF BULK AT MOST 1048576: true; the input reads as it did. -/
def fnExactNameOkUptoRow : OpenClaim := { program := "ytnijfhdmjbioaaa", sum := "4773c9585de8058cd2f039b2fc9bf5ef591540f67417275a9d59c73e2c2c85c0", func := "loop.example/g00460/laws.FnExactNameOk", spec := "fnExactNameOk", apart := false, narrowed := true }
def FnExactNameOkUptoSaid : Prop := fnExactNameOkUptoRow.holds Try.pinned (OpenSpec.upto fnExactNameOkSpec)

/-- 'laws.FnExactAddWords', WHERE WHAT IT READS IS OF BULK AT MOST 1048576: true; the input reads as it did. -/
def fnExactAddWordsUptoRow : OpenClaim := { program := "ytnijfhdmjbioaaa", sum := "4773c9585de8058cd2f039b2fc9bf5ef591540f67417275a9d59c73e2c2c85c0", func := "loop.example/g00460/laws.FnExactAddWords", spec := "fnExactAddWords", apart := false, narrowed := true }
def FnExactAddWordsUptoSaid : Prop := fnExactAddWordsUptoRow.holds Try.pinned (OpenSpec.upto fnExactAddWordsSpec)

/-- 'laws.FnExactStepped8', WHERE WHAT IT READS IS OF BULK AT MOST 1048576: true; the input reads as it did. -/
def fnExactStepped8UptoRow : OpenClaim := { program := "ytnijfhdmjbioaaa", sum := "4773c9585de8058cd2f039b2fc9bf5ef591540f67417275a9d59c73e2c2c85c0", func := "loop.example/g00460/laws.FnExactStepped8", spec := "fnExactStepped8", apart := false, narrowed := true }
def FnExactStepped8UptoSaid : Prop := fnExactStepped8UptoRow.holds Try.pinned (OpenSpec.upto fnExactStepped8Spec)

/-- 'laws.FnExactCartOk', WHERE WHAT IT READS IS OF BULK AT MOST 1048576: true; the input reads as it did. -/
def fnExactCartOkUptoRow : OpenClaim := { program := "ytnijfhdmjbioaaa", sum := "4773c9585de8058cd2f039b2fc9bf5ef591540f67417275a9d59c73e2c2c85c0", func := "loop.example/g00460/laws.FnExactCartOk", spec := "fnExactCartOk", apart := false, narrowed := true }
def FnExactCartOkUptoSaid : Prop := fnExactCartOkUptoRow.holds Try.pinned (OpenSpec.upto fnExactCartOkSpec)

end Rows
end Go.Proofs.Ytnijfhdmjbioaaa
