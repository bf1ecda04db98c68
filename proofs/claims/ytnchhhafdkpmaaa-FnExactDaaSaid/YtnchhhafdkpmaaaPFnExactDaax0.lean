/- What the Go functions that the law FnExactDaa reaches compute, function by function, and that Go comes to just that. -/
import Derived.Test.YtnchhhafdkpmaaaProg
import Derived.Below
import Derived.Deep.Draws
import Derived.Deep.AppendLies
import Derived.Maps.AppendAt
import Derived.OwnWalk
import Derived.Laws.BytesArg
import Derived.Laws.MakeOwn
import Derived.Laws.OwnMore
import Derived.Deep.OwnRows
import Derived.Tactics
import Derived.Lib.ConvBytes
import Derived.Laws.Slices
import Derived.WalkKit
import Derived.KernelRfl
import Derived.RowKit3
import Derived.Deep.LoopGhost
import Derived.Deep.QuietTactic
import Derived.BigQuiet
import Derived.WideLaws
import Derived.Deep.DeepCutAuto
import Derived.Deep.CutBlock
import Derived.Deep.RegionHeld3
import Derived.Laws.Rows
import Derived.Lib.AppendStr
import Derived.ArgAppend
import Derived.Laws.IdiomCopy
import Derived.OrdersHeld
import Derived.Laws.BitsLemmas
import Derived.RowKit
import Derived.Test.YtnchhhafdkpmaaaWWords
import Derived.Test.YtnchhhafdkpmaaaWLast
import Derived.Test.YtnchhhafdkpmaaaWTab
import Derived.Test.YtnchhhafdkpmaaaWFour
import Derived.Test.YtnchhhafdkpmaaaWQPut
import Derived.Test.YtnchhhafdkpmaaaWApart
import Derived.Test.YtnchhhafdkpmaaaWArr
import Derived.Test.YtnchhhafdkpmaaaWZeros
import Derived.Test.YtnchhhafdkpmaaaWFoot
import Derived.Test.YtnchhhafdkpmaaaWKept
import Derived.Test.YtnchhhafdkpmaaaWShare
import Derived.Test.YtnchhhafdkpmaaaWN
import Derived.Test.YtnchhhafdkpmaaaWFootNe
import Derived.Test.YtnchhhafdkpmaaaWAt
import Derived.Test.YtnchhhafdkpmaaaWEqStruct
import Derived.Test.YtnchhhafdkpmaaaWRepsOne
import Derived.Test.YtnchhhafdkpmaaaWInv
import Derived.Test.YtnchhhafdkpmaaaWInvWords
import Derived.Test.YtnchhhafdkpmaaaWGuard
import Derived.Test.YtnchhhafdkpmaaaWNEv
import Derived.Test.YtnchhhafdkpmaaaWMore
namespace Go.Proofs.Ytnchhhafdkpmaaa.PFnExactDaa
open Go.RowKit Go.Proofs.YtnchhhafdkpmaaaW.PrintWords Go.Proofs.YtnchhhafdkpmaaaW.PrintLast Go.Proofs.YtnchhhafdkpmaaaW.PrintMore
attribute [local go_sem] max2_int min2_int max_two min_two max_three min_three max_four min_four   -- for this text's walks alone
set_option linter.unusedVariables false
set_option linter.unusedSimpArgs false



def errW : Option Int → Value
  | none => .nilIface
  | some c => .iface 0 (.int .i64 c)
theorem errW_none : errW none = .nilIface := rfl
theorem errW_some (c : Int) : errW (some c) = .iface 0 (.int .i64 c) := rfl

-- the values' own types

end Go.Proofs.Ytnchhhafdkpmaaa.PFnExactDaa
