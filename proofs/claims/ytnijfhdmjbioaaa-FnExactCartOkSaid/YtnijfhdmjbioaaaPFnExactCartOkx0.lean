/- What the Go functions that the law FnExactCartOk reaches compute, function by function, and that Go comes to just that. -/
import Derived.Test.YtnijfhdmjbioaaaProg
import Derived.Below
import Derived.Deep.Draws
import Derived.Deep.AppendLies
import Derived.Maps.AppendAt
import Derived.OwnWalk
import Derived.Laws.BytesArg
import Derived.Laws.MakeOwn
import Derived.Laws.OwnMore
import Derived.Deep.OwnRows
import Derived.Tactics
import Derived.Lib.ConvBytes
import Derived.Laws.Slices
import Derived.WalkKit
import Derived.KernelRfl
import Derived.RowKit3
import Derived.Deep.LoopGhost
import Derived.Deep.QuietTactic
import Derived.BigQuiet
import Derived.WideLaws
import Derived.Deep.DeepCutAuto
import Derived.Deep.CutBlock
import Derived.Deep.RegionHeld3
import Derived.Laws.Rows
import Derived.Lib.AppendStr
import Derived.ArgAppend
import Derived.Laws.IdiomCopy
import Derived.OrdersHeld
import Derived.Laws.BitsLemmas
import Derived.RowKit
import Derived.Test.YtnijfhdmjbioaaaWWords
import Derived.Test.YtnijfhdmjbioaaaWLast
import Derived.Test.YtnijfhdmjbioaaaWTab
import Derived.Test.YtnijfhdmjbioaaaWFour
import Derived.Test.YtnijfhdmjbioaaaWQPut
import Derived.Test.YtnijfhdmjbioaaaWApart
import Derived.Test.YtnijfhdmjbioaaaWArr
import Derived.Test.YtnijfhdmjbioaaaWZeros
import Derived.Test.YtnijfhdmjbioaaaWFoot
import Derived.Test.YtnijfhdmjbioaaaWKept
import Derived.Test.YtnijfhdmjbioaaaWShare
import Derived.Test.YtnijfhdmjbioaaaWN
import Derived.Test.YtnijfhdmjbioaaaWFootNe
import Derived.Test.YtnijfhdmjbioaaaWAt
import Derived.Test.YtnijfhdmjbioaaaWEqStruct
import Derived.Test.YtnijfhdmjbioaaaWRepsOne
import Derived.Test.YtnijfhdmjbioaaaWInv
import Derived.Test.YtnijfhdmjbioaaaWInvWords
import Derived.Test.YtnijfhdmjbioaaaWGuard
import Derived.Test.YtnijfhdmjbioaaaWNEv
import Derived.Test.YtnijfhdmjbioaaaWMore
namespace Go.Proofs.Ytnijfhdmjbioaaa.PFnExactCartOk
open Go.RowKit Go.Proofs.YtnijfhdmjbioaaaW.PrintWords Go.Proofs.YtnijfhdmjbioaaaW.PrintLast Go.Proofs.YtnijfhdmjbioaaaW.PrintMore
attribute [local go_sem] max2_int min2_int max_two min_two max_three min_three max_four min_four   -- for this text's walks alone
set_option linter.unusedVariables false
set_option linter.unusedSimpArgs false



def errW : Option Int → Value
  | none => .nilIface
  | some c => .iface 0 (.int .i64 c)
theorem errW_none : errW none = .nilIface := rfl
theorem errW_some (c : Int) : errW (some c) = .iface 0 (.int .i64 c) := rfl

-- the values' own types

end Go.Proofs.Ytnijfhdmjbioaaa.PFnExactCartOk
