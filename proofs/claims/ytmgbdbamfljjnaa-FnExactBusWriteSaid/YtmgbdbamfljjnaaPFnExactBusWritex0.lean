/- What the Go functions that the law FnExactBusWrite reaches compute, function by function, and that Go comes to just that. -/
import Derived.Test.YtmgbdbamfljjnaaProg
import Derived.Below
import Derived.Deep.Draws
import Derived.Deep.AppendLies
import Derived.Maps.AppendAt
import Derived.OwnWalk
import Derived.Laws.BytesArg
import Derived.Laws.MakeOwn
import Derived.Laws.OwnMore
import Derived.Deep.OwnRows
import Derived.Tactics
import Derived.Lib.ConvBytes
import Derived.Laws.Slices
import Derived.WalkKit
import Derived.KernelRfl
import Derived.RowKit3
import Derived.Deep.LoopGhost
import Derived.Deep.QuietTactic
import Derived.BigQuiet
import Derived.WideLaws
import Derived.Deep.DeepCutAuto
import Derived.Deep.CutBlock
import Derived.Deep.RegionHeld3
import Derived.Laws.Rows
import Derived.Lib.AppendStr
import Derived.ArgAppend
import Derived.Laws.IdiomCopy
import Derived.OrdersHeld
import Derived.Laws.BitsLemmas
import Derived.RowKit
import Derived.Test.YtmgbdbamfljjnaaAidW
import Derived.Laws.IdiomStrings
import Derived.Lib.SliceRun
import Derived.Shelf.Abstract
import Derived.Lib.Hide
import Derived.Lib.Walk
import Derived.Test.YtmgbdbamfljjnaaAidW
import Derived.Test.YtmgbdbamfljjnaaWWords
import Derived.Test.YtmgbdbamfljjnaaWLast
import Derived.Test.YtmgbdbamfljjnaaWTab
import Derived.Test.YtmgbdbamfljjnaaWFour
import Derived.Test.YtmgbdbamfljjnaaWQPut
import Derived.Test.YtmgbdbamfljjnaaWApart
import Derived.Test.YtmgbdbamfljjnaaWArr
import Derived.Test.YtmgbdbamfljjnaaWZeros
import Derived.Test.YtmgbdbamfljjnaaWFoot
import Derived.Test.YtmgbdbamfljjnaaWKept
import Derived.Test.YtmgbdbamfljjnaaWShare
import Derived.Test.YtmgbdbamfljjnaaWN
import Derived.Test.YtmgbdbamfljjnaaWFootNe
import Derived.Test.YtmgbdbamfljjnaaWAt
import Derived.Test.YtmgbdbamfljjnaaWEqStruct
import Derived.Test.YtmgbdbamfljjnaaWRepsOne
import Derived.Test.YtmgbdbamfljjnaaWInv
import Derived.Test.YtmgbdbamfljjnaaWInvWords
import Derived.Test.YtmgbdbamfljjnaaWGuard
import Derived.Test.YtmgbdbamfljjnaaWNEv
import Derived.Test.YtmgbdbamfljjnaaWMore
namespace Go.Proofs.Ytmgbdbamfljjnaa.PFnExactBusWrite
open Go.RowKit Go.Proofs.YtmgbdbamfljjnaaW.PrintWords Go.Proofs.YtmgbdbamfljjnaaW.PrintLast Go.Proofs.YtmgbdbamfljjnaaW.PrintMore
attribute [local go_sem] max2_int min2_int max_two min_two max_three min_three max_four min_four   -- for this text's walks alone
set_option linter.unusedVariables false
set_option linter.unusedSimpArgs false

def errW : Option Int → Value
  | none => .nilIface
  | some c => .iface 0 (.int .i64 c)
theorem errW_none : errW none = .nilIface := rfl
theorem errW_some (c : Int) : errW (some c) = .iface 0 (.int .i64 c) := rfl

theorem info2 : (Try.prog.info? 2).map (fun i => (i.zero, i.size, i.bytes)) = some (some (.int .i64 0), 1, 8) := by kernel_rfl
-- the values' own types
end Go.Proofs.Ytmgbdbamfljjnaa.PFnExactBusWrite
