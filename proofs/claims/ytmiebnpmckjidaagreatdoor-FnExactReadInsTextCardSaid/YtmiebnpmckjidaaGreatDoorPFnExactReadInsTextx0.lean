/- What the Go functions that the law FnExactReadInsText reaches compute, function by function, and that Go comes to just that. -/
import Derived.Test.YtmiebnpmckjidaaGreatDoorProg
import Derived.Below
import Derived.Deep.Draws
import Derived.Deep.AppendLies
import Derived.Maps.AppendAt
import Derived.OwnWalk
import Derived.Laws.BytesArg
import Derived.Laws.MakeOwn
import Derived.Laws.OwnMore
import Derived.Deep.OwnRows
import Derived.Tactics
import Derived.Lib.ConvBytes
import Derived.Laws.Slices
import Derived.WalkKit
import Derived.KernelRfl
import Derived.RowKit3
import Derived.Deep.LoopGhost
import Derived.Deep.QuietTactic
import Derived.BigQuiet
import Derived.WideLaws
import Derived.Deep.DeepCutAuto
import Derived.Deep.CutBlock
import Derived.Deep.RegionHeld3
import Derived.Laws.Rows
import Derived.Lib.AppendStr
import Derived.ArgAppend
import Derived.Laws.IdiomCopy
import Derived.OrdersHeld
import Derived.Laws.BitsLemmas
import Derived.RowKit
import Derived.Test.YtmiebnpmckjidaaGreatDoorAidI
import Derived.Test.YtmiebnpmckjidaaGreatDoorShelf
import Derived.RegionTactic
import Derived.RegionCalls
import Derived.Deep.RegionWith
import Derived.Laws.IdiomStrings
import Derived.Test.YtmiebnpmckjidaaGreatDoorAidH
import Derived.Lib.ParseIntB
import Derived.Shelf.Strconv.ErrVarParseInt
import Derived.Test.YtmiebnpmckjidaaGreatDoorAidS
import Derived.Test.YtmiebnpmckjidaaGreatDoorGlobFnExactReadInsText
import Derived.Test.YtmiebnpmckjidaaGreatDoorWWords
import Derived.Test.YtmiebnpmckjidaaGreatDoorWLast
import Derived.Test.YtmiebnpmckjidaaGreatDoorWTab
import Derived.Test.YtmiebnpmckjidaaGreatDoorWFour
import Derived.Test.YtmiebnpmckjidaaGreatDoorWQPut
import Derived.Test.YtmiebnpmckjidaaGreatDoorWApart
import Derived.Test.YtmiebnpmckjidaaGreatDoorWArr
import Derived.Test.YtmiebnpmckjidaaGreatDoorWZeros
import Derived.Test.YtmiebnpmckjidaaGreatDoorWFoot
import Derived.Test.YtmiebnpmckjidaaGreatDoorWKept
import Derived.Test.YtmiebnpmckjidaaGreatDoorWShare
import Derived.Test.YtmiebnpmckjidaaGreatDoorWN
import Derived.Test.YtmiebnpmckjidaaGreatDoorWFootNe
import Derived.Test.YtmiebnpmckjidaaGreatDoorWAt
import Derived.Test.YtmiebnpmckjidaaGreatDoorWEqStruct
import Derived.Test.YtmiebnpmckjidaaGreatDoorWRepsOne
import Derived.Test.YtmiebnpmckjidaaGreatDoorWInv
import Derived.Test.YtmiebnpmckjidaaGreatDoorWInvWords
import Derived.Test.YtmiebnpmckjidaaGreatDoorWGuard
import Derived.Test.YtmiebnpmckjidaaGreatDoorWNEv
import Derived.Test.YtmiebnpmckjidaaGreatDoorWMore
namespace Go.Proofs.YtmiebnpmckjidaaGreatDoor.PFnExactReadInsText
open Go.RowKit Go.Proofs.YtmiebnpmckjidaaGreatDoorW.PrintWords Go.Proofs.YtmiebnpmckjidaaGreatDoorW.PrintLast Go.Proofs.YtmiebnpmckjidaaGreatDoorW.PrintMore
attribute [local go_sem] max2_int min2_int max_two min_two max_three min_three max_four min_four   -- for this text's walks alone
set_option linter.unusedVariables false
set_option linter.unusedSimpArgs false

def errW : Option Int → Value
  | none => .nilIface
  | some c => .iface 0 (.int .i64 c)
theorem errW_none : errW none = .nilIface := rfl
theorem errW_some (c : Int) : errW (some c) = .iface 0 (.int .i64 c) := rfl

end Go.Proofs.YtmiebnpmckjidaaGreatDoor.PFnExactReadInsText
