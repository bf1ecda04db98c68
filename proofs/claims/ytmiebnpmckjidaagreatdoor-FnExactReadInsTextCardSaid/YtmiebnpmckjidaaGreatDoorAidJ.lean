/-
Texts cut at a byte, put together again, and pairs of bytes replaced in them, with no program in sight.
-/
import Derived.Test.YtmiebnpmckjidaaGreatDoorAidA
import Derived.Lib.SplitLaws
import Derived.Lib.Join
import Derived.Lib.Replace
namespace Go.Proofs.YtmiebnpmckjidaaGreatDoor.Aid
set_option linter.unusedSimpArgs false
set_option linter.unusedVariables false
end Go.Proofs.YtmiebnpmckjidaaGreatDoor.Aid
