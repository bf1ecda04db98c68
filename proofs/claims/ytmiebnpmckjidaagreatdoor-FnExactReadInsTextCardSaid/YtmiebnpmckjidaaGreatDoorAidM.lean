/-
Pieces put together and cut again are the same pieces, with no program in sight.
-/
import Derived.Test.YtmiebnpmckjidaaGreatDoorAidJ
namespace Go.Proofs.YtmiebnpmckjidaaGreatDoor.Aid
set_option linter.unusedSimpArgs false
set_option linter.unusedVariables false
end Go.Proofs.YtmiebnpmckjidaaGreatDoor.Aid
