/-
Blanks taken out of a text in two ways that come to the same, with no program in sight.
-/
import Derived.Test.YtmiebnpmckjidaaGreatDoorAidJ
import Derived.Lib.TrimByte
namespace Go.Proofs.YtmiebnpmckjidaaGreatDoor.Aid
set_option linter.unusedSimpArgs false
set_option linter.unusedVariables false
end Go.Proofs.YtmiebnpmckjidaaGreatDoor.Aid
