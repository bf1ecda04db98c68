/-
Blanks taken out of a text in two ways that come to the same, with no program in sight.
-/
import Derived.Test.YtlacpadpdfccmaaGreatDoorAidJ
import Derived.Lib.TrimByte
namespace Go.Proofs.YtlacpadpdfccmaaGreatDoor.Aid
set_option linter.unusedSimpArgs false
set_option linter.unusedVariables false
end Go.Proofs.YtlacpadpdfccmaaGreatDoor.Aid
