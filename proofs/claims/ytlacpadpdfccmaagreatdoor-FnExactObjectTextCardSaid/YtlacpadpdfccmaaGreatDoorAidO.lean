/-
Names byte by byte, texts as lists, hexadecimal digits read again, with no program in sight.
-/
import Derived.Test.YtlacpadpdfccmaaGreatDoorAidH
import Derived.Test.YtlacpadpdfccmaaGreatDoorAidL
import Derived.Test.YtlacpadpdfccmaaGreatDoorAidC
namespace Go.Proofs.YtlacpadpdfccmaaGreatDoor.Aid
open Go.RowKit Go.Proofs.YtlacpadpdfccmaaGreatDoorW.PrintWords
set_option linter.unusedSimpArgs false
set_option linter.unusedVariables false
end Go.Proofs.YtlacpadpdfccmaaGreatDoor.Aid
