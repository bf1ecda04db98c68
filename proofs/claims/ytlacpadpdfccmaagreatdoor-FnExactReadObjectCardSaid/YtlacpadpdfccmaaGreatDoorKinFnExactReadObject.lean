/-
What the arguments of the law FnExactReadObject are,as data: no program text of the law itself.
-/
import Derived.Test.YtlacpadpdfccmaaGreatDoorPFnExactReadObjectx0
import Derived.Test.YtlacpadpdfccmaaGreatDoorAidR
namespace Go.Proofs.YtlacpadpdfccmaaGreatDoor.Kin
open Go.RowKit Go.Proofs.YtlacpadpdfccmaaGreatDoor.Aid Go.Proofs.YtlacpadpdfccmaaGreatDoor.PFnExactReadObject Go.Proofs.YtlacpadpdfccmaaGreatDoorW.PrintWords Go.Proofs.YtlacpadpdfccmaaGreatDoorW.PrintLast Go.Proofs.YtlacpadpdfccmaaGreatDoorW.PrintMore
set_option linter.unusedVariables false
end Go.Proofs.YtlacpadpdfccmaaGreatDoor.Kin
