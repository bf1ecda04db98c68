/-
An argument that can be read as data is a value of its kind: numbers,bools,strings,slices;with no program in sight.
-/
import Derived.Test.YtlacpadpdfccmaaGreatDoorAidA
import Derived.Deep.Slices
import Derived.ChangeArms
import Derived.ChangeShapes
namespace Go.Proofs.YtlacpadpdfccmaaGreatDoor.Aid
open Go.RowKit Go.ChangeShapes Go.WideShapes Go.Proofs.YtlacpadpdfccmaaGreatDoorW.PrintWords Go.Proofs.YtlacpadpdfccmaaGreatDoorW.PrintLast Go.Proofs.YtlacpadpdfccmaaGreatDoorW.PrintMore
set_option linter.unusedVariables false
end Go.Proofs.YtlacpadpdfccmaaGreatDoor.Aid
