/-
An argument that can be read as data is a value of its kind: numbers, bools, strings, slices; with no program in sight.
-/
import Derived.Test.YtmiebnpmckjidaaGreatDoorAidA
import Derived.Deep.Slices
import Derived.ChangeArms
import Derived.ChangeShapes
namespace Go.Proofs.YtmiebnpmckjidaaGreatDoor.Aid
open Go.RowKit Go.ChangeShapes Go.WideShapes Go.Proofs.YtmiebnpmckjidaaGreatDoorW.PrintWords Go.Proofs.YtmiebnpmckjidaaGreatDoorW.PrintLast Go.Proofs.YtmiebnpmckjidaaGreatDoorW.PrintMore
set_option linter.unusedVariables false

end Go.Proofs.YtmiebnpmckjidaaGreatDoor.Aid
