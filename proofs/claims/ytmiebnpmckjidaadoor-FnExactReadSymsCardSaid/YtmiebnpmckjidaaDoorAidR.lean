/-
An argument that can be read as data is a value of its kind: numbers, bools, strings, slices; with no program in sight.
-/
import Derived.Test.YtmiebnpmckjidaaDoorAidA
import Derived.Deep.Slices
import Derived.ChangeArms
import Derived.ChangeShapes
namespace Go.Proofs.YtmiebnpmckjidaaDoor.Aid
open Go.RowKit Go.ChangeShapes Go.WideShapes Go.Proofs.YtmiebnpmckjidaaDoorW.PrintWords Go.Proofs.YtmiebnpmckjidaaDoorW.PrintLast Go.Proofs.YtmiebnpmckjidaaDoorW.PrintMore
set_option linter.unusedVariables false

end Go.Proofs.YtmiebnpmckjidaaDoor.Aid
