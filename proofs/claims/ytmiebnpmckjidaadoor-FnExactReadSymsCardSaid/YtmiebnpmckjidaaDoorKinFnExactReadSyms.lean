/-
What the arguments of the law FnExactReadSyms are, as data: no program text of the law itself.
-/
import Derived.Test.YtmiebnpmckjidaaDoorPFnExactReadSymsx0
import Derived.Test.YtmiebnpmckjidaaDoorAidR
namespace Go.Proofs.YtmiebnpmckjidaaDoor.Kin
open Go.RowKit Go.Proofs.YtmiebnpmckjidaaDoor.Aid Go.Proofs.YtmiebnpmckjidaaDoor.PFnExactReadSyms Go.Proofs.YtmiebnpmckjidaaDoorW.PrintWords Go.Proofs.YtmiebnpmckjidaaDoorW.PrintLast Go.Proofs.YtmiebnpmckjidaaDoorW.PrintMore
set_option linter.unusedVariables false
end Go.Proofs.YtmiebnpmckjidaaDoor.Kin
