/-
What the arguments of the law FnExactReadIns are, as data: no program text of the law itself.
-/
import Derived.Test.YtmiebnpmckjidaaDoorPFnExactReadInsx0
import Derived.Test.YtmiebnpmckjidaaDoorAidR
namespace Go.Proofs.YtmiebnpmckjidaaDoor.Kin
open Go.RowKit Go.Proofs.YtmiebnpmckjidaaDoor.Aid Go.Proofs.YtmiebnpmckjidaaDoor.PFnExactReadIns Go.Proofs.YtmiebnpmckjidaaDoorW.PrintWords Go.Proofs.YtmiebnpmckjidaaDoorW.PrintLast Go.Proofs.YtmiebnpmckjidaaDoorW.PrintMore Go.Proofs.YtmiebnpmckjidaaDoor.PFnExactLengthOf Go.Proofs.YtmiebnpmckjidaaDoor.PFnExactTemplateOf
set_option linter.unusedVariables false
end Go.Proofs.YtmiebnpmckjidaaDoor.Kin
