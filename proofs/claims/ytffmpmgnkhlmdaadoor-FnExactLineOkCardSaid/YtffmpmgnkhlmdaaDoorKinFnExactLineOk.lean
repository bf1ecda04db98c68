/-
What the arguments of the law FnExactLineOk are, as data: no program text of the law itself.
-/
import Derived.Test.YtffmpmgnkhlmdaaDoorPFnExactLineOkx0
import Derived.Test.YtffmpmgnkhlmdaaDoorAidR
namespace Go.Proofs.YtffmpmgnkhlmdaaDoor.Kin
open Go.RowKit Go.Proofs.YtffmpmgnkhlmdaaDoor.Aid Go.Proofs.YtffmpmgnkhlmdaaDoor.PFnExactLineOk Go.Proofs.YtffmpmgnkhlmdaaDoorW.PrintWords Go.Proofs.YtffmpmgnkhlmdaaDoorW.PrintLast Go.Proofs.YtffmpmgnkhlmdaaDoorW.PrintMore
set_option linter.unusedVariables false
end Go.Proofs.YtffmpmgnkhlmdaaDoor.Kin
