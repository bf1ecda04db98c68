/-
What the arguments of the law FnExactReadLine are, as data: no program text of the law itself.
-/
import Derived.Test.YtffmpmgnkhlmdaaDoorPFnExactReadLinex0
import Derived.Test.YtffmpmgnkhlmdaaDoorAidR
namespace Go.Proofs.YtffmpmgnkhlmdaaDoor.Kin
open Go.RowKit Go.Proofs.YtffmpmgnkhlmdaaDoor.Aid Go.Proofs.YtffmpmgnkhlmdaaDoor.PFnExactReadLine Go.Proofs.YtffmpmgnkhlmdaaDoorW.PrintWords Go.Proofs.YtffmpmgnkhlmdaaDoorW.PrintLast Go.Proofs.YtffmpmgnkhlmdaaDoorW.PrintMore Go.Proofs.YtffmpmgnkhlmdaaDoor.PFnExactLineOk
set_option linter.unusedVariables false
end Go.Proofs.YtffmpmgnkhlmdaaDoor.Kin
