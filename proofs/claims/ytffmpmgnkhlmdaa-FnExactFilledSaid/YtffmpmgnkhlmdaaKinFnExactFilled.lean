/-
What the arguments of the law FnExactFilled are, as data: no program text of the law itself.
-/
import Derived.Test.YtffmpmgnkhlmdaaPFnExactFilledx0
import Derived.Test.YtffmpmgnkhlmdaaAidR
namespace Go.Proofs.Ytffmpmgnkhlmdaa.Kin
open Go.RowKit Go.Proofs.Ytffmpmgnkhlmdaa.Aid Go.Proofs.Ytffmpmgnkhlmdaa.PFnExactFilled Go.Proofs.YtffmpmgnkhlmdaaW.PrintWords Go.Proofs.YtffmpmgnkhlmdaaW.PrintLast Go.Proofs.YtffmpmgnkhlmdaaW.PrintMore
set_option linter.unusedVariables false
end Go.Proofs.Ytffmpmgnkhlmdaa.Kin
