/-
What the arguments of the law FnExactCartRead are, as data: no program text of the law itself.
-/
import Derived.Test.YtnchhhafdkpmaaaPFnExactCartReadx0
import Derived.Test.YtnchhhafdkpmaaaAidR
namespace Go.Proofs.Ytnchhhafdkpmaaa.Kin
open Go.RowKit Go.Proofs.Ytnchhhafdkpmaaa.Aid Go.Proofs.Ytnchhhafdkpmaaa.PFnExactCartRead Go.Proofs.YtnchhhafdkpmaaaW.PrintWords Go.Proofs.YtnchhhafdkpmaaaW.PrintLast Go.Proofs.YtnchhhafdkpmaaaW.PrintMore
set_option linter.unusedVariables false
end Go.Proofs.Ytnchhhafdkpmaaa.Kin
