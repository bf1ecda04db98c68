/-
What the arguments of the law FnExactCartWrite are, as data: no program text of the law itself.
-/
import Derived.Test.YtnchhhafdkpmaaaPFnExactCartWritex0
import Derived.Test.YtnchhhafdkpmaaaAidR
namespace Go.Proofs.Ytnchhhafdkpmaaa.Kin
open Go.RowKit Go.Proofs.Ytnchhhafdkpmaaa.Aid Go.Proofs.Ytnchhhafdkpmaaa.PFnExactCartWrite Go.Proofs.YtnchhhafdkpmaaaW.PrintWords Go.Proofs.YtnchhhafdkpmaaaW.PrintLast Go.Proofs.YtnchhhafdkpmaaaW.PrintMore
set_option linter.unusedVariables false
end Go.Proofs.Ytnchhhafdkpmaaa.Kin
