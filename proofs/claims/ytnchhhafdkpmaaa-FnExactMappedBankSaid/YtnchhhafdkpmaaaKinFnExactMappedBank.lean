/-
What the arguments of the law FnExactMappedBank are, as data: no program text of the law itself.
-/
import Derived.Test.YtnchhhafdkpmaaaPFnExactMappedBankx0
import Derived.Test.YtnchhhafdkpmaaaAidR
namespace Go.Proofs.Ytnchhhafdkpmaaa.Kin
open Go.RowKit Go.Proofs.Ytnchhhafdkpmaaa.Aid Go.Proofs.Ytnchhhafdkpmaaa.PFnExactMappedBank Go.Proofs.YtnchhhafdkpmaaaW.PrintWords Go.Proofs.YtnchhhafdkpmaaaW.PrintLast Go.Proofs.YtnchhhafdkpmaaaW.PrintMore
set_option linter.unusedVariables false
end Go.Proofs.Ytnchhhafdkpmaaa.Kin
