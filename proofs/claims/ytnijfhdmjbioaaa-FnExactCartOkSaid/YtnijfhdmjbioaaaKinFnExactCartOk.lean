/-
What the arguments of the law FnExactCartOk are, as data: no program text of the law itself.
-/
import Derived.Test.YtnijfhdmjbioaaaPFnExactCartOkx0
import Derived.Test.YtnijfhdmjbioaaaAidR
namespace Go.Proofs.Ytnijfhdmjbioaaa.Kin
open Go.RowKit Go.Proofs.Ytnijfhdmjbioaaa.Aid Go.Proofs.Ytnijfhdmjbioaaa.PFnExactCartOk Go.Proofs.YtnijfhdmjbioaaaW.PrintWords Go.Proofs.YtnijfhdmjbioaaaW.PrintLast Go.Proofs.YtnijfhdmjbioaaaW.PrintMore
set_option linter.unusedVariables false
end Go.Proofs.Ytnijfhdmjbioaaa.Kin
