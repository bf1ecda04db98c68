/-
The law FnExactConstants of the given program returns true for every input; no condition.
-/
import Derived.Test.YtnijfhdmjbioaaaPFnExactConstantsx1
import Derived.Test.YtnijfhdmjbioaaaAidA
import Derived.Test.YtnijfhdmjbioaaaAidB
import Derived.Test.YtnijfhdmjbioaaaAidR
namespace Go.Proofs.Ytnijfhdmjbioaaa.Pure
open Go.RowKit Go.Proofs.Ytnijfhdmjbioaaa.Aid Go.Proofs.Ytnijfhdmjbioaaa.PFnExactConstants Go.Proofs.YtnijfhdmjbioaaaW.PrintWords Go.Proofs.YtnijfhdmjbioaaaW.PrintLast Go.Proofs.YtnijfhdmjbioaaaW.PrintMore
set_option linter.unusedVariables false
set_option linter.unusedSimpArgs false

theorem FnExactConstants : laws_FnExactConstants.Pure := rfl

end Go.Proofs.Ytnijfhdmjbioaaa.Pure
