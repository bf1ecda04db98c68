/-
What the arguments of the law FnExactBusWrite are, as data: no program text of the law itself.
-/
import Derived.Test.YtmgbdbamfljjnaaPFnExactBusWritex0
import Derived.Test.YtmgbdbamfljjnaaAidR
namespace Go.Proofs.Ytmgbdbamfljjnaa.Kin
open Go.RowKit Go.Proofs.Ytmgbdbamfljjnaa.Aid Go.Proofs.Ytmgbdbamfljjnaa.PFnExactBusWrite Go.Proofs.YtmgbdbamfljjnaaW.PrintWords Go.Proofs.YtmgbdbamfljjnaaW.PrintLast Go.Proofs.YtmgbdbamfljjnaaW.PrintMore
set_option linter.unusedVariables false
end Go.Proofs.Ytmgbdbamfljjnaa.Kin
