/-
Texts cut at a byte, put together again, and pairs of bytes replaced in them, with no program in sight.
-/
import Derived.Test.YtbbngeooodcbcaaAidA
import Derived.Lib.SplitLaws
import Derived.Lib.Join
import Derived.Lib.Replace
namespace Go.Proofs.Ytbbngeooodcbcaa.Aid
set_option linter.unusedSimpArgs false
set_option linter.unusedVariables false
end Go.Proofs.Ytbbngeooodcbcaa.Aid
