/-
Blanks taken out of a text in two ways that come to the same, with no program in sight.
-/
import Derived.Test.YtffmpmgnkhlmdaaAidJ
import Derived.Lib.TrimByte
namespace Go.Proofs.Ytffmpmgnkhlmdaa.Aid
set_option linter.unusedSimpArgs false
set_option linter.unusedVariables false
end Go.Proofs.Ytffmpmgnkhlmdaa.Aid
