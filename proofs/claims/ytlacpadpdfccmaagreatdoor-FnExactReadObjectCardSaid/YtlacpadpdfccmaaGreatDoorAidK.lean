/-
Blanks taken out of a text in two ways that come to the same,with no program in sight.
-/
import Derived.Test.YtlacpadpdfccmaaGreatDoorAidJ
import Derived.Lib.TrimByte
namespace Go.Proofs.YtlacpadpdfccmaaGreatDoor.Aid
set_option linter.unusedSimpArgs false
set_option linter.unusedVariables false
def jn:Bool->Bool->List UInt8->List UInt8
  |_,_,[]=>[]
  |q,b,x::r=>if x=32 then jn q true r else(if q&&b then [32]else [])++x::jn true false r
end Go.Proofs.YtlacpadpdfccmaaGreatDoor.Aid
