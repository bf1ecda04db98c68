/-
Words of walks, out of the kit's print: those that this claim uses, with fewer blanks.
-/
import Derived.Test.YtlacpadpdfccmaaGreatDoorWInv
import Derived.Test.YtlacpadpdfccmaaGreatDoorWFootNe
namespace Go.Proofs.YtlacpadpdfccmaaGreatDoorW.PrintWords
open Go.RowKit
end Go.Proofs.YtlacpadpdfccmaaGreatDoorW.PrintWords
namespace Go.Proofs.YtlacpadpdfccmaaGreatDoorW.PrintLast
section
variable {ops:Array Oper} {a:Act} {o og:Oper} {g:Nat} {t:Tmp} {u:Bool}
end
end Go.Proofs.YtlacpadpdfccmaaGreatDoorW.PrintLast
