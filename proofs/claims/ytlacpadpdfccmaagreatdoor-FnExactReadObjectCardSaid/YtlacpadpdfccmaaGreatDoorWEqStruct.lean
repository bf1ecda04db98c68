/-
Words of walks, out of the kit's print: those that this claim uses, with fewer blanks.
-/
import Derived.Test.YtlacpadpdfccmaaGreatDoorWWords
import Derived.Laws.StructEq
namespace Go.Proofs.YtlacpadpdfccmaaGreatDoorW.PrintWords
open Go.RowKit
section
variable {P:Program} {d:Nat} {xs ys:Array Value} {f:Field} {fs:List Field} {a b:Value} {r s:Bool} {w:World}
end
end Go.Proofs.YtlacpadpdfccmaaGreatDoorW.PrintWords
