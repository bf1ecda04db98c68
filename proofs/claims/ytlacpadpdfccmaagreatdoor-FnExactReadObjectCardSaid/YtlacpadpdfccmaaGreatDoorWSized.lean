/-
Words of walks, out of the kit's print: those that this claim uses, with fewer blanks.
-/
import Derived.SizedLaws
import Derived.ChangeSlices
namespace Go.Proofs.YtlacpadpdfccmaaGreatDoorW.PrintWords
open Go.ChangeShapes Go.WideShapes
end Go.Proofs.YtlacpadpdfccmaaGreatDoorW.PrintWords
