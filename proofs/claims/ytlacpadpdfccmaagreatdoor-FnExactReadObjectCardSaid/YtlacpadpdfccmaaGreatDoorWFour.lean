/-
Words of walks, out of the kit's print: those that this claim uses, with fewer blanks.
-/
import Derived.Test.YtlacpadpdfccmaaGreatDoorWTab
namespace Go.Proofs.YtlacpadpdfccmaaGreatDoorW.PrintLast
section
variable {P:Program} {ops:Array Oper} {Q:Exit->Act->World->Prop} {md:Region.Mode} {S:World->Prop} {ds:List Nat} {T:Bool×List (List Nat×List Nat)}
end
end Go.Proofs.YtlacpadpdfccmaaGreatDoorW.PrintLast
