/-
Words of walks, out of the kit's print: those that this claim uses, with fewer blanks.
-/
import Derived.Test.YtlacpadpdfccmaaGreatDoorWN
namespace Go.Proofs.YtlacpadpdfccmaaGreatDoorW.PrintWords
open Go.RowKit
namespace Kd
section
variable {α:Type} {d:Kd α} {W:World} {g n:Nat} {S ok:Nat->Prop} {A:Option Addr} {ad:Addr} {xs:List α}
end
end Kd
end Go.Proofs.YtlacpadpdfccmaaGreatDoorW.PrintWords
