/-
What the functions compute,in plain Lean,with no program in sight.
-/
import Derived.Test.YtlacpadpdfccmaaGreatDoorAidA
namespace Go.Proofs.YtlacpadpdfccmaaGreatDoor.Aid
open Go.RowKit Go.Proofs.YtlacpadpdfccmaaGreatDoorW.PrintWords Go.Proofs.YtlacpadpdfccmaaGreatDoorW.PrintLast Go.Proofs.YtlacpadpdfccmaaGreatDoorW.PrintMore
set_option linter.unusedVariables false
def isLet(c:Int):Bool:=inR c 97 122||(c==95||c==46)
def isNam(c:Int):Bool:=isLet c||inR c 48 57
def nameOk(s:ByteArray):Bool:=inR (s.size:Int) 1 16&&(!inR (bt s 0) 48 57&&allB isNam s s.size 0)
theorem isLet_dig{c:Int}(h:isLet c=true):inR c 48 57=false:=by
  simp[isLet,inR]at *
  omega
end Go.Proofs.YtlacpadpdfccmaaGreatDoor.Aid
