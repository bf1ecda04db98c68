/-
Plain lemmas on whole numbers and bits,with no program in sight.
-/
import Derived.Test.YtlacpadpdfccmaaGreatDoorWMore
import Derived.Test.YtlacpadpdfccmaaGreatDoorWWords
import Derived.Laws.BitsLemmas
namespace Go.Proofs.YtlacpadpdfccmaaGreatDoor.Aid
open Go.RowKit Go.Proofs.YtlacpadpdfccmaaGreatDoorW.PrintWords Go.Proofs.YtlacpadpdfccmaaGreatDoorW.PrintLast Go.Proofs.YtlacpadpdfccmaaGreatDoorW.PrintMore
set_option linter.unusedVariables false
theorem w64{n:Int}(h0:-9223372036854775808<=n)(h1:n<=9223372036854775807):wrap64 n=n:=by
  unfold wrap64
  omega
theorem of_byte{P:Int->Prop}(h:∀ n:Fin 256,P ((n.val:Nat):Int)){x:Int}(h0:0<=x)(h1:x<=255):P x:=by
  have:=h ⟨x.toNat,by omega⟩
  rwa [show((x.toNat:Nat):Int)=x from by omega]at this
def inR(a lo hi:Int):Bool:=decide (lo<=a)&&decide (a<=hi)
theorem inR_iff{a lo hi:Int}:inR a lo hi=true↔lo<=a/\a<=hi:=by simp[inR]
theorem inR_pos{a lo hi:Int}(h0:lo<=a)(h1:a<=hi):inR a lo hi=true:=inR_iff.2 ⟨h0,h1⟩
theorem inR_neg{a lo hi:Int}(h:¬ (lo<=a/\a<=hi)):inR a lo hi=false:=by
  rw[Bool.eq_false_iff]
  exact fun k=>h (inR_iff.1 k)
theorem bt_nonneg(s:ByteArray)(i:Int):0<=bt s i:=by
  unfold bt
  split
  · exact Int.natCast_nonneg _
  · exact Int.le_refl _
theorem bt_le(s:ByteArray)(i:Int):bt s i<=255:=by
  unfold bt
  split
  · rename_i h
    have:=(s[i.toNat]'h).toNat_lt
    omega
  · omega
def allB(p:Int->Bool)(s:ByteArray):Nat->Nat->Bool
  |0,_=>true
  |n+1,i=>p (bt s (i:Int))&&allB p s n (i+1)
end Go.Proofs.YtlacpadpdfccmaaGreatDoor.Aid
