/-
Rows of strings of the call's own,written whole: what sorting and striking doubles leave;with no program in sight.
-/
import Derived.Test.YtlacpadpdfccmaaGreatDoorAidA
import Derived.Test.YtlacpadpdfccmaaGreatDoorWKept
import Derived.Sort.Row
import Derived.Sort.Grow
import Derived.Sort.EncStr
import Derived.Lib.SlicesCompact
namespace Go.Proofs.YtlacpadpdfccmaaGreatDoor.Aid
open Go.Proofs Go.RowKit Go.Proofs.YtlacpadpdfccmaaGreatDoorW.PrintWords Go.Proofs.YtlacpadpdfccmaaGreatDoorW.PrintLast Go.Proofs.YtlacpadpdfccmaaGreatDoorW.PrintMore
open Go.Sort (Holds putRow grow putCells mapBlock)
set_option linter.unusedVariables false
theorem R_of_cells{e base g cap:Nat}{W:World}{ok:Nat->Prop}{cur:Array Value}(xs:List ByteArray)(hb:base<=g)(hok:ok g)(hh:W.heap[g]?=some (.cells cur e (0,0)))(hn:xs.length<=cap)(hm:cap<=maxLen)(hs:cur.size=cap)(ht:cur.toList.take xs.length=xs.map Value.string) :
    Kd.R Kd.string e W base ok (.slice (some ⟨g,0,none⟩) xs.length cap) xs:=by
  refine⟨fun k hk=>?_,xs.map Value.string,⟨?_,.inr ⟨g,cap,cur,rfl,hb,hh,hn,hm,?_,?_⟩⟩,?_,?_⟩
  · have:g=k:=by simpa[Value.ownBlock]using hk
    exact this ▸ hok
  · show(xs.map Value.string).length=xs.length*1
    simp
  · show cur.size=cap*1
    omega
  · show cur.toList.take (xs.length*1)=_
    rw[Nat.mul_one,ht]
  · show(xs.map Value.string).length=xs.length*1
    simp
  · intro j p hp
    show((xs.map Value.string).drop (j*1)).take 1=[Value.string p]
    have hj:j<xs.length:=(List.getElem?_eq_some_iff.1 hp).1
    have hpj:xs[j]=p:=by
      rw[List.getElem?_eq_getElem hj]at hp
      exact Option.some.inj hp
    rw[Nat.mul_one,List.drop_eq_getElem_cons (by simpa using hj)]
    simp[hpj]
end Go.Proofs.YtlacpadpdfccmaaGreatDoor.Aid
