/-
Texts in lines of words: how long they are,and bytes as two digits each,with no program in sight.
-/
import Derived.Test.YtlacpadpdfccmaaGreatDoorAidH
import Derived.Test.YtlacpadpdfccmaaGreatDoorAidL
import Derived.Test.YtlacpadpdfccmaaGreatDoorAidC
import Derived.Test.YtlacpadpdfccmaaGreatDoorAidN
import Derived.Lib.ItoaNum
import Derived.Lib.ItoaLen
import Derived.Lib.Join
namespace Go.Proofs.YtlacpadpdfccmaaGreatDoor.Aid
open Go.RowKit Go.Proofs.YtlacpadpdfccmaaGreatDoorW.PrintWords
set_option linter.unusedSimpArgs false
set_option linter.unusedVariables false
def hexL(l:List UInt8):List UInt8:=(l.map fun c=>hexFix 2 c.toNat).flatten
theorem hexL_len:∀ l:List UInt8,(hexL l).length=2*l.length
  |[]=>rfl
  | c::r=>by
    have ih:=hexL_len r
    unfold hexL at ih ⊢
    rw[List.map_cons,List.flatten_cons,List.length_append,hexFix_len,ih,List.length_cons]
    omega
def lineL(ws:List (List UInt8)):List UInt8:=Go.Lib.join ws [32]++[10]
theorem hex_tail(d n:Nat)(hz:n / 16 ^ d=0):(hexText d n).size=d+1/\(hexText d n).extract 1 (hexText d n).size=⟨(hexFix d n).toArray⟩:=by
  have e:hexText d n=⟨(36::hexFix d n).toArray⟩:=by unfold hexText;rw[if_pos hz]
  have hs:(hexText d n).size=d+1:=by
    rw[e]
    show(36::hexFix d n).length=_
    rw[List.length_cons,hexFix_len]
  refine⟨hs,ByteArray.ext (Array.toList_inj.1 ?_)⟩
  rw[ByteArray.data_extract,Array.toList_extract,List.extract,hs,e]
  simp
  exact List.take_of_length_le (by rw[hexFix_len];exact Nat.le_refl _)
theorem itoa_len(n:Int)(h0:-9223372036854775808<=n)(h1:n<=9223372036854775807):(Go.Lib.itoa n).length<=21:=Go.Lib.itoa_length_le n h0 h1
theorem flat_len{α:Type}(f:α->List UInt8)(m:Nat):∀ l:List α,(∀ x ∈ l,(f x).length<=m)->((l.map f).flatten).length<=m*l.length
  |[],_=>by simp
  | x::r,h=>by
    have ih:=flat_len f m r (fun y hy=>h y (List.mem_cons_of_mem _ hy))
    have hx:=h x List.mem_cons_self
    rw[List.map_cons,List.flatten_cons,List.length_append,List.length_cons,Nat.mul_succ]
    omega
end Go.Proofs.YtlacpadpdfccmaaGreatDoor.Aid
