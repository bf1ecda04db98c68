/-
Lists by index,and right expressions,in plain Lean,with no program in sight.
-/
import Derived.Test.YtlacpadpdfccmaaGreatDoorAidB
import Derived.Lib.Bytealg
import Derived.Lib.Strings
namespace Go.Proofs.YtlacpadpdfccmaaGreatDoor.Aid
open Go.RowKit Go.Proofs.YtlacpadpdfccmaaGreatDoorW.PrintWords Go.Proofs.YtlacpadpdfccmaaGreatDoorW.PrintLast Go.Proofs.YtlacpadpdfccmaaGreatDoorW.PrintMore
set_option linter.unusedVariables false
theorem drop_at{α:Type}(z:α)(l:List α)(i:Nat)(h:i<l.length):l.drop i=l.getD i z::l.drop (i+1):=by
  rw[List.drop_eq_getElem_cons h,List.getD_eq_getElem?_getD,List.getElem?_eq_getElem h]
  rfl
theorem getD_mem{α:Type}(z:α)(l:List α)(i:Nat)(h:i<l.length):l.getD i z ∈ l:=by
  rw[List.getD_eq_getElem?_getD,List.getElem?_eq_getElem h]
  exact List.getElem_mem h
theorem up1{i n:Nat}(h:i<n)(hn:n<=4611686018427387904):wrap64 ((i:Int)+1)=((i+1:Nat):Int):=by
  rw[w64 (by omega) (by omega)]
  omega
theorem toList_inj{a b:ByteArray}(h:a.toList=b.toList):a=b:=by
  rw[ByteArray.toList_eq,ByteArray.toList_eq]at h
  cases a
  cases b
  simp at h
  rw[h]
abbrev Nd:=Int×Int×ByteArray
def takes(kind:Int):Int:=if inR kind 1 3=true then 0 else if inR kind 4 7=true then 1 else if inR kind 8 17=true then 2 else -1
def nodeOk(x:Nd):Bool:=
  if x.1=1 then inR x.2.1 0 65535&&(x.2.2.toList==([]:List UInt8))
  else if x.1=2\/x.1=3 then x.2.1==0&&nameOk x.2.2
  else inR x.1 4 17&&(x.2.1==0&&(x.2.2.toList==([]:List UInt8)))
theorem nodeOk_kind{x:Nd}(h:nodeOk x=true):1<=x.1/\x.1<=17:=by
  unfold nodeOk at h
  by_cases h1:x.1=1
  · omega
  · by_cases h2:x.1=2\/x.1=3
    · omega
    · rw[if_neg h1,if_neg h2]at h
      simp[inR]at h
      omega
def exprGo:List Nd->Int->Bool
  |[],d=>d==1
  |x::r,d=>nodeOk x&&(decide (takes x.1<=d)&&exprGo r (d - takes x.1+1))
def exprOk(l:List Nd):Bool:=decide ((l.length:Int)<=30)&&exprGo l 0
theorem takes_in(k:Int):-1<=takes k/\takes k<=2:=by
  unfold takes
  split
  · omega
  · split
    · omega
    · split <;> omega
def dig(c:Int):Int:=if inR c 48 57=true then c - 48 else if inR c 65 70=true then c - 55 else 99
theorem dig_nonneg{c:Int}:0<=dig c/\dig c<=99:=by
  unfold dig
  by_cases h1:48<=c/\c<=57
  · rw[inR_pos h1.1 h1.2]
    simp only[if_true]
    omega
  · rw[inR_neg h1]
    by_cases h2:65<=c/\c<=70
    · rw[inR_pos h2.1 h2.2]
      simp only[if_true,Bool.false_eq_true,if_false]
      omega
    · rw[inR_neg h2]
      simp
def baseGo(base:Int)(s:ByteArray):Nat->Nat->Int->Option Int
  |0,_,acc=>some acc
  |n+1,i,acc=>if dig (bt s (i:Int))>=base then none else if acc*base+dig (bt s (i:Int)) > 65535 then none else baseGo base s n (i+1) (acc*base+dig (bt s (i:Int)))
def baseOf(base:Int)(s:ByteArray):Option Int:=if s.size=0 then none else baseGo base s s.size 0 0
def numOf(s:ByteArray):Option Int:=
  if(s.size:Int) > 18 then none else if s.size=0 then none
  else if bt s 0=36 then baseOf 16 (s.extract 1 s.size)else if bt s 0=37 then baseOf 2 (s.extract 1 s.size)else baseOf 10 s
def told(o:Option Int):Int×Bool:=(o.getD 0,o.isSome)
theorem size_zero{s:ByteArray}:s.toList=[]↔s.size=0:=by
  rw[ByteArray.toList_eq]
  constructor
  · intro h
    have:=congrArg List.length h
    simpa using this
  · intro h
    apply List.eq_nil_of_length_eq_zero
    simpa using h
theorem idx16{c:Int}(h0:0<=c)(h1:c<=255):Go.Lib.indexByte [48,49,50,51,52,53,54,55,56,57,65,66,67,68,69,70] c.toNat.toUInt8=if dig c<16 then dig c else -1:=
  of_byte (P:=fun c=>Go.Lib.indexByte [48,49,50,51,52,53,54,55,56,57,65,66,67,68,69,70] c.toNat.toUInt8=if dig c<16 then dig c else -1) (by decide +kernel) h0 h1
end Go.Proofs.YtlacpadpdfccmaaGreatDoor.Aid
