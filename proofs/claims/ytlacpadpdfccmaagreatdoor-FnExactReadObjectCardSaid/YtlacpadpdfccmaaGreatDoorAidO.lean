/-
Names byte by byte,texts as lists,hexadecimal digits read again,with no program in sight.
-/
import Derived.Test.YtlacpadpdfccmaaGreatDoorAidH
import Derived.Test.YtlacpadpdfccmaaGreatDoorAidL
import Derived.Test.YtlacpadpdfccmaaGreatDoorAidC
namespace Go.Proofs.YtlacpadpdfccmaaGreatDoor.Aid
open Go.RowKit Go.Proofs.YtlacpadpdfccmaaGreatDoorW.PrintWords
set_option linter.unusedSimpArgs false
set_option linter.unusedVariables false
theorem allB_mem(p:Int->Bool)(s:ByteArray):∀ n i,i+n=s.size->allB p s n i=true->∀ c ∈ s.data.toList.drop i,p (c.toNat:Int)=true
  | 0,i,hi,_,c,hc=>by
    rw[drop_end s i (by omega)]at hc
    cases hc
  | n+1,i,hi,h,c,hc=>by
    obtain⟨x,h1,h2⟩:=bt_drop s i (by omega)
    rw[allB,Bool.and_eq_true,h2]at h
    rw[h1]at hc
    rcases List.mem_cons.1 hc with rfl|hc
    · exact h.1
    · exact allB_mem p s n (i+1) (by omega) h.2 c hc
theorem name_bytes{s:ByteArray}(h:nameOk s=true):(∀ c ∈ s.data.toList,isNam (c.toNat:Int)=true)/\∃ x r,s.data.toList=x::r/\bt s 0=(x.toNat:Int)/\isLet (x.toNat:Int)=true:=by
  unfold nameOk at h
  rw[Bool.and_eq_true,Bool.and_eq_true,inR_iff]at h
  obtain⟨h0,h1,h2⟩:=h
  have hm:=allB_mem isNam s s.size 0 (by omega) h2
  rw[List.drop_zero]at hm
  refine⟨hm,?_⟩
  obtain⟨x,hx,bx⟩:=bt_drop s 0 (by omega)
  rw[List.drop_zero]at hx
  have bx':bt s 0=(x.toNat:Int):=bx
  refine⟨x,_,hx,bx',?_⟩
  have:=hm x (by rw[hx];exact List.mem_cons_self)
  unfold isNam at this
  rw[bx']at h1
  simp only[Bool.not_eq_true']at h1
  rw[h1,Bool.or_false]at this
  exact this
theorem let_range{c:Int}(h:isLet c=true):(97<=c/\c<=122)\/c=95\/c=46:=by
  unfold isLet at h
  rw[Bool.or_eq_true,Bool.or_eq_true,inR_iff,beq_iff_eq,beq_iff_eq]at h
  exact h
theorem nam_range{c:Int}(h:isNam c=true):(97<=c/\c<=122)\/c=95\/c=46\/(48<=c/\c<=57):=by
  unfold isNam at h
  rw[Bool.or_eq_true,inR_iff]at h
  rcases h with h|h
  · rcases let_range h with h|h|h <;> simp[h]
  · exact .inr (.inr (.inr h))
theorem list_eq_iff(w:ByteArray)(l:List UInt8):((⟨l.toArray⟩:ByteArray).toList=w.toList)↔l=w.data.toList:=by
  constructor
  · intro h
    have:=toList_inj h
    rw[<-this]
  · intro h
    rw[h]
def ofL(l:List UInt8):ByteArray:=⟨l.toArray⟩
theorem dig_hexU{x:Nat}(h:x<16):dig ((hexU x).toNat:Int)=(x:Int):=by
  have:x=0\/x=1\/x=2\/x=3\/x=4\/x=5\/x=6\/x=7\/x=8\/x=9\/x=10\/x=11\/x=12\/x=13\/x=14\/x=15:=by omega
  rcases this with e|e|e|e|e|e|e|e|e|e|e|e|e|e|e|e <;> subst e <;> decide
def foldh(acc:Nat)(l:List UInt8):Nat:=l.foldl (fun a c=>a*16+(dig (c.toNat:Int)).toNat) acc
theorem hexFix_fold:∀(m a acc:Nat),foldh acc (hexFix m a)=acc*16 ^ m+a%16 ^ m
  |0,a,acc=>by simp[foldh,hexFix,Nat.mod_one]
  | m + 1,a,acc=>by
    have ih:=hexFix_fold m (a / 16) acc
    unfold foldh at ih ⊢
    rw[hexFix,List.foldl_append,ih]
    show(acc*16 ^ m+a / 16%16 ^ m)*16+(dig ((hexU (a%16)).toNat:Int)).toNat=_
    rw[dig_hexU (by omega),Int.toNat_natCast]
    have e1:a%16 ^ (m+1)=(a / 16%16 ^ m)*16+a%16:=by
      rw[Nat.pow_succ,Nat.mul_comm (16 ^ m) 16,Nat.mod_mul]
      omega
    rw[e1,Nat.pow_succ,Nat.add_mul,Nat.mul_assoc]
    omega
theorem hexFix_dig:∀(m a:Nat),∀ c ∈ hexFix m a,∃ x,x<16/\c=hexU x
  |0,a,c,h=>by cases h
  | m+1,a,c,h=>by
    rw[hexFix]at h
    rcases List.mem_append.1 h with h|h
    · exact hexFix_dig m (a / 16) c h
    · exact⟨a%16,by omega,List.mem_singleton.1 h⟩
theorem baseGo_hex (s:ByteArray):∀(n i acc:Nat),i+n=s.size->(∀ c ∈ s.data.toList.drop i,∃ x,x<16/\c=hexU x)->foldh acc (s.data.toList.drop i)<=65535->baseGo 16 s n i (acc:Int)=some ((foldh acc (s.data.toList.drop i):Nat):Int)
  | 0,i,acc,hi,_,_=>by
    rw[drop_end s i (by omega)]
    rfl
  | n + 1,i,acc,hi,hd,hv=>by
    obtain⟨x,hx,bx⟩:=bt_drop s i (by omega)
    rw[hx]at hd hv
    obtain⟨v,hv16,hxv⟩:=hd x List.mem_cons_self
    have hdv:dig (x.toNat:Int)=(v:Int):=by rw[hxv];exact dig_hexU hv16
    have hv':foldh (acc*16+v) (s.data.toList.drop (i+1))<=65535:=by
      have:foldh acc (x::s.data.toList.drop (i+1))=foldh (acc*16+(dig (x.toNat:Int)).toNat) (s.data.toList.drop (i+1)):=rfl
      rw[this,hdv,Int.toNat_natCast]at hv
      exact hv
    have hg:acc*16+v<=foldh (acc*16+v) (s.data.toList.drop (i+1)):=by
      have:∀(l:List UInt8) (a:Nat),a<=foldh a l:=by
        intro l
        induction l with
        |nil=>intro a;exact Nat.le_refl _
        | cons c r ih=>
          intro a
          have:=ih (a*16+(dig (c.toNat:Int)).toNat)
          show a<=foldh (a*16+(dig (c.toNat:Int)).toNat) r
          omega
      exact this _ _
    rw[baseGo,bx,hdv,if_neg (by omega),if_neg (by omega)]
    have e:(acc:Int)*16+(v:Int)=((acc*16+v:Nat):Int):=by omega
    rw[e,baseGo_hex s n (i+1) _ (by omega) (fun c hc=>hd c (List.mem_cons_of_mem _ hc)) hv',hx]
    show some ((foldh (acc*16+v) _:Nat):Int)=some ((foldh acc (x::_):Nat):Int)
    have:foldh acc (x::s.data.toList.drop (i+1))=foldh (acc*16+(dig (x.toNat:Int)).toNat) (s.data.toList.drop (i+1)):=rfl
    rw[this,hdv,Int.toNat_natCast]
theorem baseOf_hex(m n:Nat)(hm:1<=m)(hn:n<16 ^ m)(hn2:n<=65535)(s:ByteArray)(hs:s.data.toList=hexFix m n):baseOf 16 s=some (n:Int):=by
  have hl:=len_list s
  rw[hs,hexFix_len]at hl
  have hf:foldh 0 (hexFix m n)=n:=by
    rw[hexFix_fold,Nat.zero_mul,Nat.zero_add,Nat.mod_eq_of_lt hn]
  unfold baseOf
  rw[if_neg (by omega)]
  have:=baseGo_hex s s.size 0 0 (by omega) (by rw[List.drop_zero,hs];exact hexFix_dig m n) (by rw[List.drop_zero,hs,hf];exact hn2)
  rw[List.drop_zero,hs,hf]at this
  exact this
end Go.Proofs.YtlacpadpdfccmaaGreatDoor.Aid
