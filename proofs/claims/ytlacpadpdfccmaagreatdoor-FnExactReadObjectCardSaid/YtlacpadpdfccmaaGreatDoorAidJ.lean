/-
Texts cut at a byte,put together again,and pairs of bytes replaced in them,with no program in sight.
-/
import Derived.Test.YtlacpadpdfccmaaGreatDoorAidA
import Derived.Lib.SplitLaws
import Derived.Lib.Join
import Derived.Lib.Replace
namespace Go.Proofs.YtlacpadpdfccmaaGreatDoor.Aid
set_option linter.unusedSimpArgs false
set_option linter.unusedVariables false
def sph(c:UInt8):List UInt8->List UInt8
  |[]=>[]
  |x::r=>if x=c then []else x::sph c r
def spt(c:UInt8):List UInt8->List (List UInt8)
  |[]=>[]
  |x::r=>if x=c then sph c r::spt c r else spt c r
def sp(c:UInt8)(l:List UInt8):List (List UInt8):=sph c l::spt c l
theorem sp_miss{c:UInt8}:∀ {l:List UInt8},c ∉ l->sph c l=l/\spt c l=[]
  |[],_=>⟨rfl,rfl⟩
  | x::r,h=>by
    have hx:x≠c:=fun e=>h (e ▸ List.mem_cons_self)
    have hr:c ∉ r:=fun e=>h (List.mem_cons_of_mem _ e)
    obtain⟨h1,h2⟩:=sp_miss hr
    simp[sph,spt,hx,h1,h2]
theorem sp_hit{c:UInt8}:∀ {a b:List UInt8},c ∉ a->sph c (a++c::b)=a/\spt c (a++c::b)=sph c b::spt c b
  |[],b,_=>by simp[sph,spt]
  | x::r,b,h=>by
    have hx:x≠c:=fun e=>h (e ▸ List.mem_cons_self)
    have hr:c ∉ r:=fun e=>h (List.mem_cons_of_mem _ e)
    obtain⟨h1,h2⟩:=sp_hit (b:=b) hr
    simp[sph,spt,hx,h1,h2]
theorem cut_at (c:UInt8):∀ l:List UInt8,(Go.Lib.index l [c]=-1/\c ∉ l)\/∃ a b,l=a++c::b/\c ∉ a/\Go.Lib.index l [c]=(a.length:Nat)
  |[]=>.inl ⟨rfl,by simp⟩
  | x :: r=>by
    by_cases hx:x=c
    · subst hx
      exact .inr ⟨[],r,rfl,by simp,by rw[Go.Lib.index];simp[List.isPrefixOf]⟩
    · have hp:([c]:List UInt8).isPrefixOf (x::r)=false:=by simp[List.isPrefixOf,Ne.symm hx]
      have hix:Go.Lib.index (x::r) [c]=if Go.Lib.index r [c]==-1 then -1 else Go.Lib.index r [c]+1:=by rw[Go.Lib.index,hp];simp
      rcases cut_at c r with⟨h1,h2⟩|⟨a,b,h1,h2,h3⟩
      · exact .inl ⟨by rw[hix,h1];rfl,by simp[Ne.symm hx,h2]⟩
      · refine .inr ⟨x::a,b,by rw[h1];rfl,by simp[Ne.symm hx,h2],?_⟩
        rw[hix,h3,if_neg (fun e=>by have:=beq_iff_eq.1 e;omega)]
        simp
theorem splitK_sp(c:UInt8):∀(k:Nat) (l:List UInt8),Go.Lib.count l [c]=k->Go.Lib.splitK [c] 0 k l=sp c l
  | 0,l,h=>by
    rcases cut_at c l with⟨h1,h2⟩|⟨a,b,h1,h2,h3⟩
    · obtain⟨e1,e2⟩:=sp_miss h2
      simp[Go.Lib.splitK,sp,e1,e2]
    · have:=Go.Lib.count_hit (sub:=[c]) (by simp) h3
      omega
  | k + 1,l,h=>by
    rcases cut_at c l with⟨h1,h2⟩|⟨a,b,h1,h2,h3⟩
    · rw[Go.Lib.count_miss h1]at h
      cases h
    · have hc:=Go.Lib.count_hit (sub:=[c]) (by simp) h3
      have hd:l.drop (a.length+([c]:List UInt8).length)=b:=by rw[h1];simp
      have ht:l.take (a.length+0)=a:=by rw[h1];simp
      obtain⟨e1,e2⟩:=sp_hit (b:=b) h2
      rw[<-h1]at e1 e2
      rw[hd]at hc
      rw[Go.Lib.splitK,if_neg (fun e=>by have:=beq_iff_eq.1 e;omega),h3,Int.toNat_natCast,hd,ht,splitK_sp c k b (by omega),sp,sp,e1,e2]
theorem split_sp(c:UInt8)(l:List UInt8):Go.Lib.split l [c]=sp c l:=splitK_sp c _ l rfl
theorem map_data(xs:List ByteArray)(ys:List (List UInt8))(h:xs.map (·.data.toList)=ys):xs=ys.map fun l=>(⟨l.toArray⟩:ByteArray):=by
  rw[<-h,List.map_map]
  conv=>lhs;rw[<-List.map_id xs]
  apply List.map_congr_left
  intro x _
  rfl
theorem jtail_cons(s y:List UInt8)(r:List (List UInt8)):Go.Lib.joinTail s (y::r)=s++y++Go.Lib.joinTail s r:=by simp[Go.Lib.joinTail]
theorem join_cons2(x y s:List UInt8)(r:List (List UInt8)):Go.Lib.join (x::y::r) s=x++s++Go.Lib.join (y::r) s:=by
  rw[Go.Lib.join_cons,Go.Lib.join_cons,jtail_cons]
  simp
theorem join_sp(c:UInt8):∀ l,Go.Lib.join (sp c l) [c]=l
  |[]=>by simp[sp,sph,spt,Go.Lib.join_one]
  | x :: r=>by
    have ih:=join_sp c r
    rw[sp,Go.Lib.join_cons]at ih ⊢
    by_cases hx:x=c
    · subst hx
      simp only[sph,spt,if_pos]
      rw[jtail_cons]
      simpa using ih
    · simp only[sph,spt,if_neg hx]
      simpa using ih
def tot(xs:List (List UInt8)):Nat:=(xs.map List.length).sum
theorem jtail_len(c:UInt8):∀ r:List (List UInt8),(Go.Lib.joinTail [c] r).length=tot r+r.length
  |[]=>rfl
  | y::r=>by
    rw[jtail_cons]
    simp only[List.length_append,jtail_len c r,tot,List.map_cons,List.sum_cons,List.length_cons,List.length_nil]
    omega
theorem join_len(c:UInt8)(x:List UInt8)(r:List (List UInt8)):(Go.Lib.join (x::r) [c]).length=tot (x::r)+r.length:=by
  rw[Go.Lib.join_cons,List.length_append,jtail_len]
  simp only[tot,List.map_cons,List.sum_cons]
  omega
end Go.Proofs.YtlacpadpdfccmaaGreatDoor.Aid
