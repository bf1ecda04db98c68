/-
Numerals in decimal,read again,with no program in sight.
-/
import Derived.Test.YtlacpadpdfccmaaGreatDoorAidL
import Derived.Test.YtlacpadpdfccmaaGreatDoorAidC
import Derived.Lib.ItoaNum
import Derived.Lib.ParseIntB
namespace Go.Proofs.YtlacpadpdfccmaaGreatDoor.Aid
open Go.RowKit Go.Proofs.YtlacpadpdfccmaaGreatDoorW.PrintWords
set_option linter.unusedSimpArgs false
set_option linter.unusedVariables false
def foldv(acc:Nat)(l:List UInt8):Nat:=l.foldl (fun a c=>a*10+(c.toNat - 48)) acc
def digitB(c:UInt8):Prop:=48<=c.toNat/\c.toNat<=57
theorem foldv_ge:∀(l:List UInt8) (acc:Nat),acc<=foldv acc l
  |[],acc=>Nat.le_refl _
  | c::r,acc=>by
    have:=foldv_ge r (acc*10+(c.toNat - 48))
    show acc<=foldv (acc*10+(c.toNat - 48)) r
    omega
theorem digit_dec{x:Nat}(h:x<10):digitB (UInt8.ofNat (48+x))/\(UInt8.ofNat (48+x)).toNat - 48=x:=by
  have:(UInt8.ofNat (48+x)).toNat=48+x:=by simp;omega
  unfold digitB
  omega
theorem dec_fold:∀ n:Nat,foldv 0 (Go.Lib.decDigits n)=n/\∀ c ∈ Go.Lib.decDigits n,digitB c:=by
  intro n
  induction n using Nat.strongRecOn with
  | _ n ih=>
    rw[Go.Lib.decDigits]
    split
    · rename_i h
      obtain⟨h1,h2⟩:=digit_dec h
      refine⟨?_,fun c hc=>?_⟩
      · show 0*10+((UInt8.ofNat (48+n)).toNat - 48)=n
        omega
      · obtain rfl:=List.mem_singleton.1 hc
        exact h1
    · rename_i h
      obtain⟨i1,i2⟩:=ih (n / 10) (by omega)
      obtain⟨h1,h2⟩:=digit_dec (x:=n%10) (by omega)
      refine⟨?_,fun c hc=>?_⟩
      · unfold foldv at i1 ⊢
        rw[List.foldl_append,i1]
        show n / 10*10+((UInt8.ofNat (48+n%10)).toNat - 48)=n
        omega
      · rcases List.mem_append.1 hc with hc|hc
        · exact i2 c hc
        · obtain rfl:=List.mem_singleton.1 hc
          exact h1
theorem parse_fold(M:Nat)(hM:99999<=M):∀(l:List UInt8) (acc:Nat),(∀ c ∈ l,digitB c)->foldv acc l<=99999->Go.Lib.parseUintM M acc l = .ok (foldv acc l)
  |[],acc,_,_=>rfl
  | c::r,acc,h,hv=>by
    have hc:=h c List.mem_cons_self
    have hg:=foldv_ge r (acc*10+(c.toNat - 48))
    have hv':foldv (acc*10+(c.toNat - 48)) r<=99999:=hv
    unfold digitB at hc
    rw[Go.Lib.parseUintM,if_pos hc,if_neg (by omega),if_neg (by omega),parse_fold M hM r _ (fun d hd=>h d (List.mem_cons_of_mem _ hd)) hv']
    rfl
theorem dec_ne(n:Nat):Go.Lib.decDigits n≠[]:=by
  rw[Go.Lib.decDigits]
  split <;> simp
theorem parse_dec(n:Nat)(hn:n<=99999):Go.Lib.parseIntB 64 (Go.Lib.decDigits n) = .ok (n:Int):=by
  obtain⟨h1,h2⟩:=dec_fold n
  have hne:=dec_ne n
  generalize hl:Go.Lib.decDigits n=l at h1 h2 hne
  cases l with
  |nil=>exact absurd rfl hne
  | cons c r=>
    have hc:=h2 c List.mem_cons_self
    unfold digitB at hc
    have hu:Go.Lib.parseUintB 64 (c::r) = .ok n:=by
      unfold Go.Lib.parseUintB
      rw[if_neg (by simp),parse_fold _ (by decide) _ _ h2 (by omega),h1]
    unfold Go.Lib.parseIntB
    simp only
    rw[if_neg (by omega:¬ (c.toNat=43\/c.toNat=45)),hu]
    simp only
    rw[if_neg (by
      rintro⟨_,h⟩
      have:(2:Nat) ^ (64 - 1)=9223372036854775808:=by decide
      omega),if_neg (by omega),if_neg (by omega)]
theorem parse_bad(c:UInt8)(r:List UInt8)(h43:c.toNat≠43)(h45:c.toNat≠45)(hd:¬ digitB c)(v:Int):Go.Lib.parseIntB 64 (c::r)≠.ok v:=by
  have hu:∀ u,Go.Lib.parseUintB 64 (c::r)≠.ok u:=by
    intro u
    unfold Go.Lib.parseUintB
    unfold digitB at hd
    rw[if_neg (by simp),Go.Lib.parseUintM,if_neg hd]
    intro e
    cases e
  unfold Go.Lib.parseIntB
  simp only
  rw[if_neg (by omega:¬ (c.toNat=43\/c.toNat=45))]
  cases hp:Go.Lib.parseUintB 64 (c::r)with
  |ok u=>exact absurd hp (hu u)
  |_=>intro e;cases e
theorem dig_digit{x:UInt8}(h:digitB x):dig (x.toNat:Int)=((x.toNat - 48:Nat):Int):=by
  unfold digitB at h
  unfold dig
  rw[inR_pos (by omega) (by omega),if_pos rfl]
  omega
theorem baseGo_dec(s:ByteArray):∀(n i acc:Nat),i+n=s.size->(∀ c ∈ s.data.toList.drop i,digitB c)->foldv acc (s.data.toList.drop i)<=65535->baseGo 10 s n i (acc:Int)=some ((foldv acc (s.data.toList.drop i):Nat):Int)
  | 0,i,acc,hi,_,_=>by
    rw[drop_end s i (by omega)]
    rfl
  | n+1,i,acc,hi,hd,hv=>by
    obtain⟨x,hx,bx⟩:=bt_drop s i (by omega)
    rw[hx]at hd hv
    have hdx:=hd x List.mem_cons_self
    have hv':foldv (acc*10+(x.toNat - 48)) (s.data.toList.drop (i+1))<=65535:=hv
    have hg:=foldv_ge (s.data.toList.drop (i+1)) (acc*10+(x.toNat - 48))
    have hlt:x.toNat - 48<10:=by unfold digitB at hdx;omega
    rw[baseGo,bx,dig_digit hdx,if_neg (by omega),if_neg (by omega)]
    have e:(acc:Int)*10+((x.toNat - 48:Nat):Int)=((acc*10+(x.toNat - 48):Nat):Int):=by omega
    rw[e,baseGo_dec s n (i+1) _ (by omega) (fun c hc=>hd c (List.mem_cons_of_mem _ hc)) hv',hx]
    rfl
theorem dec_len5 (n:Nat) (hn:n<100000):(Go.Lib.decDigits n).length<=5:=by
  have h:∀(m x:Nat),x<10 ^ (m+1)->(Go.Lib.decDigits x).length<=m+1:=by
    intro m
    induction m with
    | zero=>
      intro x hx
      rw[Go.Lib.decDigits,dif_pos (by simpa using hx)]
      simp
    | succ m ih=>
      intro x hx
      rw[Go.Lib.decDigits]
      split
      · simp
      · have:=ih (x / 10) (by
          rw[Nat.pow_succ,Nat.mul_comm]at hx
          exact Nat.div_lt_of_lt_mul hx)
        simp only[List.length_append,List.length_singleton]
        omega
  exact h 4 n (by omega)
theorem numOf_dec(n:Nat)(hn:n<=65535)(s:ByteArray)(hs:s.data.toList=Go.Lib.decDigits n):numOf s=some (n:Int):=by
  obtain⟨h1,h2⟩:=dec_fold n
  have hl:=len_list s
  have h5:=dec_len5 n (by omega)
  have hne:=dec_ne n
  rw[hs]at hl
  have h0:s.size≠0:=by
    intro e
    exact hne (List.length_eq_zero_iff.1 (by omega))
  obtain⟨x,hx,bx⟩:=bt_drop s 0 (by omega)
  rw[List.drop_zero,hs]at hx
  have hdx:=h2 x (by rw[hx];exact List.mem_cons_self)
  have bx':bt s 0=(x.toNat:Int):=bx
  unfold digitB at hdx
  unfold numOf baseOf
  rw[if_neg (by omega),if_neg h0,bx',if_neg (by omega),if_neg (by omega),if_neg h0]
  have hb:=baseGo_dec s s.size 0 0 (by omega) (by rw[List.drop_zero,hs];exact h2) (by rw[List.drop_zero,hs,h1];exact hn)
  rw[List.drop_zero,hs,h1]at hb
  exact hb
theorem numOf_none(s:ByteArray)(h0:s.size≠0)(h36:bt s 0≠36)(h37:bt s 0≠37)(hd:10<=dig (bt s 0)):numOf s=none:=by
  obtain⟨m,hm⟩:∃ m,s.size=m+1:=⟨s.size - 1,by omega⟩
  unfold numOf baseOf
  by_cases h:(s.size:Int) > 18
  · rw[if_pos h]
  · rw[if_neg h,if_neg h0,if_neg h36,if_neg h37,if_neg h0,hm,baseGo,if_pos]
    exact hd
end Go.Proofs.YtlacpadpdfccmaaGreatDoor.Aid
