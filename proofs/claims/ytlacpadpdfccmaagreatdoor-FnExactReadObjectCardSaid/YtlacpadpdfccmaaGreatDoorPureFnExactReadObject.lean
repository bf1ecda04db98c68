/-
The law FnExactReadObject,told as a plain function of the text,answers true for every input.
-/
import Derived.Test.YtlacpadpdfccmaaGreatDoorPFnExactReadObjectx3
import Derived.Test.YtlacpadpdfccmaaGreatDoorAidA
import Derived.Test.YtlacpadpdfccmaaGreatDoorAidB
import Derived.Test.YtlacpadpdfccmaaGreatDoorAidC
import Derived.Test.YtlacpadpdfccmaaGreatDoorAidH
import Derived.Test.YtlacpadpdfccmaaGreatDoorAidL
import Derived.Test.YtlacpadpdfccmaaGreatDoorAidJ
import Derived.Test.YtlacpadpdfccmaaGreatDoorAidM
import Derived.Test.YtlacpadpdfccmaaGreatDoorAidN
import Derived.Test.YtlacpadpdfccmaaGreatDoorAidO
import Derived.Test.YtlacpadpdfccmaaGreatDoorAidQ
import Derived.Test.YtlacpadpdfccmaaGreatDoorAidP
namespace Go.Proofs.YtlacpadpdfccmaaGreatDoor.Pure
open Go.RowKit Go.Proofs.YtlacpadpdfccmaaGreatDoor.Aid Go.Proofs.YtlacpadpdfccmaaGreatDoor.PFnExactReadObject Go.Proofs.YtlacpadpdfccmaaGreatDoorW.PrintWords Go.Proofs.YtlacpadpdfccmaaGreatDoorW.PrintLast Go.Proofs.YtlacpadpdfccmaaGreatDoorW.PrintMore
set_option linter.unusedVariables false
set_option linter.unusedSimpArgs false
theorem spec_l1In_eq(a b c:Int):spec_l1In.f a b c=some (inR a b c):=by
  unfold spec_l1In.f inR
  by_cases h:a>=b
  · rw[if_pos h,decide_eq_true (show b<=a from h)]
    rfl
  · rw[if_neg h,decide_eq_false (show¬ b<=a from h)]
    rfl
theorem impl_within_eq(a b c:Int):impl_within.f a b c=some (inR a b c):=by
  unfold impl_within.f inR
  by_cases h:a>=b
  · rw[if_pos h,decide_eq_true (show b<=a from h)]
    rfl
  · rw[if_neg h,decide_eq_false (show¬ b<=a from h)]
    rfl
theorem impl_isWord_eq(a:Int):impl_isWord.f a=some (inR a 0 65535):=by
  unfold impl_isWord.f
  rw[impl_within_eq]
  rfl
theorem spec_l3One_eq(b:Bool):spec_l3One.f b=some b.toInt:=by cases b <;> rfl
theorem spec_l1Letter_eq(c:Int):spec_l1Letter.f c=some (isLet c):=by
  unfold spec_l1Letter.f isLet inR
  by_cases h1:c>=97
  · by_cases h2:c<=122
    · simp[h1,h2]
    · by_cases h3:c=95
      · simp[h3]
      · simp[h1,h2,h3]
  · by_cases h3:c=95
    · simp[h3]
    · simp[h1,h3]
theorem impl_isDigit_eq(c:Int):impl_isDigit.f c=some (inR c 48 57):=by
  unfold impl_isDigit.f inR
  by_cases h:c>=48
  · rw[if_pos h,decide_eq_true (show 48<=c from h)]
    rfl
  · rw[if_neg h,decide_eq_false (show¬ 48<=c from h)]
    rfl
theorem impl_isSmall_eq(c:Int):impl_isSmall.f c=some (inR c 97 122):=by
  unfold impl_isSmall.f inR
  by_cases h:c>=97
  · rw[if_pos h,decide_eq_true (show 97<=c from h)]
    rfl
  · rw[if_neg h,decide_eq_false (show¬ 97<=c from h)]
    rfl
theorem spec_NameOk_l0 (s:ByteArray) (hs:s.size<=140737488351232):∀(n k i:Nat),i+n=s.size->n<k->spec_NameOk.l0 k s (i:Int)=some (allB isNam s n i):=by
  intro n
  induction n with
  | zero=>
    intro k i hi hk
    obtain⟨k,rfl⟩:∃ m,k=m+1:=⟨k - 1,by omega⟩
    simp only[spec_NameOk.l0]
    rw[if_neg (by omega)]
    rfl
  | succ n ih=>
    intro k i hi hk
    obtain⟨k,rfl⟩:∃ m,k=m+1:=⟨k - 1,by omega⟩
    have hn:=ih k (i+1) (by omega) (by omega)
    have hw:wrap64 ((i:Int)+1)=((i+1:Nat):Int):=by rw[w64 (by omega) (by omega)];omega
    simp only[spec_NameOk.l0]
    rw[if_pos (by omega),if_pos (by omega),spec_l1Letter_eq,hw,hn]
    simp only[Option.bind_some,allB,isNam,inR]
    by_cases h1:isLet (bt s i)=true
    · simp[h1]
    · by_cases h2:bt s i>=48
      · by_cases h3:bt s i<=57
        · simp[h1,h2,h3]
        · simp[h1,h2,h3]
      · simp[h1,h2]
theorem spec_NameOk_eq (s:ByteArray) {k:Nat} (hk:20<=k):spec_NameOk.f k s=some (nameOk s):=by
  unfold spec_NameOk.f nameOk
  obtain⟨k,rfl⟩:∃ m,k=m+1:=⟨k - 1,by omega⟩
  simp only[spec_NameOk.j0]
  by_cases h1:(s.size:Int)<1
  · rw[if_pos h1,inR_neg (by omega)]
    rfl
  · by_cases h2:(s.size:Int) > 16
    · rw[if_neg h1,if_pos h2,inR_neg (by omega)]
      rfl
    · have hl:=spec_NameOk_l0 s (by omega) s.size k 0 (by omega) (by omega)
      rw[if_neg h1,if_neg h2,inR_pos (by omega) (by omega),if_pos (by omega),spec_l1Letter_eq]
      simp only[Option.bind_some,Bool.true_and]
      rw[show((0:Nat):Int)=0 from rfl]at hl
      rw[hl]
      obtain⟨n,hn⟩:∃ n,s.size=n+1:=⟨s.size - 1,by omega⟩
      by_cases h3:isLet (bt s 0)=true
      · rw[h3,isLet_dig h3]
        simp
      · have h3':isLet (bt s 0)=false:=by simpa using h3
        rw[h3',hn]
        simp only[Bool.not_false,if_true,allB]
        rw[show bt s ((0:Nat):Int)=bt s 0 from rfl]
        unfold isNam
        rw[h3']
        cases inR (bt s 0) 48 57 <;> simp
theorem impl_NameOk_l0 (s:ByteArray) (hs:s.size<=140737488351232):∀(n k i:Nat),i+n=s.size->n<k->impl_NameOk.l0 k s (s.size:Int) (i:Int)=some (allB isNam s n i):=by
  intro n
  induction n with
  | zero=>
    intro k i hi hk
    obtain⟨k,rfl⟩:∃ m,k=m+1:=⟨k - 1,by omega⟩
    simp only[impl_NameOk.l0]
    rw[if_neg (by omega)]
    rfl
  | succ n ih=>
    intro k i hi hk
    obtain⟨k,rfl⟩:∃ m,k=m+1:=⟨k - 1,by omega⟩
    have hn:=ih k (i+1) (by omega) (by omega)
    have hw:wrap64 ((i:Int)+1)=((i+1:Nat):Int):=by rw[w64 (by omega) (by omega)];omega
    simp only[impl_NameOk.l0]
    rw[if_pos (by omega),if_pos (by omega),if_pos (by omega),impl_isSmall_eq,impl_isDigit_eq,hw,hn]
    simp only[Option.bind_some,allB,isNam,isLet]
    by_cases h1:inR (bt s i) 97 122=true
    · simp[h1]
    · by_cases h2:inR (bt s i) 48 57=true
      · simp[h1,h2]
      · by_cases h3:bt s i=95
        · simp[h1,h2,h3]
        · by_cases h4:bt s i=46
          · simp[h1,h2,h3,h4]
          · simp[h1,h2,h3,h4]
theorem impl_NameOk_eq(s:ByteArray){k:Nat}(hk:20<=k):impl_NameOk.f k s=some (nameOk s):=by
  unfold impl_NameOk.f nameOk
  obtain⟨k,rfl⟩:∃ m,k=m+1:=⟨k - 1,by omega⟩
  simp only[impl_NameOk.j0,impl_within_eq,Option.bind_some]
  by_cases h1:1<=(s.size:Int)/\(s.size:Int)<=16
  · have hl:=impl_NameOk_l0 s (by omega) s.size k 0 (by omega) (by omega)
    rw[inR_pos h1.1 h1.2,if_pos rfl,if_pos (by omega),impl_isDigit_eq]
    simp only[Option.bind_some,Bool.true_and]
    rw[show((0:Nat):Int)=0 from rfl]at hl
    rw[hl]
    cases inR (bt s 0) 48 57 <;> simp
  · rw[inR_neg h1]
    rfl
theorem laws_eqENodeS_l0(l:List S124)(hl:l.length<=1048576):∀(n k i:Nat),i+n=l.length->n<k->laws_eqENodeS.l0 k l l (i:Int)=some true:=by
  intro n
  induction n with
  | zero=>
    intro k i hi hk
    obtain⟨k,rfl⟩:∃ m,k=m+1:=⟨k - 1,by omega⟩
    simp only[laws_eqENodeS.l0]
    rw[if_neg (by omega)]
  | succ n ih=>
    intro k i hi hk
    obtain⟨k,rfl⟩:∃ m,k=m+1:=⟨k - 1,by omega⟩
    simp only[laws_eqENodeS.l0,laws_eqENode.f,if_true,Option.bind_some]
    rw[if_pos (by omega),if_pos (by omega),if_pos (by omega),up1 (by omega:i<l.length) (by omega)]
    exact ih k (i+1) (by omega) (by omega)
theorem laws_eqENodeS_same(l:List S124)(hl:l.length<=1048576){k:Nat}(hk:1048577<=k):laws_eqENodeS.f k l l=some true:=by
  unfold laws_eqENodeS.f
  rw[if_pos rfl]
  exact laws_eqENodeS_l0 l hl l.length k 0 (by omega) (by omega)
theorem laws_eqPatchS_l0(l:List S79)(hl:l.length<=1048576)(hx:∀ x ∈ l,x.f2.length<=1048576):∀(n k i:Nat),i+n=l.length->n+1048578<=k->laws_eqPatchS.l0 k l l (i:Int)=some true:=by
  intro n
  induction n with
  | zero=>
    intro k i hi hk
    obtain⟨k,rfl⟩:∃ m,k=m+1:=⟨k - 1,by omega⟩
    simp only[laws_eqPatchS.l0]
    rw[if_neg (by omega)]
  | succ n ih=>
    intro k i hi hk
    obtain⟨k,rfl⟩:∃ m,k=m+1:=⟨k - 1,by omega⟩
    have hrd:rd_T79 l (i:Int)=l.getD i z79:=by unfold rd_T79;rw[Int.toNat_natCast]
    have hm:=hx _ (getD_mem z79 l i (by omega))
    simp only[laws_eqPatchS.l0,laws_eqPatch.f,if_true]
    rw[if_pos (by omega),if_pos (by omega),if_pos (by omega),hrd,laws_eqENodeS_same _ hm (by omega)]
    simp only[Option.bind_some,if_true]
    rw[up1 (by omega:i<l.length) (by omega)]
    exact ih k (i+1) (by omega) (by omega)
theorem laws_eqPatchS_same(l:List S79)(hl:l.length<=1048576)(hx:∀ x ∈ l,x.f2.length<=1048576){k:Nat}(hk:2200000<=k):laws_eqPatchS.f k l l=some true:=by
  unfold laws_eqPatchS.f
  rw[if_pos rfl]
  exact laws_eqPatchS_l0 l hl hx l.length k 0 (by omega) (by omega)
theorem laws_eqSection_same(a:ByteArray)(b c d:Int)(e:ByteArray)(l:List S79)(hl:l.length<=1048576)(hx:∀ x ∈ l,x.f2.length<=1048576){k:Nat}(hk:2200000<=k):laws_eqSection.f k a b c d e l a b c d e l=some true:=by
  unfold laws_eqSection.f
  simp only[if_true]
  rw[laws_eqPatchS_same l hl hx hk]
  simp
theorem spec_l2Takes_eq(a:Int):spec_l2Takes.f a=some (takes a):=by
  unfold spec_l2Takes.f takes
  simp only[spec_l1In_eq,Option.bind_some]
  split
  · rfl
  · split
    · rfl
    · split <;> rfl
theorem spec_l2Node_eq (a b:Int) (s:ByteArray) {k:Nat} (hk:30<=k):spec_l2Node.f k a b s=some (nodeOk (a,b,s)):=by
  obtain⟨k,rfl⟩:∃ m,k=m+1:=⟨k - 1,by omega⟩
  unfold spec_l2Node.f nodeOk
  simp only[spec_l1In_eq,spec_l2Node.j0,spec_l2Takes_eq,spec_NameOk_eq s (by omega:20<=k),Option.bind_some]
  by_cases h1:a=1
  · rw[if_pos h1,if_pos h1]
    cases inR b 0 65535 <;> simp
  · rw[if_neg h1,if_neg h1]
    by_cases h2:a=2
    · rw[if_pos h2,if_pos (show a=2\/a=3 from Or.inl h2),h2]
      by_cases h4:b=0
      · simp[h4]
      · simp[h4]
    · by_cases h3:a=3
      · rw[if_neg h2,if_pos (Or.inr h3),h3]
        by_cases h4:b=0
        · simp[h4]
        · simp[h4]
      · have e:(a==3)=false:=by simpa using h3
        rw[if_neg h2,if_neg (show¬ (a=2\/a=3)by omega),e]
        simp only[Bool.false_eq_true,if_false]
        by_cases h4:b=0
        · by_cases h5:s.toList=[]
          · rw[if_pos h4,if_pos h5,h4,h5]
            simp[takes,inR]
            by_cases h6:4<=a/\a<=17
            · by_cases h7:a<=7
              · rw[if_neg (by omega),if_pos (by omega)]
                simp
                omega
              · rw[if_neg (by omega),if_neg (by omega),if_pos (by omega)]
                simp
                omega
            · rw[if_neg (by omega),if_neg (by omega),if_neg (by omega)]
              simp
              omega
          · simp[h4,h5]
        · simp[h4]
theorem impl_isNode_eq (a b:Int) (s:ByteArray) {k:Nat} (hk:30<=k):impl_isNode.f k a b s=some (nodeOk (a,b,s)):=by
  obtain⟨k,rfl⟩:∃ m,k=m+1:=⟨k - 1,by omega⟩
  unfold impl_isNode.f nodeOk
  simp only[impl_isWord_eq,impl_isNode.j0,impl_within_eq,impl_NameOk_eq s (by omega:20<=k),Option.bind_some]
  by_cases h1:a=1
  · rw[if_pos h1,if_pos h1]
    cases inR b 0 65535 <;> simp
  · rw[if_neg h1,if_neg h1]
    by_cases h2:a=2
    · rw[if_pos h2,if_pos (show a=2\/a=3 from Or.inl h2)]
      by_cases h4:b=0
      · simp[h4]
      · simp[h4]
    · by_cases h3:a=3
      · rw[if_neg h2,if_pos (Or.inr h3),h3]
        by_cases h4:b=0
        · simp[h4]
        · simp[h4]
      · have e:(a==3)=false:=by simpa using h3
        rw[if_neg h2,if_neg (show¬ (a=2\/a=3)by omega),e]
        simp only[Bool.false_eq_true,if_false]
        cases inR a 4 17
        · simp
        · by_cases h4:b=0
          · simp[h4]
          · simp[h4]
def nd_(x:S124):Nd:=(x.f0,x.f1,x.f2)
theorem spec_ExprOk_l0 (l:List S124) (hl:l.length<=1048576):∀(n k i:Nat) (d:Int),i+n=l.length->n+40<=k->0<=d->d<=2*i->spec_ExprOk.l0 k l d (i:Int)=some (decide ((l.length:Int)<=30)&&exprGo ((l.drop i).map nd_) d):=by
  intro n
  induction n with
  | zero=>
    intro k i d hi hk h0 h1
    obtain⟨k,rfl⟩:∃ m,k=m+1:=⟨k - 1,by omega⟩
    simp only[spec_ExprOk.l0]
    rw[if_neg (by omega),List.drop_eq_nil_of_le (by omega)]
    by_cases h:(l.length:Int)<=30
    · rw[if_pos h,decide_eq_true h]
      rfl
    · rw[if_neg h,decide_eq_false h]
      rfl
  | succ n ih=>
    intro k i d hi hk h0 h1
    obtain⟨k,rfl⟩:∃ m,k=m+1:=⟨k - 1,by omega⟩
    simp only[spec_ExprOk.l0]
    rw[if_pos (by omega),if_pos (by omega),drop_at z124 l i (by omega)]
    have hrd:rd_T124 l (i:Int)=l.getD i z124:=by unfold rd_T124;rw[Int.toNat_natCast]
    rw[hrd]
    generalize l.getD i z124=x
    simp only[List.map_cons,exprGo,nd_]
    rw[spec_l2Node_eq _ _ _ (by omega:30<=k),spec_l2Takes_eq]
    simp only[Option.bind_some]
    have ht:=takes_in x.f0
    by_cases c1:nodeOk (x.f0,x.f1,x.f2)=true
    · rw[if_pos c1,c1]
      by_cases c2:takes x.f0 > d
      · rw[if_pos c2,decide_eq_false (show¬ takes x.f0<=d by omega)]
        simp
      · rw[if_neg c2,decide_eq_true (show takes x.f0<=d by omega),w64 (n:=d - takes x.f0) (by omega) (by omega),w64 (n:=d - takes x.f0+1) (by omega) (by omega),up1 (by omega:i<l.length) (by omega)]
        have:=ih k (i+1) (d - takes x.f0+1) (by omega) (by omega) (by omega) (by omega)
        rw[this]
        simp
    · rw[if_neg c1]
      simp[c1]
theorem spec_ExprOk_eq(l:List S124)(hl:l.length<=1048576){k:Nat}(hk:l.length+40<=k):spec_ExprOk.f k l=some (exprOk (l.map nd_)):=by
  unfold spec_ExprOk.f exprOk
  have:=spec_ExprOk_l0 l hl l.length k 0 0 (by omega) (by omega) (by omega) (by omega)
  rw[show((0:Nat):Int)=0 from rfl]at this
  rw[this]
  simp
theorem impl_ExprOk_l0 (l:List S124) (hl:l.length<=30):∀(n k i:Nat) (d:Int),i+n=l.length->n+40<=k->0<=d->d<=i->impl_ExprOk.l0 k d l (l.length:Int) (i:Int)=some (exprGo ((l.drop i).map nd_) d):=by
  intro n
  induction n with
  | zero=>
    intro k i d hi hk h0 h1
    obtain⟨k,rfl⟩:∃ m,k=m+1:=⟨k - 1,by omega⟩
    simp only[impl_ExprOk.l0]
    rw[if_neg (by omega),List.drop_eq_nil_of_le (by omega)]
    rfl
  | succ n ih=>
    intro k i d hi hk h0 h1
    obtain⟨k,rfl⟩:∃ m,k=m+1:=⟨k - 1,by omega⟩
    simp only[impl_ExprOk.l0]
    rw[if_pos (by omega),if_pos (by omega),if_pos (by omega),drop_at z124 l i (by omega)]
    have hrd:rd_T124 l (i:Int)=l.getD i z124:=by unfold rd_T124;rw[Int.toNat_natCast]
    rw[hrd]
    generalize l.getD i z124=x
    simp only[List.map_cons,exprGo,nd_]
    rw[impl_isNode_eq _ _ _ (by omega:30<=k),up1 (by omega:i<l.length) (by omega)]
    simp only[Option.bind_some]
    by_cases c1:nodeOk (x.f0,x.f1,x.f2)=true
    · have hk1:=nodeOk_kind c1
      rw[if_pos c1,c1]
      simp only at hk1
      by_cases c2:x.f0<=3
      · have ht:takes x.f0=0:=by unfold takes;rw[inR_pos (by omega) (by omega)];rfl
        rw[if_pos c2,ht,w64 (n:=d+1) (by omega) (by omega),ih k (i+1) (d+1) (by omega) (by omega) (by omega) (by omega),decide_eq_true (show(0:Int)<=d by omega),show d - 0+1=d+1 from by omega]
        simp
      · by_cases c3:x.f0<=7
        · have ht:takes x.f0=1:=by unfold takes;rw[inR_neg (by omega),inR_pos (by omega) (by omega)];rfl
          rw[if_neg c2,if_pos c3,ht]
          by_cases c4:d<1
          · rw[if_pos c4,decide_eq_false (show¬ (1:Int)<=d by omega)]
            simp
          · rw[if_neg c4,decide_eq_true (show(1:Int)<=d by omega),ih k (i+1) d (by omega) (by omega) (by omega) (by omega),show d - 1+1=d from by omega]
            simp
        · have ht:takes x.f0=2:=by unfold takes;rw[inR_neg (by omega),inR_neg (by omega),inR_pos (by omega) (by omega)];rfl
          rw[if_neg c2,if_neg c3,ht]
          by_cases c4:d<2
          · rw[if_pos c4,decide_eq_false (show¬ (2:Int)<=d by omega)]
            simp
          · rw[if_neg c4,decide_eq_true (show(2:Int)<=d by omega),w64 (n:=d - 1) (by omega) (by omega),ih k (i+1) (d - 1) (by omega) (by omega) (by omega) (by omega),show d - 2+1=d - 1 from by omega]
            simp
    · rw[if_neg c1]
      simp[c1]
theorem impl_ExprOk_eq(l:List S124){k:Nat}(hk:80<=k):impl_ExprOk.f k l=some (exprOk (l.map nd_)):=by
  unfold impl_ExprOk.f exprOk
  by_cases h:(l.length:Int) > 30
  · rw[if_pos h,decide_eq_false (show¬ ((l.map nd_).length:Int)<=30 by rw[List.length_map];omega)]
    rfl
  · rw[if_neg h,decide_eq_true (show((l.map nd_).length:Int)<=30 by rw[List.length_map];omega)]
    have:=impl_ExprOk_l0 l (by omega) l.length k 0 0 (by omega) (by omega) (by omega) (by omega)
    rw[show((0:Nat):Int)=0 from rfl]at this
    rw[this]
    simp
theorem impl_noughts_eq(n:Nat)(h:n<=1048576):impl_noughts.f (n:Int)=some ⟨(Go.Lib.repeatL [0] n).toArray⟩:=by
  unfold impl_noughts.f strings_Repeat.f
  rw[if_pos (by omega),if_pos (by omega),if_pos (by rw[Int.toNat_natCast];show 1*n<=_;omega)]
  rfl
theorem spec_l1Digit_eq {k:Nat} (hk:1<=k) {c:Int} (h0:0<=c) (h1:c<=255):spec_l1Digit.f k c=some (dig c):=by
  obtain⟨k,rfl⟩:∃ m,k=m+1:=⟨k - 1,by omega⟩
  unfold spec_l1Digit.f dig
  simp only[spec_l1Digit.j0]
  by_cases a1:48<=c/\c<=57
  · rw[if_pos a1.1,decide_eq_true a1.2,if_pos rfl,inR_pos a1.1 a1.2,if_pos rfl]
    congr 1
    omega
  · rw[inR_neg a1]
    have e:(if c>=48 then(if decide (c<=57)=true then some ((c - 48)%256)else if c>=65 then if c<=70 then some ((c - 65)%256+10)else some 99 else some 99)else if false=true then some ((c - 48)%256)else if c>=65 then if c<=70 then some ((c - 65)%256+10)else some 99 else some 99)=(if c>=65 then if c<=70 then some ((c - 65)%256+10)else some 99 else some 99):=by
      by_cases b1:c>=48
      · rw[if_pos b1,decide_eq_false (by omega)]
        rfl
      · rw[if_neg b1]
        rfl
    rw[e]
    by_cases a2:65<=c/\c<=70
    · rw[if_pos a2.1,if_pos a2.2,inR_pos a2.1 a2.2]
      simp only[Bool.false_eq_true,if_false,if_true]
      congr 1
      omega
    · rw[inR_neg a2]
      simp only[Bool.false_eq_true,if_false]
      by_cases b2:c>=65
      · rw[if_pos b2,if_neg (by omega)]
      · rw[if_neg b2]
theorem spec_l1Base_l0 (s:ByteArray) (hs:s.size<=1048576) (base:Int) (hb:0<=base/\base<=16):∀(n k i:Nat) (acc:Int),i+n=s.size->n+5<=k->0<=acc->acc<=65535 →
    spec_l1Base.l0 k s base acc (i:Int)=some (match baseGo base s n i acc with|none=>(0,false)|some v=>(v,s.toList !=([]:List UInt8))):=by
  intro n
  induction n with
  | zero=>
    intro k i acc hi hk h0 h1
    obtain⟨k,rfl⟩:∃ m,k=m+1:=⟨k - 1,by omega⟩
    simp only[spec_l1Base.l0,baseGo]
    rw[if_neg (by omega)]
  | succ n ih=>
    intro k i acc hi hk h0 h1
    obtain⟨k,rfl⟩:∃ m,k=m+1:=⟨k - 1,by omega⟩
    have hd:=dig_nonneg (c:=bt s (i:Int))
    have hm:0<=acc*base:=Int.mul_nonneg h0 hb.1
    have hM:acc*base<=65535*16:=Int.mul_le_mul h1 hb.2 hb.1 (by decide)
    simp only[spec_l1Base.l0,baseGo]
    rw[if_pos (by omega),if_pos (by omega),spec_l1Digit_eq (by omega) (bt_nonneg _ _) (bt_le _ _),w64 (n:=acc*base) (by omega) (by omega),up1 (by omega:i<s.size) (by omega)]
    simp only[Option.bind_some]
    rw[w64 (n:=acc*base+dig (bt s (i:Int))) (by omega) (by omega)]
    by_cases c1:dig (bt s (i:Int))>=base
    · rw[if_pos c1,if_pos c1]
    · rw[if_neg c1,if_neg c1]
      by_cases c2:acc*base+dig (bt s (i:Int)) > 65535
      · rw[if_pos c2,if_pos c2]
      · rw[if_neg c2,if_neg c2]
        exact ih k (i+1) _ (by omega) (by omega) (by omega) (by omega)
theorem spec_l1Base_eq(s:ByteArray)(hs:s.size<=1048576){base:Int}(hb:0<=base/\base<=16){k:Nat}(hk:s.size+5<=k):spec_l1Base.f k s base=some (told (baseOf base s)):=by
  unfold spec_l1Base.f baseOf
  have h:=spec_l1Base_l0 s hs base hb s.size k 0 0 (by omega) (by omega) (by omega) (by omega)
  rw[show((0:Nat):Int)=0 from rfl]at h
  rw[h]
  by_cases hz:s.size=0
  · rw[if_pos hz,size_zero.2 hz,hz]
    rfl
  · rw[if_neg hz]
    have hne:(s.toList !=([]:List UInt8))=true:=by
      rw[bne_iff_ne]
      exact fun h=>hz (size_zero.1 h)
    cases baseGo base s s.size 0 0 with
    |none=>rfl
    |some v=>simp[told,hne]
theorem spec_ReadNum_eq (s:ByteArray) {k:Nat} (hk:40<=k):spec_ReadNum.f k s=some (told (numOf s)):=by
  obtain⟨k,rfl⟩:∃ m,k=m+1:=⟨k - 1,by omega⟩
  unfold spec_ReadNum.f numOf
  simp only[spec_ReadNum.j0]
  by_cases h1:(s.size:Int) > 18
  · rw[if_pos h1,if_pos h1]
    rfl
  · rw[if_neg h1,if_neg h1]
    by_cases h2:s.size=0
    · rw[if_pos h2,size_zero.2 h2]
      rfl
    · have hne:(s.toList==([]:List UInt8))=false:=by
        rw[beq_eq_false_iff_ne]
        exact fun h=>h2 (size_zero.1 h)
      have hx:(s.extract 1 s.size).size<=18:=by simp;omega
      rw[hne,if_neg h2,if_neg (by simp),if_pos (by omega)]
      have p1:(1<=(s.size:Int))=True:=eq_true (by omega)
      simp only[p1,if_true]
      rw[spec_l1Base_eq _ (by omega) (by decide:(0:Int)<=16/\(16:Int)<=16) (by omega),spec_l1Base_eq _ (by omega) (by decide:(0:Int)<=2/\(2:Int)<=16) (by omega),spec_l1Base_eq _ (by omega) (by decide:(0:Int)<=10/\(10:Int)<=16) (by omega)]
      simp only[Option.bind_some,Prod.eta]
      split
      · rfl
      · split <;> rfl
theorem impl_valueOf_over(s d:ByteArray)(hs:s.size<=1048576):∀(n k i:Nat) (acc:Int),i+n=s.size->n<k->65535<acc->∃ v,impl_valueOf.l0 k s d acc (s.size:Int) (i:Int)=some (v,false):=by
  intro n k i acc hi hk h0
  obtain⟨k,rfl⟩:∃ m,k=m+1:=⟨k - 1,by omega⟩
  cases n with
  | zero=>
    simp only[impl_valueOf.l0]
    rw[if_neg (by omega)]
    split
    · exact⟨_,rfl⟩
    · rw[decide_eq_false (by omega)]
      exact⟨_,rfl⟩
  | succ n=>
    simp only[impl_valueOf.l0,strings_IndexByte.f]
    rw[if_pos (by omega),if_pos (by omega),if_pos (by omega)]
    simp only[Option.bind_some]
    split
    · exact⟨_,rfl⟩
    · first|exact⟨_,rfl⟩|(rw[if_pos (by omega)];exact⟨_,rfl⟩)
theorem impl_valueOf_l0 (s d:ByteArray) (hs:s.size<=1048576) (base:Int) (hb:2<=base/\base<=16) (hd:(d.size:Int)=base) (hi16:∀ c:Int,0<=c->c<=255->Go.Lib.indexByte d.data.toList c.toNat.toUInt8=if dig c<base then dig c else -1) :
    ∀(n k i:Nat) (acc:Int),i+n=s.size->n+5<=k->0<=acc->acc<=65535 →
    ∃ v,impl_valueOf.l0 k s d acc (s.size:Int) (i:Int)=some (v,(baseGo base s n i acc).isSome&&(s.toList !=([]:List UInt8)))/\∀ u,baseGo base s n i acc=some u->v=u:=by
  intro n
  induction n with
  | zero=>
    intro k i acc hi hk h0 h1
    obtain⟨k,rfl⟩:∃ m,k=m+1:=⟨k - 1,by omega⟩
    simp only[impl_valueOf.l0,baseGo]
    rw[if_neg (by omega),decide_eq_true h1]
    refine⟨acc,?_,fun u hu=>Option.some.inj hu⟩
    by_cases hz:s.toList=[]
    · rw[if_pos hz,hz]
      rfl
    · rw[if_neg hz]
      simp[hz]
  | succ n ih=>
    intro k i acc hi hk h0 h1
    obtain⟨k,rfl⟩:∃ m,k=m+1:=⟨k - 1,by omega⟩
    have hdg:=dig_nonneg (c:=bt s (i:Int))
    have hm:0<=acc*base:=Int.mul_nonneg h0 (by omega)
    have hM:acc*base<=65535*16:=Int.mul_le_mul h1 hb.2 (by omega) (by decide)
    simp only[impl_valueOf.l0,baseGo,strings_IndexByte.f]
    rw[if_pos (by omega),if_pos (by omega),if_pos (by omega),hi16 _ (bt_nonneg _ _) (bt_le _ _),hd]
    simp only[Option.bind_some]
    by_cases c1:dig (bt s (i:Int))>=base
    · rw[if_neg (by omega:¬ dig (bt s (i:Int))<base),if_pos c1]
      exact⟨0,by simp,fun u hu=>by cases hu⟩
    · rw[if_pos (by omega:dig (bt s (i:Int))<base),if_neg c1,if_neg (by omega),if_neg (by omega),w64 (n:=acc*base) (by omega) (by omega),w64 (n:=acc*base+dig (bt s (i:Int))) (by omega) (by omega),up1 (by omega:i<s.size) (by omega)]
      by_cases c2:acc*base+dig (bt s (i:Int)) > 65535
      · rw[if_pos c2]
        obtain⟨v,hv⟩:=impl_valueOf_over s d hs n k (i+1) _ (by omega) (by omega) c2
        exact⟨v,by rw[hv];rfl,fun u hu=>by cases hu⟩
      · rw[if_neg c2]
        exact ih k (i+1) _ (by omega) (by omega) (by omega) (by omega)
theorem impl_valueOf_eq (s d:ByteArray) (hs:s.size<=1048576) {base:Int} (hb:2<=base/\base<=16) (hd:(d.size:Int)=base) (hi16:∀ c:Int,0<=c->c<=255->Go.Lib.indexByte d.data.toList c.toNat.toUInt8=if dig c<base then dig c else -1) {k:Nat} (hk:s.size+5<=k) :
    ∃ v,impl_valueOf.f k s d=some (v,(baseOf base s).isSome)/\∀ u,baseOf base s=some u->v=u:=by
  unfold impl_valueOf.f baseOf
  obtain⟨v,hv,hu⟩:=impl_valueOf_l0 s d hs base hb hd hi16 s.size k 0 0 (by omega) (by omega) (by omega) (by omega)
  rw[show((0:Nat):Int)=0 from rfl]at hv
  refine⟨v,?_,?_⟩
  · rw[hv]
    by_cases hz:s.size=0
    · rw[if_pos hz,size_zero.2 hz]
      simp
    · have hne:(s.toList !=([]:List UInt8))=true:=by
        rw[bne_iff_ne]
        exact fun h=>hz (size_zero.1 h)
      rw[if_neg hz,hne,Bool.and_true]
  · intro u h
    by_cases hz:s.size=0
    · rw[if_pos hz]at h
      cases h
    · rw[if_neg hz]at h
      exact hu u h
theorem laws_markText_l0:∀(n:Nat) (x:Int) (acc:ByteArray),0<=x->x<2 ^ n->x<=4611686018427387904->acc.size+n<=1000->∃ v,∀ k,n<k->laws_markText.l0 k x acc=some v:=by
  intro n
  induction n with
  | zero=>
    intro x acc h0 h1 h2 h3
    refine⟨(⟨#[109]⟩:ByteArray)++acc,fun k hk=>?_⟩
    obtain⟨k,rfl⟩:∃ m,k=m+1:=⟨k - 1,by omega⟩
    simp only[laws_markText.l0]
    rw[if_neg (by omega),if_pos (by omega)]
  | succ n ih=>
    intro x acc h0 h1 h2 h3
    by_cases hx:x > 0
    · have hp:(2:Int) ^ (n+1)=2 ^ n*2:=Int.pow_succ 2 n
      have hs:(strOfNums [(wrap64 (48+(Int.tmod x 10)))%256]).size=1:=rfl
      have hd:Int.tdiv x 10=x / 10:=Int.tdiv_eq_ediv_of_nonneg h0
      have hlt:x / 10<2 ^ n:=by omega
      obtain⟨v,hv⟩:=ih (x / 10) ((strOfNums [(wrap64 (48+(Int.tmod x 10)))%256])++acc) (by omega) hlt (by omega) (by rw[ByteArray.size_append,hs];omega)
      refine⟨v,fun k hk=>?_⟩
      obtain⟨k,rfl⟩:∃ m,k=m+1:=⟨k - 1,by omega⟩
      simp only[laws_markText.l0,Option.bind_some]
      rw[if_pos hx,if_pos (by rw[hs];omega),hd,w64 (by omega) (by omega)]
      exact hv k (by omega)
    · refine⟨(⟨#[109]⟩:ByteArray)++acc,fun k hk=>?_⟩
      obtain⟨k,rfl⟩:∃ m,k=m+1:=⟨k - 1,by omega⟩
      simp only[laws_markText.l0]
      rw[if_neg hx,if_pos (by omega)]
theorem laws_markText_all:∃ T:Int->ByteArray,∀ x,0<=x->x<=4611686018427387904->∀ k,70<=k->laws_markText.f k x=some (T x):=by
  have h:∀ x:Int,∃ v,0<=x->x<=4611686018427387904->∀ k,70<=k->laws_markText.f k x=some v:=by
    intro x
    by_cases hx:0<=x/\x<=4611686018427387904
    · unfold laws_markText.f
      by_cases h0:x<=0
      · exact⟨_,fun _ _ k hk=>by rw[if_pos h0]⟩
      · obtain⟨v,hv⟩:=laws_markText_l0 63 x ⟨#[]⟩ hx.1 (by omega) hx.2 (by decide)
        exact⟨v,fun _ _ k hk=>by rw[if_neg h0];exact hv k (by omega)⟩
    · exact⟨ByteArray.empty,fun a b=>absurd ⟨a,b⟩ hx⟩
  exact⟨fun x=>Classical.choose (h x),fun x=>Classical.choose_spec (h x)⟩
theorem laws_markHeld_l0 {T:Int->ByteArray} (hT:∀ x,0<=x->x<=4611686018427387904->∀ k,70<=k->laws_markText.f k x=some (T x)) :
    ∀(n k i:Nat) (m:Int) (y:List S124),i+n=y.length->y.length<=1048576->n+80<=k->0<=m->m<=3*i+1000000 →
    ∃ z,laws_markENodeS.l0 k y m (i:Int)=some (m+3*n,z)/\z.length=y.length/\(∀ j,j<i->z.getD j z124=y.getD j z124)/\∀ j,i<=j->j<y.length->z.getD j z124=⟨m+3*((j:Int) - i),m+3*((j:Int) - i)+1,T (m+3*((j:Int) - i)+2)⟩:=by
  intro n
  induction n with
  | zero=>
    intro k i m y hi hl hk h0 h1
    obtain⟨k,rfl⟩:∃ m,k=m+1:=⟨k - 1,by omega⟩
    refine⟨y,?_,rfl,fun _ _=>rfl,fun j h2 h3=>by omega⟩
    simp only[laws_markENodeS.l0]
    rw[if_neg (by omega)]
    simp
  | succ n ih=>
    intro k i m y hi hl hk h0 h1
    obtain⟨k,rfl⟩:∃ m,k=m+1:=⟨k - 1,by omega⟩
    have hs:∀(q:List S124) (v:S124),i<q.length->rd_T124 (q.set i v) (i:Int)=v:=by
      intro q v hq
      unfold rd_T124
      rw[Int.toNat_natCast,List.getD_eq_getElem?_getD,List.getElem?_set_self hq]
      rfl
    have hstep:laws_markENodeS.l0 (k+1) y m (i:Int)=laws_markENodeS.l0 k (y.set i ⟨m,m+1,T (m+2)⟩) (m+3) ((i+1:Nat):Int):=by
      simp only[laws_markENodeS.l0,Option.bind_some,Int.toNat_natCast]
      rw[if_pos (by omega),if_pos (by omega),w64 (n:=m+1) (by omega) (by omega),w64 (n:=m+1+1) (by omega) (by omega),hT (m+1+1) (by omega) (by omega) k (by omega),w64 (n:=m+1+1+1) (by omega) (by omega),up1 (by omega:i<y.length) (by omega)]
      simp only[Option.bind_some,List.set_set]
      rw[hs _ _ (by omega),hs _ _ (by omega),show m+1+1=m+2 by omega,show m+2+1=m+3 by omega]
    obtain⟨z,hz,h3,h4,h5⟩:=ih k (i+1) (m+3) (y.set i ⟨m,m+1,T (m+2)⟩) (by simp;omega) (by simpa using hl) (by omega) (by omega) (by omega)
    refine⟨z,?_,by simpa using h3,fun j hj=>?_,fun j hj hj2=>?_⟩
    · rw[hstep,hz]
      congr 2
      omega
    · rw[h4 j (by omega),List.getD_eq_getElem?_getD,List.getD_eq_getElem?_getD,List.getElem?_set_ne (by omega)]
    · by_cases e:j=i
      · rw[e,h4 i (by omega),List.getD_eq_getElem?_getD,List.getElem?_set_self (by omega)]
        simp
      · rw[h5 j (by omega) (by simpa using hj2)]
        have:m+3+3*((j:Int) - ((i+1:Nat):Int))=m+3*((j:Int) - i):=by omega
        rw[this]
theorem laws_heldENodeS_l0{T:Int->ByteArray}(hT:∀ x,0<=x->x<=4611686018427387904->∀ k,70<=k->laws_markText.f k x=some (T x)) :
    ∀(n k i:Nat) (m:Int) (z:List S124),i+n=z.length->z.length<=1048576->n+80<=k->0<=m->m<=3*i+1000000 →
    (∀ j,i<=j->j<z.length->z.getD j z124=⟨m+3*((j:Int) - i),m+3*((j:Int) - i)+1,T (m+3*((j:Int) - i)+2)⟩)->laws_heldENodeS.l0 k z m (i:Int)=some (m+3*n):=by
  intro n
  induction n with
  | zero=>
    intro k i m z hi hl hk h0 h1 h2
    obtain⟨k,rfl⟩:∃ m,k=m+1:=⟨k - 1,by omega⟩
    simp only[laws_heldENodeS.l0]
    rw[if_neg (by omega)]
    simp
  | succ n ih=>
    intro k i m z hi hl hk h0 h1 h2
    obtain⟨k,rfl⟩:∃ m,k=m+1:=⟨k - 1,by omega⟩
    have hr:rd_T124 z (i:Int)=⟨m,m+1,T (m+1+1)⟩:=by
      unfold rd_T124
      rw[Int.toNat_natCast,h2 i (Nat.le_refl _) (by omega)]
      have:m+3*((i:Int) - i)=m:=by omega
      rw[this,show m+2=m+1+1 by omega]
    simp only[laws_heldENodeS.l0]
    rw[if_pos (by omega),if_pos (by omega),hr]
    simp only[if_true]
    rw[w64 (n:=m+1) (by omega) (by omega),if_pos rfl,w64 (n:=m+1+1) (by omega) (by omega),hT (m+1+1) (by omega) (by omega) k (by omega),w64 (n:=m+1+1+1) (by omega) (by omega),up1 (by omega:i<z.length) (by omega)]
    simp only[Option.bind_some,if_true]
    rw[ih k (i+1) (m+1+1+1) z (by omega) hl (by omega) (by omega) (by omega) (fun j hj hj2=>by
      rw[h2 j (by omega) hj2]
      have:m+1+1+1+3*((j:Int) - ((i+1:Nat):Int))=m+3*((j:Int) - i):=by omega
      rw[this])]
    congr 1
    omega
theorem spec_HexOf_l0(d:Nat)(hd:d<=4):∀(m k i a:Nat) (s:List UInt8),i+m=d->m<k->a<65536->s.length+m<=4->spec_HexOf.l0 k (a:Int) (d:Int) ⟨s.toArray⟩ (i:Int)=some (if a / 16 ^ m=0 then⟨(36::(hexFix m a++s)).toArray⟩else⟨#[]⟩):=by
  intro m
  induction m with
  | zero=>
    intro k i a s hi hk ha hs
    obtain⟨k,rfl⟩:∃ q,k=q+1:=⟨k - 1,by omega⟩
    simp only[spec_HexOf.l0]
    rw[if_neg (by omega)]
    by_cases h:a=0
    · subst h
      rw[if_neg (by omega),if_pos (by rw[bytes_size];omega),if_pos (by simp),show(⟨#[36]⟩:ByteArray)=⟨[36].toArray⟩from rfl,bytes_append]
      rfl
    · rw[if_pos (by omega),if_neg (by simp;exact h)]
  | succ m ih=>
    intro k i a s hi hk ha hs
    obtain⟨k,rfl⟩:∃ q,k=q+1:=⟨k - 1,by omega⟩
    simp only[spec_HexOf.l0]
    have e1:Int.tmod (a:Int) 16=((a%16:Nat):Int):=by
      rw[Int.tmod_eq_emod_of_nonneg (by omega)];omega
    have e2:wrap64 (Int.tdiv (a:Int) 16)=((a / 16:Nat):Int):=by
      rw[Int.tdiv_eq_ediv_of_nonneg (by omega),w64 (by omega) (by omega)];omega
    have e3:wrap64 (((a%16:Nat):Int)+1)=((a%16+1:Nat):Int):=by
      rw[w64 (by omega) (by omega)];omega
    have e4:wrap64 ((i:Int)+1)=((i+1:Nat):Int):=by
      rw[w64 (by omega) (by omega)];omega
    simp only[e1,e2,e3,e4,Int.toNat_natCast]
    rw[if_pos (by omega),if_pos (by omega),if_pos (by omega),if_pos (by omega),digit_cut (a%16) (by omega),if_pos (by rw[bytes_size,bytes_size];simp;omega),bytes_append,ih k (i+1) (a / 16) _ (by omega) (by omega) (by omega) (by simp;omega)]
    rw[Nat.pow_succ,Nat.mul_comm,<-Nat.div_div_eq_div_mul]
    simp[hexFix]
theorem spec_HexOf_eq(n d:Int){k:Nat}(hk:10<=k):spec_HexOf.f k n d=some (if inR d 1 4=true then(if inR n 0 65535=true then hexText d.toNat n.toNat else⟨#[]⟩)else⟨#[]⟩):=by
  obtain⟨k,rfl⟩:∃ q,k=q+1:=⟨k - 1,by omega⟩
  unfold spec_HexOf.f
  simp only[spec_l1In_eq,Option.bind_some]
  by_cases h1:inR d 1 4=true
  · by_cases h2:inR n 0 65535=true
    · simp only[h1,h2,if_true,spec_HexOf.j0,Bool.not_true,Bool.false_eq_true,if_false]
      rw[inR_iff]at h1 h2
      obtain⟨a,rfl⟩:∃ a:Nat,n=(a:Int):=⟨n.toNat,by omega⟩
      obtain⟨e,rfl⟩:∃ e:Nat,d=(e:Int):=⟨d.toNat,by omega⟩
      have:=spec_HexOf_l0 e (by omega) e k 0 a [] (by omega) (by omega) (by omega) (by simp;omega)
      rw[show((0:Nat):Int)=0 from rfl,show(⟨([]:List UInt8).toArray⟩:ByteArray)=⟨#[]⟩from rfl,List.append_nil]at this
      rw[this]
      rfl
    · rw[Bool.not_eq_true]at h2
      simp only[h1,h2,if_true,spec_HexOf.j0,Bool.not_false,Bool.false_eq_true,if_false]
  · rw[Bool.not_eq_true]at h1
    simp only[h1,spec_HexOf.j0,Bool.false_eq_true,if_false,if_true]
theorem impl_hexDigits_eq(n d:Nat)(hn:n<65536)(hd0:1<=d)(hd:d<=4)(hz:n / 16 ^ d=0):impl_hexDigits.f (n:Int) (d:Int)=some ⟨(hexFix d n).toArray⟩:=by
  unfold impl_hexDigits.f strconv_FormatInt.f
  rw[if_neg (by decide),if_pos rfl,if_pos (by omega),if_pos (by omega)]
  simp only[Option.bind_some,Int.toNat_natCast]
  have hl:=hexLow_len n
  unfold strings_ToUpper.f
  rw[if_pos (by rw[bytes_size];omega),if_pos (by rw[List.all_eq_true];intro b hb;exact decide_eq_true (hexLow_small n hn b (by simpa using hb)))]
  simp only[Option.bind_some]
  have hsz:(⟨(Go.Lib.toUpperA (hexLow n).toArray.toList).toArray⟩:ByteArray).size=(hexLow n).length:=by rw[bytes_size];simp[Go.Lib.toUpperA]
  rw[hsz]
  have hm:mx 0 (wrap64 ((d:Int) - ((hexLow n).length:Int)))=((d - (hexLow n).length:Nat):Int):=by
    rw[w64 (by omega) (by omega)]
    unfold mx
    split <;> omega
  rw[hm]
  unfold strings_Repeat.f
  rw[if_pos (by omega),if_pos (by omega),if_pos (by rw[show(⟨#[48]⟩:ByteArray).size=1 from rfl];omega)]
  simp only[Option.bind_some,Int.toNat_natCast]
  have hr:(⟨(Go.Lib.repeatL (⟨#[48]⟩:ByteArray).data.toList (d - (hexLow n).length)).toArray⟩:ByteArray).size=d - (hexLow n).length:=by
    rw[bytes_size,Go.Lib.repeatL_length];simp
  rw[hr,if_pos (by omega),bytes_append]
  have:=hexPad d n hd0 hd hz hn
  rw[<-this]
  simp[Go.Lib.toUpperA]
theorem dig_nums{x:Nat}(h:x<10):strOfNums [(wrap64 (48+(x:Int)))%256]=⟨[UInt8.ofNat (48+x)].toArray⟩:=by
  unfold strOfNums
  rw[w64 (by omega) (by omega)]
  simp only[List.map_cons,List.map_nil]
  rw[show((48+(x:Int))%256).toNat=48+x by omega]
theorem dec_l0:∀(m k x:Nat) (s:List UInt8),x<10 ^ (m+1)->m<k->m<=4->s.length+m<=1000->spec_l1Dec.l0 k (x:Int) ⟨s.toArray⟩=some ⟨(Go.Lib.decDigits x++s).toArray⟩:=by
  have small:∀(k x:Nat) (s:List UInt8),x<10->0<k->s.length<=1000->spec_l1Dec.l0 k (x:Int) ⟨s.toArray⟩=some ⟨(Go.Lib.decDigits x++s).toArray⟩:=by
    intro k x s hx hk hs
    obtain⟨k,rfl⟩:∃ z,k=z+1:=⟨k - 1,by omega⟩
    rw[spec_l1Dec.l0,if_neg (by omega)]
    simp only[Option.bind_some]
    rw[dig_nums hx,if_pos (by rw[bytes_size,bytes_size];simp;omega),bytes_append,Go.Lib.decDigits,dif_pos hx]
  intro m
  induction m with
  |zero=>intro k x s hx hk _ hs;exact small k x s (by simpa using hx) hk (by omega)
  | succ m ih=>
    intro k x s hx hk hm hs
    by_cases h10:x<10
    · exact small k x s h10 (by omega) (by omega)
    · obtain⟨k,rfl⟩:∃ z,k=z+1:=⟨k - 1,by omega⟩
      have hbig:x<100000:=by
        have h4:m=0\/m=1\/m=2\/m=3:=by omega
        have:10 ^ (m+1+1)<=100000:=by rcases h4 with rfl|rfl|rfl|rfl <;> decide
        omega
      have hd:x / 10<10 ^ (m+1):=by
        rw[Nat.pow_succ,Nat.mul_comm]at hx
        exact Nat.div_lt_of_lt_mul hx
      rw[spec_l1Dec.l0,if_pos (by omega)]
      simp only[Option.bind_some]
      have e1:Int.tmod (x:Int) 10=((x%10:Nat):Int):=by rw[Int.tmod_eq_emod_of_nonneg (by omega)];omega
      have e2:wrap64 (Int.tdiv (x:Int) 10)=((x / 10:Nat):Int):=by rw[Int.tdiv_eq_ediv_of_nonneg (by omega),w64 (by omega) (by omega)];omega
      rw[e1,e2,dig_nums (by omega),if_pos (by rw[bytes_size,bytes_size];simp;omega),bytes_append,ih k (x / 10) _ hd (by omega) (by omega) (by simp;omega)]
      conv=>rhs;rw[Go.Lib.decDigits,dif_neg h10]
      simp
theorem spec_l1Dec_pos(x:Nat)(h:x<100000){k:Nat}(hk:20<=k):spec_l1Dec.f k (x:Int)=some ⟨(Go.Lib.itoa (x:Int)).toArray⟩:=by
  obtain⟨k,rfl⟩:∃ z,k=z+1:=⟨k - 1,by omega⟩
  rw[spec_l1Dec.f,if_neg (by omega)]
  have:=dec_l0 4 k x [] (by omega) (by omega) (by decide) (by simp)
  rw[List.append_nil]at this
  unfold Go.Lib.itoa
  rw[if_neg (by omega),Int.toNat_natCast]
  exact this
theorem index_one_at(c:UInt8)(a b:List UInt8)(h:c ∉ a):Go.Lib.index (a++c::b) [c]=(a.length:Nat):=by
  rcases cut_at c (a++c::b)with⟨_,hn⟩|⟨a',b',e,hn,hi⟩
  · exact absurd (by simp) hn
  · have h1:=(sp_hit (b:=b) h).1
    have h2:=(sp_hit (b:=b') hn).1
    rw[e,h2]at h1
    rw[hi,h1]
def cutP(s:ByteArray)(c:UInt8):ByteArray×ByteArray×Bool:=(⟨(Go.Lib.cut s.data.toList [c]).1.toArray⟩,⟨(Go.Lib.cut s.data.toList [c]).2.1.toArray⟩,(Go.Lib.cut s.data.toList [c]).2.2)
theorem cut_miss(c:UInt8)(l:List UInt8)(h:c ∉ l):Go.Lib.cut l [c]=(l,[],false):=by
  rcases cut_at c l with⟨hi,_⟩|⟨a,b,e,_,_⟩
  · unfold Go.Lib.cut
    rw[hi,if_neg (by decide)]
  · rw[e]at h
    exact absurd (by simp) h
theorem cut_hit(c:UInt8)(a b:List UInt8)(h:c ∉ a):Go.Lib.cut (a++c::b) [c]=(a,b,true):=by
  unfold Go.Lib.cut
  rw[index_one_at c a b h,if_pos (by omega),Int.toNat_natCast]
  simp
theorem ext_list(s:ByteArray)(i:Nat):(s.extract 0 i).data.toList=s.data.toList.take i/\(s.extract i s.size).data.toList=s.data.toList.drop i:=⟨Go.Lib.extract_from_zero s i,by
  rw[ByteArray.data_extract,Array.toList_extract,List.extract]
  exact List.take_of_length_le (by rw[List.length_drop,len_list];exact Nat.le_refl _)⟩
theorem ba_list{s:ByteArray}{l:List UInt8}(h:s.data.toList=l):s=⟨l.toArray⟩:=by
  rw[<-h]
theorem spec_l1Cut_l0 (s:ByteArray) (hs:s.size<=140737488351232) (c:UInt8):∀(n k i:Nat),i+n=s.size->n<k->c ∉ s.data.toList.take i->spec_l1Cut.l0 k s (c.toNat:Int) (i:Int)=some (cutP s c):=by
  intro n
  induction n with
  | zero=>
    intro k i hi hk hc
    obtain⟨k,rfl⟩:∃ m,k=m+1:=⟨k - 1,by omega⟩
    simp only[spec_l1Cut.l0]
    rw[List.take_of_length_le (by rw[len_list];omega)]at hc
    rw[if_neg (by omega)]
    unfold cutP
    rw[cut_miss c _ hc]
  | succ n ih=>
    intro k i hi hk hc
    obtain⟨k,rfl⟩:∃ m,k=m+1:=⟨k - 1,by omega⟩
    have hw:wrap64 ((i:Int)+1)=((i+1:Nat):Int):=by rw[w64 (by omega) (by omega)];omega
    obtain⟨x,hx,bx⟩:=bt_drop s i (by omega)
    have ht:s.data.toList.take (i+1)=s.data.toList.take i++[x]:=by
      have h2:s.data.toList[i]?=some x:=by
        have:=congrArg List.head? hx
        simpa[List.head?_drop]using this
      rw[List.take_add_one,h2]
      rfl
    simp only[spec_l1Cut.l0]
    rw[if_pos (by omega),if_pos (by omega),hw,bx]
    by_cases h:x=c
    · subst h
      have hl:s.data.toList=s.data.toList.take i++x::s.data.toList.drop (i+1):=by
        rw[<-hx]
        exact(List.take_append_drop i _).symm
      have hcut:Go.Lib.cut s.data.toList [x]=(s.data.toList.take i,s.data.toList.drop (i+1),true):=by
        conv=>lhs;rw[hl]
        exact cut_hit x _ _ hc
      rw[if_pos rfl,if_pos (by omega),if_pos (by omega),if_pos (by omega)]
      unfold cutP
      rw[hcut,Int.toNat_natCast,Int.toNat_natCast,ba_list (ext_list s i).1,ba_list (ext_list s (i+1)).2]
    · have hne:¬ ((x.toNat:Int)=(c.toNat:Int)):=by
        intro e
        exact h (UInt8.toNat_inj.1 (by omega))
      rw[if_neg hne]
      refine ih k (i+1) (by omega) (by omega) ?_
      rw[ht]
      simp only[List.mem_append,List.mem_singleton,not_or]
      exact⟨hc,fun e=>h e.symm⟩
theorem spec_l1Cut_eq(s:ByteArray)(hs:s.size<=140737488351232)(c:UInt8){k:Nat}(hk:s.size<k):spec_l1Cut.f k s (c.toNat:Int)=some (cutP s c):=spec_l1Cut_l0 s hs c s.size k 0 (by omega) hk (by simp)
theorem cutP_size(s:ByteArray)(c:UInt8):(cutP s c).1.size<=s.size/\(cutP s c).2.1.size<=s.size/\((cutP s c).2.2=true->(cutP s c).2.1.size<s.size):=by
  have hl:=len_list s
  unfold cutP
  rcases cut_at c s.data.toList with⟨_,hn⟩|⟨a,b,e,hn,_⟩
  · rw[cut_miss c _ hn]
    exact⟨Nat.le_of_eq hl,Nat.zero_le _,fun h=>by cases h⟩
  · have hlen:=congrArg List.length e
    rw[e,cut_hit c a b hn]
    simp only[List.length_append,List.length_cons]at hlen
    refine⟨?_,?_,fun _=>?_⟩
    · show a.length<=_
      omega
    · show b.length<=_
      omega
    · show b.length<_
      omega
def opW:List (List UInt8):=[[110,101,103],[110,111,116],[104,105,103,104],[108,111,119],[43],[45],[42],[47],[37],[38],[94],[124],[60,60],[62,62]]
def nodeT3(κ n:Int)(s:ByteArray):List UInt8:=if κ=1 then Go.Lib.itoa n else if κ=2 then s.data.toList else if κ=3 then 35::s.data.toList else opW.getD (κ - 4).toNat []
def nodeT(x:Nd):List UInt8:=nodeT3 x.1 x.2.1 x.2.2
theorem dec5 (x:Nat) (hx:x<100000):(Go.Lib.decDigits x).length<=5:=by
  have h:∀(m x:Nat),x<10 ^ (m+1)->(Go.Lib.decDigits x).length<=m+1:=by
    intro m
    induction m with
    | zero=>
      intro x hx
      rw[Go.Lib.decDigits,dif_pos (by simpa using hx)]
      simp
    | succ m ih=>
      intro x hx
      rw[Go.Lib.decDigits]
      split
      · simp
      · have:=ih (x / 10) (by
          rw[Nat.pow_succ,Nat.mul_comm]at hx
          exact Nat.div_lt_of_lt_mul hx)
        simp only[List.length_append,List.length_singleton]
        omega
  exact h 4 x (by omega)
theorem opW_cases{κ:Int}(h:4<=κ/\κ<=17):κ=4\/κ=5\/κ=6\/κ=7\/κ=8\/κ=9\/κ=10\/κ=11\/κ=12\/κ=13\/κ=14\/κ=15\/κ=16\/κ=17:=by omega
theorem nodeOk_in{x:Nd}(h:nodeOk x=true):(x.1=1/\0<=x.2.1/\x.2.1<=65535)\/((x.1=2\/x.1=3)/\x.2.2.size<=16)\/(4<=x.1/\x.1<=17):=by
  unfold nodeOk at h
  by_cases h1:x.1=1
  · rw[if_pos h1,Bool.and_eq_true,inR_iff]at h
    exact .inl ⟨h1,h.1⟩
  · by_cases h2:x.1=2\/x.1=3
    · rw[if_neg h1,if_pos h2,Bool.and_eq_true]at h
      have:=h.2
      unfold nameOk at this
      rw[Bool.and_eq_true,inR_iff]at this
      exact .inr (.inl ⟨h2,by omega⟩)
    · rw[if_neg h1,if_neg h2,Bool.and_eq_true,inR_iff]at h
      exact .inr (.inr h.1)
theorem nodeT_len{x:Nd}(h:nodeOk x=true):(nodeT x).length<=17:=by
  unfold nodeT nodeT3
  rcases nodeOk_in h with⟨h1,h2,h3⟩|⟨h1,h2⟩|h1
  · rw[if_pos h1]
    unfold Go.Lib.itoa
    rw[if_neg (by omega)]
    have:=dec5 x.2.1.toNat (by omega)
    omega
  · have hl:x.2.2.data.toList.length=x.2.2.size:=by rw[Array.length_toList];rfl
    rcases h1 with h1|h1
    · rw[if_neg (by omega),if_pos h1]
      omega
    · rw[if_neg (by omega),if_neg (by omega),if_pos h1,List.length_cons]
      omega
  · rw[if_neg (by omega),if_neg (by omega),if_neg (by omega)]
    rcases opW_cases h1 with e|e|e|e|e|e|e|e|e|e|e|e|e|e <;> rw[e] <;> decide
theorem exprGo_all:∀(l:List Nd) (d:Int),exprGo l d=true->∀ x ∈ l,nodeOk x=true
  |[],_,_=>by simp
  | x::r,d,h=>by
    rw[exprGo,Bool.and_eq_true,Bool.and_eq_true]at h
    intro y hy
    rcases List.mem_cons.1 hy with rfl|hy
    · exact h.1
    · exact exprGo_all r _ h.2.2 y hy
theorem rd_words{κ:Int}(h:4<=κ/\κ<=17):∃ W,spec_l2Words.f=some W/\W.length=18/\rdOf ByteArray.empty W κ=⟨(opW.getD (κ - 4).toNat []).toArray⟩:=by
  refine⟨_,rfl,rfl,?_⟩
  rcases opW_cases h with e|e|e|e|e|e|e|e|e|e|e|e|e|e <;> rw[e] <;> rfl
theorem spec_ExprText_j1(l:List S124)(hl:l.length<=30)(i:Nat)(hi:i<l.length)(acc:ByteArray)(ha:acc.size<=1000)(hx:nodeOk (nd_ (l.getD i z124))=true){k:Nat}(hk:30<=k) :
    spec_ExprText.j1 (k+1) l acc (i:Int)=spec_ExprText.l0 k l (acc++⟨(nodeT (nd_ (l.getD i z124))).toArray⟩) ((i+1:Nat):Int):=by
  have hrd:rd_T124 l (i:Int)=l.getD i z124:=by unfold rd_T124;rw[Int.toNat_natCast]
  simp only[spec_ExprText.j1]
  rw[if_pos (by omega),if_pos (by omega),hrd,up1 (by omega:i<l.length) (by omega)]
  have hT:=nodeT_len hx
  have hin:=nodeOk_in hx
  generalize l.getD i z124=x at hT hin
  rw[show nodeT (nd_ x)=nodeT3 x.f0 x.f1 x.f2 from rfl]at hT ⊢
  replace hin:(x.f0=1/\0<=x.f1/\x.f1<=65535)\/((x.f0=2\/x.f0=3)/\x.f2.size<=16)\/(4<=x.f0/\x.f0<=17):=hin
  unfold nodeT3 at hT ⊢
  rcases hin with⟨h1,h2,h3⟩|⟨h1,h2⟩|h1
  · rw[if_pos h1]at hT ⊢
    rw[if_pos h1]
    obtain⟨m,hm⟩:∃ m:Nat,x.f1=(m:Int):=⟨x.f1.toNat,by omega⟩
    rw[hm]at hT ⊢
    rw[spec_l1Dec_pos m (by omega) (by omega)]
    simp only[Option.bind_some]
    rw[if_pos (by rw[bytes_size (Go.Lib.itoa (m:Int))];omega)]
  · have hd:(⟨x.f2.data.toList.toArray⟩:ByteArray)=x.f2:=rfl
    rcases h1 with h1|h1
    · rw[if_neg (by omega),if_pos h1,if_pos (by omega),if_neg (by omega),if_pos h1,hd]
    · have hz:(acc++(⟨#[35]⟩:ByteArray)).size=acc.size+1:=by rw[ByteArray.size_append];rfl
      rw[if_neg (by omega),if_neg (by omega),if_pos h1,if_pos (by omega),if_pos (by omega),if_neg (by omega),if_neg (by omega),if_pos h1]
      refine congrArg (fun z=>spec_ExprText.l0 k l z _) ?_
      refine ByteArray.ext (Array.toList_inj.1 ?_)
      simp[ByteArray.data_append,Array.toList_append]
  · rw[if_neg (by omega),if_neg (by omega),if_neg (by omega)]at hT
    obtain⟨W,hW,hWl,hr⟩:=rd_words h1
    rw[if_neg (by omega),if_neg (by omega),if_neg (by omega),hW,if_neg (by omega),if_neg (by omega),if_neg (by omega)]
    simp only[Option.bind_some]
    rw[hr,if_pos (by omega),if_pos (by omega),if_pos (by rw[bytes_size (opW.getD (x.f0 - 4).toNat [])];omega)]
theorem spec_ExprText_l0(l:List S124)(hl:l.length<=30)(hok:∀ x ∈ l,nodeOk (nd_ x)=true):∀(n k i:Nat) (acc:ByteArray),i+n=l.length->1<=i->acc.size<=20*i->2*n+40<k->spec_ExprText.l0 k l acc (i:Int)=some ⟨(acc.data.toList++Go.Lib.joinTail [32] (((l.drop i).map nd_).map nodeT)).toArray⟩:=by
  intro n
  induction n with
  | zero=>
    intro k i acc hi h1 ha hk
    obtain⟨k,rfl⟩:∃ m,k=m+1:=⟨k - 1,by omega⟩
    simp only[spec_ExprText.l0]
    rw[if_neg (by omega),List.drop_eq_nil_of_le (by omega)]
    simp[Go.Lib.joinTail]
  | succ n ih=>
    intro k i acc hi h1 ha hk
    obtain⟨k,rfl⟩:∃ m,k=m+2:=⟨k - 2,by omega⟩
    have hx:=hok _ (getD_mem z124 l i (by omega))
    have hz:(acc++(⟨#[32]⟩:ByteArray)).size=acc.size+1:=by rw[ByteArray.size_append];rfl
    have hT:=nodeT_len hx
    rw[spec_ExprText.l0,if_pos (by omega),if_pos (by omega),if_pos (by omega),spec_ExprText_j1 l hl i (by omega) _ (by omega) hx (by omega)]
    rw[ih k (i+1) _ (by omega) (by omega) (by rw[ByteArray.size_append,hz,bytes_size (nodeT (nd_ (l.getD i z124)))];omega) (by omega),drop_at z124 l i (by omega),List.map_cons,List.map_cons,jtail_cons]
    simp[ByteArray.data_append,Array.toList_append]
def exprT(l:List Nd):ByteArray:=if exprOk l=true then⟨(Go.Lib.join (l.map nodeT) [32]).toArray⟩else⟨#[]⟩
theorem exprOk_parts{l:List Nd}(h:exprOk l=true):l.length<=30/\1<=l.length/\∀ x ∈ l,nodeOk x=true:=by
  unfold exprOk at h
  rw[Bool.and_eq_true,decide_eq_true_eq]at h
  refine⟨by omega,?_,exprGo_all l 0 h.2⟩
  cases l with
  |nil=>exact absurd h.2 (by decide)
  |cons x r=>simp
theorem spec_ExprText_eq(l:List S124)(hl:l.length<=1048576){k:Nat}(hk:l.length+200<=k):spec_ExprText.f k l=some (exprT (l.map nd_)):=by
  unfold spec_ExprText.f exprT
  rw[spec_ExprOk_eq l hl (by omega)]
  simp only[Option.bind_some]
  by_cases h:exprOk (l.map nd_)=true
  · rw[if_pos h,if_pos h]
    obtain⟨h1,h2,h3⟩:=exprOk_parts h
    rw[List.length_map]at h1 h2
    have hok:∀ x ∈ l,nodeOk (nd_ x)=true:=fun x hx=>h3 _ (List.mem_map_of_mem hx)
    obtain⟨k,rfl⟩:∃ m,k=m+2:=⟨k - 2,by omega⟩
    have hx:=hok _ (getD_mem z124 l 0 (by omega))
    have hT:=nodeT_len hx
    have hj:=spec_ExprText_j1 l h1 0 (by omega) ⟨#[]⟩ (by show 0<=1000;omega) hx (k:=k) (by omega)
    rw[show((0:Nat):Int)=0 from rfl]at hj
    rw[spec_ExprText.l0,if_pos (by omega),if_neg (by omega),hj,spec_ExprText_l0 l h1 hok (l.length - 1) k 1 _ (by omega) (by omega) (by rw[ByteArray.size_append,bytes_size (nodeT (nd_ (l.getD 0 z124))),show(⟨#[]⟩:ByteArray).size=0 from rfl];omega) (by omega)]
    have hd:=drop_at z124 l 0 (by omega)
    rw[List.drop_zero]at hd
    have hm:(l.map nd_).map nodeT=nodeT (nd_ (l.getD 0 z124))::(((l.drop 1).map nd_).map nodeT):=by
      conv=>lhs;rw[hd]
      rfl
    rw[hm,Go.Lib.join_cons]
    simp[ByteArray.data_append,Array.toList_append]
  · rw[if_neg h,if_neg h]
theorem opWords_eq:impl_opWords.f=some (opW.map fun l=>(⟨l.toArray⟩:ByteArray)):=by
  have hs:∀(s:ByteArray),s.size<=1000->strings_Split.f s ⟨#[32]⟩=some ((sp 32 s.data.toList).map fun l=>(⟨l.toArray⟩:ByteArray)):=by
    intro s hz
    unfold strings_Split.f
    rw[if_pos (by omega),if_pos (by show 1<=1;omega)]
    refine congrArg some (map_data _ _ ?_)
    rw[Go.Lib.splitB_data]
    exact splitK_sp 32 _ _ rfl
  unfold impl_opWords.f
  rw[hs _ (by decide)]
  rfl
theorem impl_exprText_l0 (l:List S124) (hl:l.length<=30) (hok:∀ x ∈ l,nodeOk (nd_ x)=true):∀(n k i:Nat) (acc:List ByteArray),i+n=l.length->acc.length=i->n<k->impl_exprText.l0 k acc l (l.length:Int) (i:Int)=strings_Join.f (acc++(((l.drop i).map nd_).map nodeT).map fun l=>(⟨l.toArray⟩:ByteArray)) ⟨#[32]⟩:=by
  have hb0:∀ o:Option ByteArray,(o.bind fun t=>some t)=o:=fun o=>by cases o <;> rfl
  intro n
  induction n with
  | zero=>
    intro k i acc hi ha hk
    obtain⟨k,rfl⟩:∃ m,k=m+1:=⟨k - 1,by omega⟩
    simp only[impl_exprText.l0]
    rw[if_neg (by omega),List.drop_eq_nil_of_le (by omega),hb0]
    simp
  | succ n ih=>
    intro k i acc hi ha hk
    obtain⟨k,rfl⟩:∃ m,k=m+1:=⟨k - 1,by omega⟩
    have hx:=hok _ (getD_mem z124 l i (by omega))
    have hrd:rd_T124 l (i:Int)=l.getD i z124:=by unfold rd_T124;rw[Int.toNat_natCast]
    have hlen:acc.length<8796093022208:=by omega
    have next:∀(t:ByteArray),t=⟨(nodeT (nd_ (l.getD i z124))).toArray⟩->impl_exprText.l0 k (acc++[t]) l (l.length:Int) ((i+1:Nat):Int)=strings_Join.f (acc++(((l.drop i).map nd_).map nodeT).map fun l=>(⟨l.toArray⟩:ByteArray)) ⟨#[32]⟩:=by
      intro t ht
      rw[ih k (i+1) _ (by omega) (by rw[List.length_append,List.length_singleton];omega) (by omega),drop_at z124 l i (by omega),ht]
      simp
    simp only[impl_exprText.l0]
    rw[if_pos (by omega),if_pos (by omega),if_pos (by omega),hrd,up1 (by omega:i<l.length) (by omega)]
    have hin:=nodeOk_in hx
    generalize l.getD i z124=x at hin next
    rw[show nodeT (nd_ x)=nodeT3 x.f0 x.f1 x.f2 from rfl]at next
    replace hin:(x.f0=1/\0<=x.f1/\x.f1<=65535)\/((x.f0=2\/x.f0=3)/\x.f2.size<=16)\/(4<=x.f0/\x.f0<=17):=hin
    unfold nodeT3 at next
    rcases hin with⟨h1,h2,h3⟩|⟨h1,h2⟩|h1
    · rw[if_pos h1]at next ⊢
      unfold impl_decimal.f strconv_FormatInt.f
      rw[if_pos rfl,if_pos (by omega),if_pos (by omega)]
      simp only[Option.bind_some]
      rw[if_pos hlen]
      exact next _ rfl
    · have hd:(⟨x.f2.data.toList.toArray⟩:ByteArray)=x.f2:=rfl
      rcases h1 with h1|h1
      · rw[if_neg (by omega),if_pos h1,if_pos hlen]
        rw[if_neg (by omega),if_pos h1]at next
        exact next _ rfl
      · rw[if_neg (by omega),if_neg (by omega),if_pos h1,if_pos (by omega),if_pos hlen]
        rw[if_neg (by omega),if_neg (by omega),if_pos h1]at next
        refine next _ ?_
        refine ByteArray.ext (Array.toList_inj.1 ?_)
        simp[ByteArray.data_append,Array.toList_append]
    · rw[if_neg (by omega),if_neg (by omega),if_neg (by omega),opWords_eq]
      rw[if_neg (by omega),if_neg (by omega),if_neg (by omega)]at next
      have hw:wrap64 (x.f0 - 4)=x.f0 - 4:=w64 (by omega) (by omega)
      simp only[Option.bind_some]
      have hwl:((opW.map fun l=>(⟨l.toArray⟩:ByteArray)).length:Int)=14:=rfl
      rw[hw,hwl,if_pos (by omega),if_pos (by omega),if_pos hlen]
      refine next _ ?_
      rcases opW_cases h1 with e|e|e|e|e|e|e|e|e|e|e|e|e|e <;> rw[e] <;> rfl
theorem join_len_le(c:UInt8)(m:Nat):∀ xs:List (List UInt8),(∀ x ∈ xs,x.length<=m)->(Go.Lib.join xs [c]).length<=(m+1)*xs.length
  |[],_=>by simp[Go.Lib.join_nil]
  | [x],h=>by
    have:=h x List.mem_cons_self
    rw[Go.Lib.join_one]
    simp
    omega
  | x::y::r,h=>by
    have h1:=h x List.mem_cons_self
    have h2:=join_len_le c m (y::r) (fun z hz=>h z (List.mem_cons_of_mem _ hz))
    rw[join_cons2,List.length_append,List.length_append,List.length_singleton]
    rw[List.length_cons (a:=x),Nat.mul_succ]
    omega
theorem impl_exprText_eq(l:List S124)(h:exprOk (l.map nd_)=true){k:Nat}(hk:40<=k):impl_exprText.f k l=some (exprT (l.map nd_)):=by
  unfold exprT
  rw[if_pos h]
  obtain⟨h1,h2,h3⟩:=exprOk_parts h
  have h1':=h1
  rw[List.length_map]at h1 h2
  have hok:∀ x ∈ l,nodeOk (nd_ x)=true:=fun x hx=>h3 _ (List.mem_map_of_mem hx)
  have hj:=impl_exprText_l0 l h1 hok l.length k 0 [] (by omega) rfl (by omega)
  rw[show((0:Nat):Int)=0 from rfl,List.drop_zero,List.nil_append]at hj
  unfold impl_exprText.f
  rw[hj]
  have hlen:=join_len_le 32 17 ((l.map nd_).map nodeT) (by
    intro x hx
    obtain⟨y,hy,rfl⟩:=List.mem_map.1 hx
    exact nodeT_len (h3 y hy))
  rw[List.length_map,List.length_map]at hlen
  have hd:((((l.map nd_).map nodeT).map fun l=>(⟨l.toArray⟩:ByteArray)).map (·.data.toList))=(l.map nd_).map nodeT:=by
    rw[List.map_map]
    conv=>rhs;rw[<-List.map_id ((l.map nd_).map nodeT)]
    apply List.map_congr_left
    intro x _
    rfl
  have e32:(⟨#[32]⟩:ByteArray).data.toList=[32]:=rfl
  unfold strings_Join.f
  rw[hd,e32,if_pos (by simp only[List.length_map];omega),if_pos (by omega)]
def patOk(n:Int)(x:S79):Bool:=inR x.f1 1 3&&(inR x.f0 0 (n - (if x.f1=2 then 2 else 1))&&exprOk (x.f2.map nd_))
def secBase(kd:Int):Int:=if kd=0 then 0 else if kd=1 then 256 else 49152
def isZero(b:Int):Bool:=b==0
def secOk(nm:ByteArray)(kd bk ad:Int)(dt:ByteArray)(l:List S79):Bool:=
  nameOk nm&&(inR kd 0 2&&(decide (dt.size<=256)&&(decide (l.length<=256)&&((decide (ad=-1)||inR ad (secBase kd) (secBase kd+256 - dt.size))&&((decide (bk=-1)||(decide (kd=1)&&inR bk 1 15))&&((l.all (patOk dt.size)&&(decide (kd≠2)||l.isEmpty))&&(decide (kd≠2)||allB isZero dt dt.size 0)))))))
theorem spec_l9Patch_eq (x:S79) (n:Int) (h0:0<=n) (h1:n<=1048576) (hx:x.f2.length<=1048576) {k:Nat} (hk:1100000<=k):spec_l9Patch.f k x.f0 x.f1 x.f2 n=some (patOk n x):=by
  unfold spec_l9Patch.f patOk
  simp only[spec_l1In_eq,Option.bind_some]
  rw[spec_ExprOk_eq x.f2 hx (by omega),w64 (n:=n - 2) (by omega) (by omega),w64 (n:=n - 1) (by omega) (by omega)]
  by_cases c:x.f1=2
  · rw[if_pos c,if_pos c]
    by_cases c1:inR x.f1 1 3=true
    · rw[if_pos c1,c1]
      by_cases c2:inR x.f0 0 (n - 2)=true
      · rw[if_pos c2,c2]
        simp
      · rw[if_neg c2,Bool.eq_false_iff.2 c2]
        simp
    · rw[if_neg c1,Bool.eq_false_iff.2 c1]
      simp
  · rw[if_neg c,if_neg c]
    by_cases c1:inR x.f1 1 3=true
    · rw[if_pos c1,c1]
      by_cases c2:inR x.f0 0 (n - 1)=true
      · rw[if_pos c2,c2]
        simp
      · rw[if_neg c2,Bool.eq_false_iff.2 c2]
        simp
    · rw[if_neg c1,Bool.eq_false_iff.2 c1]
      simp
theorem spec_SectionOk_l1 (nm:ByteArray) (kd bk ad:Int) (dt:ByteArray) (l:List S79) (hd:dt.size<=1048576):∀(n k i:Nat),i+n=dt.size->2*n+2<=k->spec_SectionOk.l1 k (i:Int) nm kd bk ad dt l=some (decide (kd≠2)||allB isZero dt n i):=by
  intro n
  induction n with
  | zero=>
    intro k i hi hk
    obtain⟨k,rfl⟩:∃ m,k=m+2:=⟨k - 2,by omega⟩
    simp only[spec_SectionOk.l1,spec_SectionOk.j5]
    rw[if_neg (by omega),if_neg (by decide)]
    simp[allB]
  | succ n ih=>
    intro k i hi hk
    obtain⟨k,rfl⟩:∃ m,k=m+2:=⟨k - 2,by omega⟩
    simp only[spec_SectionOk.l1,spec_SectionOk.j5]
    rw[if_pos (by omega)]
    by_cases c:kd=2
    · rw[if_pos (by simpa using c),if_pos (by omega),if_pos (by omega),up1 (by omega:i<dt.size) (by omega)]
      by_cases c1:bt dt (i:Int)=0
      · rw[if_pos c1,ih k (i+1) (by omega) (by omega)]
        simp[allB,isZero,c1]
      · rw[if_neg c1]
        simp[allB,isZero,c1,c]
    · rw[if_neg (by simpa using c)]
      simp[c]
theorem spec_SectionOk_l0 (nm:ByteArray) (kd bk ad:Int) (dt:ByteArray) (l:List S79) (hd:dt.size<=1048576) (hl:l.length<=1048576) (hx:∀ x ∈ l,x.f2.length<=1048576):∀(n k i:Nat),i+n=l.length->n+2200000<=k →
    spec_SectionOk.l0 k (dt.size:Int) (i:Int) nm kd bk ad dt l=some (((l.drop i).all (patOk dt.size)&&(decide (kd≠2)||(l.drop i).isEmpty))&&(decide (kd≠2)||allB isZero dt dt.size 0)):=by
  intro n
  induction n with
  | zero=>
    intro k i hi hk
    obtain⟨k,rfl⟩:∃ m,k=m+1:=⟨k - 1,by omega⟩
    simp only[spec_SectionOk.l0]
    rw[if_neg (by omega),List.drop_eq_nil_of_le (by omega)]
    have:=spec_SectionOk_l1 nm kd bk ad dt l hd dt.size k 0 (by omega) (by omega)
    rw[show((0:Nat):Int)=0 from rfl]at this
    rw[this]
    simp
  | succ n ih=>
    intro k i hi hk
    obtain⟨k,rfl⟩:∃ m,k=m+1:=⟨k - 1,by omega⟩
    have hrd:rd_T79 l (i:Int)=l.getD i z79:=by unfold rd_T79;rw[Int.toNat_natCast]
    have hm:=hx _ (getD_mem z79 l i (by omega))
    simp only[spec_SectionOk.l0]
    rw[if_pos (by omega),if_pos (by omega),hrd,drop_at z79 l i (by omega)]
    generalize l.getD i z79=x at hm ⊢
    rw[spec_l9Patch_eq x _ (by omega) (by omega) hm (by omega)]
    simp only[Option.bind_some]
    by_cases c:patOk (dt.size:Int) x=true
    · rw[if_pos c]
      by_cases c1:kd=2
      · rw[if_pos c1]
        simp[c1]
      · rw[if_neg c1,up1 (by omega:i<l.length) (by omega),ih k (i+1) (by omega) (by omega)]
        simp[c,c1]
    · rw[if_neg c]
      simp[c]
theorem spec_SectionOk_eq (nm:ByteArray) (kd bk ad:Int) (dt:ByteArray) (l:List S79) (hd:dt.size<=1048576) (hl:l.length<=1048576) (hx:∀ x ∈ l,x.f2.length<=1048576) {k:Nat} (hk:3300000<=k):spec_SectionOk.f k nm kd bk ad dt l=some (secOk nm kd bk ad dt l):=by
  obtain⟨k,rfl⟩:∃ m,k=m+3:=⟨k - 3,by omega⟩
  have L0:=spec_SectionOk_l0 nm kd bk ad dt l hd hl hx l.length k 0 (by omega) (by omega)
  rw[show((0:Nat):Int)=0 from rfl,List.drop_zero]at L0
  unfold spec_SectionOk.f secOk
  simp only[spec_SectionOk.j0,spec_SectionOk.j1,spec_SectionOk.j2,spec_l1In_eq,spec_NameOk_eq nm (show 20<=k+3 by omega),Option.bind_some,L0,spec_l9Base.f]
  by_cases c1:nameOk nm=true
  · rw[if_pos c1,c1]
    by_cases c2:inR kd 0 2=true
    · rw[if_pos c2,c2]
      by_cases c3:dt.size<=256
      · rw[if_neg (show¬ (dt.size:Int) > 256 by omega),decide_eq_true c3]
        by_cases c4:l.length<=256
        · rw[decide_eq_false (show¬ (l.length:Int) > 256 by omega),if_neg (by decide),decide_eq_true c4]
          obtain⟨hk0,hk2⟩:=inR_iff.1 c2
          have hb:(if kd=0 then some (0:Int)else if kd=1 then some 256 else some 49152)=some (secBase kd):=by
            unfold secBase
            by_cases e0:kd=0
            · rw[if_pos e0,if_pos e0]
            · rw[if_neg e0,if_neg e0]
              by_cases e1:kd=1
              · rw[if_pos e1,if_pos e1]
              · rw[if_neg e1,if_neg e1]
          have hbr:0<=secBase kd/\secBase kd<=49152:=by
            unfold secBase
            split
            · omega
            · split <;> omega
          rw[hb]
          simp only[Option.bind_some]
          rw[w64 (n:=secBase kd+256) (by omega) (by omega),w64 (n:=secBase kd+256 - (dt.size:Int)) (by omega) (by omega)]
          by_cases c5:ad=-1
          · rw[if_pos c5,if_neg (by decide),decide_eq_true c5]
            by_cases c6:bk=-1
            · rw[if_pos c6,if_neg (by decide),decide_eq_true c6]
              simp
            · rw[if_neg c6,decide_eq_false c6]
              by_cases c7:kd=1
              · rw[if_pos c7,decide_eq_true c7]
                cases inR bk 1 15 <;> simp
              · rw[if_neg c7,decide_eq_false c7]
                simp
          · rw[if_neg c5,decide_eq_false c5]
            cases c8:inR ad (secBase kd) (secBase kd+256 - (dt.size:Int))with
            |false=>simp
            | true=>
              simp only[Bool.not_true]
              rw[if_neg (by decide)]
              by_cases c6:bk=-1
              · rw[if_pos c6,if_neg (by decide),decide_eq_true c6]
                simp
              · rw[if_neg c6,decide_eq_false c6]
                by_cases c7:kd=1
                · rw[if_pos c7,decide_eq_true c7]
                  cases inR bk 1 15 <;> simp
                · rw[if_neg c7,decide_eq_false c7]
                  simp
        · rw[decide_eq_true (show(l.length:Int) > 256 by omega),if_pos rfl,decide_eq_false c4]
          simp
      · rw[if_pos (show(dt.size:Int) > 256 by omega),decide_eq_false c3]
        simp
    · rw[if_neg c2,Bool.eq_false_iff.2 c2]
      simp
  · rw[if_neg c1,Bool.eq_false_iff.2 c1]
    simp
theorem zeros_drop(s:ByteArray):∀(n i:Nat),i+n=s.size->(allB isZero s n i=true↔s.data.toList.drop i=Go.Lib.repeatL [0] n):=by
  intro n
  induction n with
  | zero=>
    intro i hi
    rw[drop_end s i (by omega)]
    simp[allB,Go.Lib.repeatL]
  | succ n ih=>
    intro i hi
    obtain⟨x,h1,h2⟩:=bt_drop s i (by omega)
    rw[h1]
    simp only[allB,Go.Lib.repeatL,List.singleton_append,List.cons.injEq,Bool.and_eq_true,ih (i+1) (by omega)]
    rw[h2]
    have:isZero (x.toNat:Int)=true↔x=0:=by
      unfold isZero
      rw[beq_iff_eq]
      exact nat_eq x 0 (by decide)
    rw[this]
theorem zeros_eq(s:ByteArray):(s.toList=(⟨(Go.Lib.repeatL [0] s.size).toArray⟩:ByteArray).toList)↔allB isZero s s.size 0=true:=by
  rw[zeros_drop s s.size 0 (by omega),List.drop_zero]
  constructor
  · intro h
    have:=toList_inj h
    conv=>lhs;rw[this]
  · intro h
    have:s=(⟨(Go.Lib.repeatL [0] s.size).toArray⟩:ByteArray):=by
      conv=>lhs;rw[show s=⟨s.data⟩from rfl,<-Array.toArray_toList (xs:=s.data),h]
    rw[<-this]
theorem impl_isPatch_eq (nm:ByteArray) (kd bk ad:Int) (dt:ByteArray) (l:List S79) (x:S79) (hd:dt.size<=1048576) {k:Nat} (hk:100<=k):impl_isPatch.f k nm kd bk ad dt l x.f0 x.f1 x.f2=some (patOk dt.size x):=by
  unfold impl_isPatch.f patOk
  simp only[impl_within_eq,Option.bind_some]
  rw[impl_ExprOk_eq x.f2 (by omega),w64 (n:=(dt.size:Int) - 2) (by omega) (by omega),w64 (n:=(dt.size:Int) - 1) (by omega) (by omega)]
  by_cases c:x.f1=2
  · rw[if_pos c,if_pos c]
    by_cases c1:inR x.f1 1 3=true
    · rw[if_pos c1,c1]
      by_cases c2:inR x.f0 0 ((dt.size:Int) - 2)=true
      · rw[if_pos c2,c2]
        simp
      · rw[if_neg c2,Bool.eq_false_iff.2 c2]
        simp
    · rw[if_neg c1,Bool.eq_false_iff.2 c1]
      simp
  · rw[if_neg c,if_neg c]
    by_cases c1:inR x.f1 1 3=true
    · rw[if_pos c1,c1]
      by_cases c2:inR x.f0 0 ((dt.size:Int) - 1)=true
      · rw[if_pos c2,c2]
        simp
      · rw[if_neg c2,Bool.eq_false_iff.2 c2]
        simp
    · rw[if_neg c1,Bool.eq_false_iff.2 c1]
      simp
theorem impl_Patch_go(nm:ByteArray)(kd bk ad:Int)(dt:ByteArray)(l:List S79)(hd:dt.size<=1048576){k:Nat}(hk:100<=k):∀(y:List S79) (i:Int),0<=i->∃ r,impl_Patch.go k nm kd bk ad dt l y i=some r/\decide (0<=r)=!(y.all (patOk dt.size))
  |[],i,_=>⟨-1,rfl,rfl⟩
  | x :: r,i,h=>by
    rw[impl_Patch.go,impl_isPatch_eq nm kd bk ad dt l x hd hk]
    simp only[Option.bind_some]
    by_cases c:patOk (dt.size:Int) x=true
    · rw[if_pos c]
      obtain⟨j,hj,hd2⟩:=impl_Patch_go nm kd bk ad dt l hd hk r (i+1) (by omega)
      exact⟨j,hj,by rw[hd2];simp[c]⟩
    · rw[if_neg c]
      exact⟨i,rfl,by rw[decide_eq_true h];simp[c]⟩
theorem impl_Patch_eq(nm:ByteArray)(kd bk ad:Int)(dt:ByteArray)(l:List S79)(hd:dt.size<=1048576){k:Nat}(hk:100<=k):impl_Patch.f k l nm kd bk ad dt l=some (!(l.all (patOk dt.size))):=by
  unfold impl_Patch.f
  obtain⟨r,h1,h2⟩:=impl_Patch_go nm kd bk ad dt l hd hk l 0 (by omega)
  rw[h1]
  simp only[Option.bind_some]
  rw[h2]
theorem impl_SectionOk_eq (nm:ByteArray) (kd bk ad:Int) (dt:ByteArray) (l:List S79) (hd:dt.size<=1048576) (hl:l.length<=1048576) {k:Nat} (hk:3300000<=k):impl_SectionOk.f k nm kd bk ad dt l=some (secOk nm kd bk ad dt l):=by
  obtain⟨k,rfl⟩:∃ m,k=m+2:=⟨k - 2,by omega⟩
  have hz:=zeros_eq dt
  unfold impl_SectionOk.f secOk
  simp only[impl_SectionOk.j0,impl_SectionOk.j1,impl_within_eq,impl_NameOk_eq nm (show 20<=k+2 by omega),impl_noughts_eq dt.size hd,Option.bind_some,impl_Patch_eq nm kd bk ad dt l hd (show 100<=k by omega),impl_baseOf.f]
  by_cases c1:nameOk nm=true
  · rw[if_pos c1,c1]
    by_cases c2:inR kd 0 2=true
    · rw[if_pos c2,c2]
      by_cases c3:dt.size<=256
      · rw[if_neg (show¬ (dt.size:Int) > 256 by omega),decide_eq_true c3]
        by_cases c4:l.length<=256
        · rw[decide_eq_false (show¬ (l.length:Int) > 256 by omega),if_neg (by decide),decide_eq_true c4]
          obtain⟨hk0,hk2⟩:=inR_iff.1 c2
          have hb:(if kd=1 then some (256:Int)else if kd=2 then some 49152 else some 0)=some (secBase kd):=by
            unfold secBase
            by_cases e1:kd=1
            · rw[if_pos e1,if_neg (by omega),if_pos e1]
            · rw[if_neg e1]
              by_cases e2:kd=2
              · rw[if_pos e2,if_neg (by omega),if_neg (by omega)]
              · rw[if_neg e2,if_pos (by omega)]
          have hbr:0<=secBase kd/\secBase kd<=49152:=by
            unfold secBase
            split
            · omega
            · split <;> omega
          rw[hb]
          simp only[Option.bind_some]
          rw[w64 (n:=secBase kd+256) (by omega) (by omega),w64 (n:=secBase kd+256 - (dt.size:Int)) (by omega) (by omega)]
          have he:l.isEmpty=decide (¬ (l.length:Int) > 0):=by
            cases l with
            |nil=>rfl
            |cons x r=>simp
          by_cases e2:kd=2
          · rw[if_pos e2]
            simp only[hz,he]
            by_cases c9:allB isZero dt dt.size 0=true
            · rw[if_pos c9,c9]
              by_cases c10:(l.length:Int) > 0
              · have hl0:0<l.length:=by omega
                have hne:l≠[]:=by
                  intro h
                  rw[h]at hl0
                  exact absurd hl0 (by decide)
                simp[e2,hl0,hne]
              · simp only[c10,e2]
                cases hp:l.all (patOk (dt.size:Int)) <;> by_cases c5:ad=-1 <;> by_cases c6:bk=-1 <;> cases c8:inR ad (secBase 2) (secBase 2+256 - (dt.size:Int)) <;> simp_all
            · rw[if_neg c9,Bool.eq_false_iff.2 c9]
              simp[e2]
          · rw[if_neg e2]
            cases hp:l.all (patOk (dt.size:Int)) <;> by_cases c5:ad=-1 <;> by_cases c6:bk=-1 <;> by_cases c7:kd=1 <;> cases c8:inR ad (secBase kd) (secBase kd+256 - (dt.size:Int)) <;> cases c11:inR bk 1 15 <;> simp_all
        · rw[decide_eq_true (show(l.length:Int) > 256 by omega),if_pos rfl,decide_eq_false c4]
          simp
      · rw[if_pos (show(dt.size:Int) > 256 by omega),decide_eq_false c3]
        simp
    · rw[if_neg c2,Bool.eq_false_iff.2 c2]
      simp
  · rw[if_neg c1,Bool.eq_false_iff.2 c1]
    simp
theorem laws_eqOSymS_l0(l:List S72)(hl:l.length<=1048576):∀(n k i:Nat),i+n=l.length->n<k->laws_eqOSymS.l0 k l l (i:Int)=some true:=by
  intro n
  induction n with
  | zero=>
    intro k i hi hk
    obtain⟨k,rfl⟩:∃ m,k=m+1:=⟨k - 1,by omega⟩
    simp only[laws_eqOSymS.l0]
    rw[if_neg (by omega)]
  | succ n ih=>
    intro k i hi hk
    obtain⟨k,rfl⟩:∃ m,k=m+1:=⟨k - 1,by omega⟩
    simp only[laws_eqOSymS.l0,laws_eqOSym.f,if_true,bne_self_eq_false,Bool.false_eq_true,if_false,Option.bind_some]
    rw[if_pos (by omega),if_pos (by omega),if_pos (by omega),up1 (by omega:i<l.length) (by omega)]
    exact ih k (i+1) (by omega) (by omega)
theorem laws_eqENodeSS_l0(l:List (List S124))(hl:l.length<=1048576)(hx:∀ x ∈ l,x.length<=1048576):∀(n k i:Nat),i+n=l.length->n+1048578<=k->laws_eqENodeSS.l0 k l l (i:Int)=some true:=by
  intro n
  induction n with
  | zero=>
    intro k i hi hk
    obtain⟨k,rfl⟩:∃ m,k=m+1:=⟨k - 1,by omega⟩
    simp only[laws_eqENodeSS.l0]
    rw[if_neg (by omega)]
  | succ n ih=>
    intro k i hi hk
    obtain⟨k,rfl⟩:∃ m,k=m+1:=⟨k - 1,by omega⟩
    have hrd:rd_L3 l (i:Int)=l.getD i []:=by unfold rd_L3;rw[Int.toNat_natCast]
    have hm:=hx _ (getD_mem [] l i (by omega))
    simp only[laws_eqENodeSS.l0]
    rw[if_pos (by omega),if_pos (by omega),if_pos (by omega),hrd,laws_eqENodeS_same _ hm (by omega)]
    simp only[Option.bind_some,if_true]
    rw[up1 (by omega:i<l.length) (by omega)]
    exact ih k (i+1) (by omega) (by omega)
def secFitI(x:S71):Prop:=x.f4.size<=1048576/\x.f5.length<=1048576/\∀ y ∈ x.f5,y.f2.length<=1048576
theorem laws_eqSectionS_l0(l:List S71)(hl:l.length<=1048576)(hx:∀ x ∈ l,secFitI x):∀(n k i:Nat),i+n=l.length->n+2200001<=k->laws_eqSectionS.l0 k l l (i:Int)=some true:=by
  intro n
  induction n with
  | zero=>
    intro k i hi hk
    obtain⟨k,rfl⟩:∃ m,k=m+1:=⟨k - 1,by omega⟩
    simp only[laws_eqSectionS.l0]
    rw[if_neg (by omega)]
  | succ n ih=>
    intro k i hi hk
    obtain⟨k,rfl⟩:∃ m,k=m+1:=⟨k - 1,by omega⟩
    have hrd:rd_T71 l (i:Int)=l.getD i z71:=by unfold rd_T71;rw[Int.toNat_natCast]
    have hm:=hx _ (getD_mem z71 l i (by omega))
    simp only[laws_eqSectionS.l0]
    rw[if_pos (by omega),if_pos (by omega),if_pos (by omega),hrd,laws_eqSection_same _ _ _ _ _ _ hm.2.1 hm.2.2 (by omega)]
    simp only[Option.bind_some,if_true]
    rw[up1 (by omega:i<l.length) (by omega)]
    exact ih k (i+1) (by omega) (by omega)
theorem laws_eqObject_same(a:List S71)(b:List S72)(c:List (List S124))(ha:a.length<=1048576)(hA:∀ x ∈ a,secFitI x)(hb:b.length<=1048576)(hc:c.length<=1048576)(hC:∀ x ∈ c,x.length<=1048576){k:Nat}(hk:3300000<=k):laws_eqObject.f k a b c a b c=some true:=by
  unfold laws_eqObject.f laws_eqSectionS.f laws_eqOSymS.f laws_eqENodeSS.f
  have h1:=laws_eqSectionS_l0 a ha hA a.length k 0 (by omega) (by omega)
  have h2:=laws_eqOSymS_l0 b hb b.length k 0 (by omega) (by omega)
  have h3:=laws_eqENodeSS_l0 c hc hC c.length k 0 (by omega) (by omega)
  rw[show((0:Nat):Int)=0 from rfl]at h1 h2 h3
  simp only[if_true,h1,h2,h3,Option.bind_some]
def symOk(secs:List S71)(x:S72):Bool:=nameOk x.f0&&(inR x.f1 (-1) ((secs.length:Int) - 1)&&(if x.f1>=0 then inR x.f2 0 ((secs.getD x.f1.toNat z71).f4.size:Int)else inR x.f2 (-2147483648) 2147483647))
def symsIdx(secs:List S71)(l:List S72):Nat->Nat->Bool
  |0,_=>true
  |n+1,i=>(symOk secs (l.getD i z72)&&(decide (i=0)||Op.bytesLess (l.getD (i - 1) z72).f0.toList (l.getD i z72).f0.toList))&&symsIdx secs l n (i+1)
def secOkS(x:S71):Bool:=secOk x.f0 x.f1 x.f2 x.f3 x.f4 x.f5
def assOk(x:List S124):Bool:=exprOk (x.map nd_)
def objOk(secs:List S71)(syms:List S72)(ass:List (List S124)):Bool:=
  decide (secs.length<=12)&&(decide (syms.length<=200)&&(decide (ass.length<=12)&&(secs.all secOkS&&(symsIdx secs syms syms.length 0&&ass.all assOk))))
theorem spec_ObjectOk_l2(secs:List S71)(syms:List S72)(ass:List (List S124))(hl:ass.length<=1048576)(hx:∀ x ∈ ass,x.length<=1048576):∀(n k i:Nat),i+n=ass.length->n+1100000<=k->spec_ObjectOk.l2 k (i:Int) secs syms ass=some ((ass.drop i).all assOk):=by
  intro n
  induction n with
  | zero=>
    intro k i hi hk
    obtain⟨k,rfl⟩:∃ m,k=m+1:=⟨k - 1,by omega⟩
    simp only[spec_ObjectOk.l2]
    rw[if_neg (by omega),List.drop_eq_nil_of_le (by omega)]
    rfl
  | succ n ih=>
    intro k i hi hk
    obtain⟨k,rfl⟩:∃ m,k=m+1:=⟨k - 1,by omega⟩
    have hrd:rd_L3 ass (i:Int)=ass.getD i []:=by unfold rd_L3;rw[Int.toNat_natCast]
    have hm:=hx _ (getD_mem [] ass i (by omega))
    simp only[spec_ObjectOk.l2]
    rw[if_pos (by omega),if_pos (by omega),hrd,drop_at [] ass i (by omega),spec_ExprOk_eq _ hm (by omega),up1 (by omega:i<ass.length) (by omega),ih k (i+1) (by omega) (by omega)]
    simp only[Option.bind_some,List.all_cons,assOk]
    by_cases c:exprOk ((ass.getD i []).map nd_)=true
    · rw[if_pos c,c]
      rfl
    · rw[if_neg c,Bool.eq_false_iff.2 c]
      rfl
theorem spec_ObjectOk_j3(secs:List S71)(syms:List S72)(ass:List (List S124))(i:Int)(x0:ByteArray)(x1 x2:Int)(x3:Bool)(h1:-1<=x1/\x1<=(secs.length:Int) - 1)(k:Nat) :
    spec_ObjectOk.j3 (k+1) i false secs syms ass x0 x1 x2 x3=if(if x1>=0 then inR x2 0 ((secs.getD x1.toNat z71).f4.size:Int)else inR x2 (-2147483648) 2147483647)=true then spec_ObjectOk.l1 k (wrap64 (i+1)) secs syms ass else some false:=by
  have hrd:rd_T71 secs x1=secs.getD x1.toNat z71:=rfl
  rw[spec_ObjectOk.j3,if_neg (by decide)]
  simp only[spec_l1In_eq,Option.bind_some,hrd]
  by_cases c:x1>=0
  · simp only[if_pos c,if_pos (show(0:Int)<=x1 from c),if_pos (show x1<(secs.length:Int)by omega),if_neg (show¬ x1<0 by omega)]
  · rw[if_neg c,if_neg c,if_pos (by omega)]
theorem spec_ObjectOk_l1 (secs:List S71) (syms:List S72) (ass:List (List S124)) (hs:secs.length<=12) (hl:syms.length<=200) (A:Bool) (K:Nat) (hA:∀ k,K<=k->spec_ObjectOk.l2 k 0 secs syms ass=some A):∀(n k i:Nat),i+n=syms.length->2*n+K+30<=k->spec_ObjectOk.l1 k (i:Int) secs syms ass=some (symsIdx secs syms n i&&A):=by
  intro n
  induction n with
  | zero=>
    intro k i hi hk
    obtain⟨k,rfl⟩:∃ m,k=m+1:=⟨k - 1,by omega⟩
    simp only[spec_ObjectOk.l1]
    rw[if_neg (by omega),hA k (by omega)]
    simp[symsIdx]
  | succ n ih=>
    intro k i hi hk
    obtain⟨k,rfl⟩:∃ m,k=m+2:=⟨k - 2,by omega⟩
    have hrd:rd_T72 syms (i:Int)=syms.getD i z72:=by unfold rd_T72;rw[Int.toNat_natCast]
    have hw:=up1 (n:=syms.length) (by omega:i<syms.length) (by omega)
    have step:∀(x0:ByteArray) (x1 x2:Int) (x3:Bool),spec_ObjectOk.j3 (k+1) (i:Int) (!inR x1 (-1) ((secs.length:Int) - 1)) secs syms ass x0 x1 x2 x3=some ((inR x1 (-1) ((secs.length:Int) - 1)&&(if x1>=0 then inR x2 0 ((secs.getD x1.toNat z71).f4.size:Int)else inR x2 (-2147483648) 2147483647))&&(symsIdx secs syms n (i+1)&&A)):=by
      intro x0 x1 x2 x3
      by_cases c:inR x1 (-1) ((secs.length:Int) - 1)=true
      · rw[c,Bool.not_true,spec_ObjectOk_j3 secs syms ass i x0 x1 x2 x3 (inR_iff.1 c),hw,ih k (i+1) (by omega) (by omega)]
        generalize (if x1>=0 then inR x2 0 ((secs.getD x1.toNat z71).f4.size:Int)else inR x2 (-2147483648) 2147483647)=q
        cases q <;> rfl
      · rw[Bool.eq_false_iff.2 c,Bool.not_false,spec_ObjectOk.j3,if_pos rfl]
        rfl
    have stop:∀(x0:ByteArray) (x1 x2:Int) (x3:Bool),spec_ObjectOk.j3 (k+1) (i:Int) true secs syms ass x0 x1 x2 x3=some false:=by
      intro x0 x1 x2 x3
      rw[spec_ObjectOk.j3,if_pos rfl]
    simp only[spec_ObjectOk.l1]
    rw[if_pos (by omega),if_pos (by omega),hrd]
    rw[show symsIdx secs syms (n+1) i=((symOk secs (syms.getD i z72)&&(decide (i=0)||Op.bytesLess (syms.getD (i - 1) z72).f0.toList (syms.getD i z72).f0.toList))&&symsIdx secs syms n (i+1))from rfl]
    unfold symOk
    simp only[spec_NameOk_eq _ (show 20<=k+1 by omega),spec_l1In_eq,Option.bind_some,w64 (n:=(secs.length:Int) - 1) (by omega) (by omega),step,stop]
    by_cases c1:nameOk (syms.getD i z72).f0=true
    · rw[if_pos c1,c1]
      by_cases c2:i=0
      · rw[if_neg (by omega),decide_eq_true c2]
        simp[Bool.and_assoc]
      · have hrd2:rd_T72 syms (wrap64 ((i:Int) - 1))=syms.getD (i - 1) z72:=by
          rw[w64 (by omega) (by omega)]
          unfold rd_T72
          congr 1
          omega
        rw[if_pos (by omega),hrd2,w64 (n:=(i:Int) - 1) (by omega) (by omega),if_pos (by omega),if_pos (by omega),decide_eq_false c2]
        by_cases c3:Op.bytesLess (syms.getD (i - 1) z72).f0.toList (syms.getD i z72).f0.toList=true
        · rw[if_pos c3,c3]
          simp[Bool.and_assoc]
        · rw[if_neg c3,Bool.eq_false_iff.2 c3]
          simp
    · rw[if_neg c1,Bool.eq_false_iff.2 c1]
      simp
theorem spec_ObjectOk_l0(secs:List S71)(syms:List S72)(ass:List (List S124))(hs:secs.length<=12)(hx:∀ x ∈ secs,secFitI x)(A:Bool)(K:Nat)(hA:∀ k,K<=k->spec_ObjectOk.l1 k 0 secs syms ass=some A):∀(n k i:Nat),i+n=secs.length->n+K+3300000<=k->spec_ObjectOk.l0 k (i:Int) secs syms ass=some ((secs.drop i).all secOkS&&A):=by
  intro n
  induction n with
  | zero=>
    intro k i hi hk
    obtain⟨k,rfl⟩:∃ m,k=m+1:=⟨k - 1,by omega⟩
    simp only[spec_ObjectOk.l0]
    rw[if_neg (by omega),hA k (by omega),List.drop_eq_nil_of_le (by omega)]
    rfl
  | succ n ih=>
    intro k i hi hk
    obtain⟨k,rfl⟩:∃ m,k=m+1:=⟨k - 1,by omega⟩
    have hrd:rd_T71 secs (i:Int)=secs.getD i z71:=by unfold rd_T71;rw[Int.toNat_natCast]
    have hm:=hx _ (getD_mem z71 secs i (by omega))
    simp only[spec_ObjectOk.l0]
    rw[if_pos (by omega),if_pos (by omega),hrd,drop_at z71 secs i (by omega),spec_SectionOk_eq _ _ _ _ _ _ hm.1 hm.2.1 hm.2.2 (by omega),up1 (by omega:i<secs.length) (by omega),ih k (i+1) (by omega) (by omega)]
    simp only[Option.bind_some,List.all_cons]
    rw[show secOk (secs.getD i z71).f0 (secs.getD i z71).f1 (secs.getD i z71).f2 (secs.getD i z71).f3 (secs.getD i z71).f4 (secs.getD i z71).f5=secOkS (secs.getD i z71)from rfl]
    by_cases c:secOkS (secs.getD i z71)=true
    · rw[if_pos c,c]
      rfl
    · rw[if_neg c,Bool.eq_false_iff.2 c]
      rfl
theorem spec_ObjectOk_eq (secs:List S71) (syms:List S72) (ass:List (List S124)) (hx:∀ x ∈ secs,secFitI x) (hc:∀ x ∈ ass,x.length<=1048576) {k:Nat} (hk:4500000<=k):spec_ObjectOk.f k secs syms ass=some (objOk secs syms ass):=by
  obtain⟨k,rfl⟩:∃ m,k=m+1:=⟨k - 1,by omega⟩
  unfold spec_ObjectOk.f objOk
  by_cases c1:secs.length<=12
  · rw[if_neg (by omega),decide_eq_true c1]
    by_cases c2:syms.length<=200
    · rw[if_neg (by omega),decide_eq_true c2]
      by_cases c3:ass.length<=12
      · rw[decide_eq_false (by omega),decide_eq_true c3,spec_ObjectOk.j0,if_neg (by decide)]
        have L2:∀ k,1100100<=k->spec_ObjectOk.l2 k 0 secs syms ass=some (ass.all assOk):=by
          intro k hk
          have:=spec_ObjectOk_l2 secs syms ass (by omega) hc ass.length k 0 (by omega) (by omega)
          rw[List.drop_zero]at this
          exact this
        have L1:∀ k,1100600<=k->spec_ObjectOk.l1 k 0 secs syms ass=some (symsIdx secs syms syms.length 0&&ass.all assOk):=by
          intro k hk
          exact spec_ObjectOk_l1 secs syms ass c1 c2 _ 1100100 L2 syms.length k 0 (by omega) (by omega)
        have L0:=spec_ObjectOk_l0 secs syms ass c1 hx _ 1100600 L1 secs.length k 0 (by omega) (by omega)
        rw[List.drop_zero]at L0
        exact L0
      · rw[decide_eq_true (by omega),decide_eq_false c3,spec_ObjectOk.j0,if_pos rfl]
        rfl
    · rw[if_pos (by omega),decide_eq_false c2,spec_ObjectOk.j0,if_pos rfl]
      rfl
  · rw[if_pos (by omega),decide_eq_false c1,spec_ObjectOk.j0,if_pos rfl]
    rfl
theorem impl_Section_go{k:Nat}(hk:3300000<=k):∀(y:List S71) (i:Int),0<=i->(∀ x ∈ y,secFitI x)->∃ r,impl_Section.go k y i=some r/\decide (0<=r)=!(y.all secOkS)
  |[],i,_,_=>⟨-1,rfl,rfl⟩
  | x :: r,i,h,hx=>by
    have hm:=hx x List.mem_cons_self
    rw[impl_Section.go,impl_SectionOk_eq _ _ _ _ _ _ hm.1 hm.2.1 hk]
    simp only[Option.bind_some]
    rw[show secOk x.f0 x.f1 x.f2 x.f3 x.f4 x.f5=secOkS x from rfl]
    by_cases c:secOkS x=true
    · rw[if_pos c]
      obtain⟨j,hj,hd2⟩:=impl_Section_go hk r (i+1) (by omega) (fun z hz=>hx z (List.mem_cons_of_mem _ hz))
      exact⟨j,hj,by rw[hd2];simp[c]⟩
    · rw[if_neg c]
      exact⟨i,rfl,by rw[decide_eq_true h];simp[c]⟩
theorem impl_ENode_go{k:Nat}(hk:100<=k):∀(y:List (List S124)) (i:Int),0<=i->∃ r,impl_ENode.go k y i=some r/\decide (0<=r)=!(y.all assOk)
  |[],i,_=>⟨-1,rfl,rfl⟩
  | x :: r,i,h=>by
    rw[impl_ENode.go,impl_ExprOk_eq x (by omega)]
    simp only[Option.bind_some]
    rw[show exprOk (x.map nd_)=assOk x from rfl]
    by_cases c:assOk x=true
    · rw[if_pos c]
      obtain⟨j,hj,hd2⟩:=impl_ENode_go hk r (i+1) (by omega)
      exact⟨j,hj,by rw[hd2];simp[c]⟩
    · rw[if_neg c]
      exact⟨i,rfl,by rw[decide_eq_true h];simp[c]⟩
theorem impl_isSymbol_eq (secs:List S71) (syms:List S72) (ass:List (List S124)) (hs:secs.length<=12) (x:S72) {k:Nat} (hk:20<=k):impl_isSymbol.f k secs syms ass x.f0 x.f1 x.f2 x.f3=some (symOk secs x):=by
  have hrd:rd_T71 secs x.f1=secs.getD x.f1.toNat z71:=rfl
  unfold impl_isSymbol.f symOk
  simp only[impl_NameOk_eq _ hk,impl_within_eq,Option.bind_some,hrd,w64 (n:=(secs.length:Int) - 1) (by omega) (by omega)]
  by_cases c1:nameOk x.f0=true
  · rw[if_pos c1,c1]
    by_cases c2:x.f1=-1
    · rw[if_pos c2,c2,show inR (-1) (-1) ((secs.length:Int) - 1)=true from inR_pos (by omega) (by omega),if_neg (by decide)]
      simp
    · rw[if_neg c2]
      by_cases c3:inR x.f1 0 ((secs.length:Int) - 1)=true
      · have:=inR_iff.1 c3
        rw[if_pos c3,show inR x.f1 (-1) ((secs.length:Int) - 1)=true from inR_pos (by omega) (by omega)]
        simp only[if_pos (show(0:Int)<=x.f1 by omega),if_pos (show x.f1>=0 by omega),if_pos (show x.f1<(secs.length:Int)by omega),Bool.true_and]
      · rw[if_neg c3,show inR x.f1 (-1) ((secs.length:Int) - 1)=false from inR_neg (fun h=>c3 (inR_pos (by omega) (by omega)))]
        simp
  · rw[if_neg c1,Bool.eq_false_iff.2 c1]
    simp
theorem impl_ObjectOk_l0 (secs:List S71) (syms:List S72) (ass:List (List S124)) (hs:secs.length<=12) (hl:syms.length<=200) (hx:∀ x ∈ secs,secFitI x):∀(n k i:Nat),i+n=syms.length->n+3300001<=k->impl_ObjectOk.l0 k syms (syms.length:Int) (i:Int) secs syms ass=some (symsIdx secs syms n i&&(secs.all secOkS&&ass.all assOk)):=by
  intro n
  induction n with
  | zero=>
    intro k i hi hk
    obtain⟨k,rfl⟩:∃ m,k=m+1:=⟨k - 1,by omega⟩
    simp only[impl_ObjectOk.l0]
    rw[if_neg (by omega)]
    unfold impl_Section.f impl_ENode.f
    obtain⟨r,h1,h2⟩:=impl_Section_go (k:=k) (by omega) secs 0 (by omega) hx
    obtain⟨u,h3,h4⟩:=impl_ENode_go (k:=k) (by omega) ass 0 (by omega)
    rw[h1,h3]
    simp only[Option.bind_some,h2,h4,symsIdx,Bool.true_and]
    cases secs.all secOkS <;> cases ass.all assOk <;> rfl
  | succ n ih=>
    intro k i hi hk
    obtain⟨k,rfl⟩:∃ m,k=m+1:=⟨k - 1,by omega⟩
    have hrd:rd_T72 syms (i:Int)=syms.getD i z72:=by unfold rd_T72;rw[Int.toNat_natCast]
    have hw:=up1 (n:=syms.length) (by omega:i<syms.length) (by omega)
    simp only[impl_ObjectOk.l0]
    rw[if_pos (by omega),if_pos (by omega),if_pos (by omega),hrd,impl_isSymbol_eq secs syms ass hs _ (by omega),hw,ih k (i+1) (by omega) (by omega)]
    rw[show symsIdx secs syms (n+1) i=((symOk secs (syms.getD i z72)&&(decide (i=0)||Op.bytesLess (syms.getD (i - 1) z72).f0.toList (syms.getD i z72).f0.toList))&&symsIdx secs syms n (i+1))from rfl]
    simp only[Option.bind_some]
    by_cases c1:symOk secs (syms.getD i z72)=true
    · rw[if_pos c1,c1]
      by_cases c2:i=0
      · rw[if_neg (by omega),decide_eq_true c2]
        simp
      · have hrd2:rd_T72 syms (wrap64 ((i:Int) - 1))=syms.getD (i - 1) z72:=by
          rw[w64 (by omega) (by omega)]
          unfold rd_T72
          congr 1
          omega
        rw[if_pos (by omega),hrd2,w64 (n:=(i:Int) - 1) (by omega) (by omega),if_pos (by omega),if_pos (by omega),decide_eq_false c2]
        by_cases c3:Op.bytesLess (syms.getD (i - 1) z72).f0.toList (syms.getD i z72).f0.toList=true
        · rw[if_pos c3,c3]
          simp
        · rw[if_neg c3,Bool.eq_false_iff.2 c3]
          simp
    · rw[if_neg c1,Bool.eq_false_iff.2 c1]
      simp
theorem impl_ObjectOk_eq (secs:List S71) (syms:List S72) (ass:List (List S124)) (hx:∀ x ∈ secs,secFitI x) {k:Nat} (hk:3400000<=k):impl_ObjectOk.f k secs syms ass=some (objOk secs syms ass):=by
  obtain⟨k,rfl⟩:∃ m,k=m+1:=⟨k - 1,by omega⟩
  unfold impl_ObjectOk.f objOk
  by_cases c1:secs.length<=12
  · rw[if_neg (by omega),decide_eq_true c1]
    by_cases c2:syms.length<=200
    · rw[if_neg (by omega),decide_eq_true c2]
      by_cases c3:ass.length<=12
      · rw[decide_eq_false (by omega),decide_eq_true c3,impl_ObjectOk.j0,if_neg (by decide)]
        have L0:=impl_ObjectOk_l0 secs syms ass c1 c2 hx syms.length k 0 (by omega) (by omega)
        rw[show((0:Nat):Int)=0 from rfl]at L0
        rw[L0]
        simp only[Bool.true_and]
        cases symsIdx secs syms syms.length 0 <;> cases secs.all secOkS <;> rfl
      · rw[decide_eq_true (by omega),decide_eq_false c3,impl_ObjectOk.j0,if_pos rfl]
        rfl
    · rw[if_pos (by omega),decide_eq_false c2,impl_ObjectOk.j0,if_pos rfl]
      rfl
  · rw[if_pos (by omega),decide_eq_false c1,impl_ObjectOk.j0,if_pos rfl]
    rfl
def opGo:List (List UInt8)->Nat->List UInt8->Option Nat
  |[],_,_=>none
  |x::r,j,l=>if x=l then some j else opGo r (j+1) l
def opIdx(l:List UInt8):Option Nat:=opGo opW 0 l
theorem opGo_mem:∀(ws:List (List UInt8)) (j:Nat) (l:List UInt8) (i:Nat),opGo ws j l=some i->l ∈ ws
  |[],_,_,_,h=>by cases h
  | x :: r,j,l,i,h=>by
    rw[opGo]at h
    split at h
    · rename_i e
      rw[e]
      exact List.mem_cons_self
    · exact List.mem_cons_of_mem _ (opGo_mem r (j+1) l i h)
theorem opGo_at:∀(ws:List (List UInt8)) (j:Nat) (l:List UInt8) (i:Nat),opGo ws j l=some i->j<=i/\i<j+ws.length/\ws.getD (i - j) []=l
  |[],_,_,_,h=>by cases h
  | x :: r,j,l,i,h=>by
    rw[opGo]at h
    split at h
    · rename_i e
      obtain rfl:=Option.some.inj h
      exact⟨Nat.le_refl _,by simp,by simp[e]⟩
    · obtain⟨h1,h2,h3⟩:=opGo_at r (j+1) l i h
      refine⟨by omega,by simp;omega,?_⟩
      rw[show i - j=(i - (j+1))+1 by omega,List.getD_cons_succ]
      exact h3
theorem opIdx_head{l:List UInt8}{j:Nat}(h:opIdx l=some j):∃ x r,l=x::r/\x.toNat≠35/\¬ (48<=x.toNat/\x.toNat<=57):=by
  have hm:=opGo_mem _ _ _ _ h
  have hall:∀ y ∈ opW,∃ x r,y=x::r/\x.toNat≠35/\¬ (48<=x.toNat/\x.toNat<=57):=by
    intro y hy
    simp only[opW,List.mem_cons,List.not_mem_nil,or_false]at hy
    rcases hy with rfl|rfl|rfl|rfl|rfl|rfl|rfl|rfl|rfl|rfl|rfl|rfl|rfl|rfl <;> exact⟨_,_,rfl,by decide,by decide⟩
  exact hall l hm
def hashB(w:ByteArray):Bool:=decide (w.size≠0)&&decide (bt w 0=35)
def readS (w:ByteArray):Nd:=match opIdx w.data.toList with
  |some j=>(4+(j:Int),0,⟨#[]⟩)
  | none=>match numOf w with
    |some n=>(1,n,⟨#[]⟩)
    |none=>if hashB w=true then(3,0,w.extract 1 w.size)else(2,0,w)
theorem words_at(i:Nat)(h4:4<=i)(h:i<18):∃ W,spec_l2Words.f=some W/\W.length=18/\(rdOf ByteArray.empty W (i:Int))=⟨(opW.getD (i - 4) []).toArray⟩:=by
  refine⟨_,rfl,rfl,?_⟩
  have:i=4\/i=5\/i=6\/i=7\/i=8\/i=9\/i=10\/i=11\/i=12\/i=13\/i=14\/i=15\/i=16\/i=17:=by omega
  rcases this with e|e|e|e|e|e|e|e|e|e|e|e|e|e <;> rw[e] <;> rfl
theorem spec_l2Word_l0 (w:ByteArray) (hw:w.size<=1048576) (W:List ByteArray) (hW:spec_l2Words.f=some W):∀(n k i:Nat),i+n=18->4<=i->n+41<=k->spec_l2Word.l0 k w W (i:Int)=some (match opGo (opW.drop (i - 4)) (i - 4) w.data.toList with
    |some j=>(4+(j:Int),0,⟨#[]⟩)
    | none=>match numOf w with
      |some n=>(1,n,⟨#[]⟩)
      |none=>if hashB w=true then(3,0,w.extract 1 w.size)else(2,0,w)):=by
  intro n
  induction n with
  | zero=>
    intro k i hi h4 hk
    obtain⟨k,rfl⟩:∃ m,k=m+1:=⟨k - 1,by omega⟩
    obtain rfl:i=18:=by omega
    have hd:opW.drop (18 - 4)=[]:=rfl
    simp only[spec_l2Word.l0]
    rw[if_neg (by omega),spec_ReadNum_eq w (by omega),hd]
    simp only[Option.bind_some,opGo,told]
    cases hn:numOf w with
    |some v=>simp
    | none=>
      simp only[Option.isSome_none,Bool.false_eq_true,if_false]
      unfold hashB
      by_cases h0:w.size=0
      · rw[if_pos (size_zero.2 h0)]
        simp[h0]
      · rw[if_neg (fun h=>h0 (size_zero.1 h)),if_pos (by omega)]
        by_cases h1:bt w 0=35
        · rw[if_pos h1,if_pos (by omega),decide_eq_true h0,decide_eq_true h1]
          rfl
        · rw[if_neg h1,decide_eq_false h1]
          simp
  | succ n ih=>
    intro k i hi h4 hk
    obtain⟨k,rfl⟩:∃ m,k=m+1:=⟨k - 1,by omega⟩
    obtain⟨W',hW',hl,hr⟩:=words_at i h4 (by omega)
    obtain rfl:W=W':=Option.some.inj (hW.symm.trans hW')
    have hd:opW.drop (i - 4)=opW.getD (i - 4) []::opW.drop (i - 4+1):=drop_at [] opW (i - 4) (by show i - 4<14;omega)
    simp only[spec_l2Word.l0]
    rw[if_pos (by omega),if_pos (by omega),if_pos (by omega),hr,hd,opGo]
    by_cases c:opW.getD (i - 4) []=w.data.toList
    · rw[if_pos ((list_eq_iff w _).2 c),if_pos c]
      simp
      omega
    · rw[if_neg (fun h=>c ((list_eq_iff w _).1 h)),if_neg c]
      have hw1:wrap64 ((i:Int)+1)=((i+1:Nat):Int):=by rw[w64 (by omega) (by omega)];omega
      rw[hw1,ih k (i+1) (by omega) (by omega) (by omega),show i+1 - 4=i - 4+1 by omega]
theorem spec_l2Word_eq(w:ByteArray)(hw:w.size<=1048576){k:Nat}(hk:60<=k):spec_l2Word.f k w=some (readS w):=by
  unfold spec_l2Word.f
  obtain⟨W,hW,_,_⟩:=words_at 4 (by omega) (by omega)
  rw[hW]
  simp only[Option.bind_some]
  exact spec_l2Word_l0 w hw W hW 14 k 4 (by omega) (by omega) (by omega)
def mkN(x:Nd):S124:=⟨x.1,x.2.1,x.2.2⟩
theorem map_nd_mkN(l:List Nd):(l.map mkN).map nd_=l:=by
  rw[List.map_map]
  conv=>rhs;rw[<-List.map_id l]
  rfl
def rdSpec(s:ByteArray):List S124×Bool:=
  if(exprT (((sp 32 s.data.toList).take 31).map fun w=>readS (ofL w))).toList=s.toList/\s.toList≠[]then(((sp 32 s.data.toList).take 31).map (fun w=>mkN (readS (ofL w))),true)else([],false)
theorem sp_cut(c:UInt8)(l:List UInt8):sp c l=(Go.Lib.cut l [c]).1::(if(Go.Lib.cut l [c]).2.2=true then sp c (Go.Lib.cut l [c]).2.1 else []):=by
  by_cases h:c ∈ l
  · obtain⟨a,b,rfl,ha⟩:=List.eq_append_cons_of_mem h
    rw[cut_hit c a b ha]
    obtain⟨h1,h2⟩:=sp_hit (b:=b) ha
    rw[sp,h1,h2]
    rfl
  · rw[cut_miss c l h]
    obtain⟨h1,h2⟩:=sp_miss h
    rw[sp,h1,h2]
    rfl
theorem spec_ReadExpr_fin(s:ByteArray)(out:List Nd)(hl:out.length<=40){k:Nat}(hk:1000<=k)(b:ByteArray):spec_ReadExpr.j1 (k+1) s (out.map mkN) b false=some (if(exprT out).toList=s.toList/\s.toList≠[]then(out.map mkN,true)else([],false)):=by
  rw[spec_ReadExpr.j1,if_neg (by decide),spec_ExprText_eq _ (by rw[List.length_map];omega) (by rw[List.length_map];omega),map_nd_mkN]
  by_cases h0:s.toList=[]
  · rw[if_pos h0,if_neg (fun h=>h.2 h0)]
  · rw[if_neg h0]
    simp only[Option.bind_some]
    by_cases h1:(exprT out).toList=s.toList
    · rw[if_pos h1,if_pos ⟨h1,h0⟩]
    · rw[if_neg h1,if_neg (fun h=>h1 h.1)]
theorem spec_ReadExpr_l0(s:ByteArray):∀(n k:Nat) (out:List Nd) (b:ByteArray),out.length+n=31->b.size<=1048576->2*n+1050000<=k →
    spec_ReadExpr.l0 k s (out.map mkN) b true=some (if(exprT (out++((sp 32 b.data.toList).take n).map fun w=>readS (ofL w))).toList=s.toList/\s.toList≠[]then((out++((sp 32 b.data.toList).take n).map fun w=>readS (ofL w)).map mkN,true)else([],false)):=by
  intro n
  induction n with
  | zero=>
    intro k out b hi hb hk
    obtain⟨k,rfl⟩:∃ m,k=m+2:=⟨k - 2,by omega⟩
    rw[spec_ReadExpr.l0,if_pos rfl,List.length_map,decide_eq_false (by omega),spec_ReadExpr_fin s out (by omega) (by omega)]
    simp
  | succ n ih=>
    intro k out b hi hb hk
    obtain⟨k,rfl⟩:∃ m,k=m+2:=⟨k - 2,by omega⟩
    rw[spec_ReadExpr.l0,if_pos rfl,List.length_map,decide_eq_true (by omega),spec_ReadExpr.j1,if_pos rfl]
    have hcut:=spec_l1Cut_eq b (by omega) 32 (k:=k) (by omega)
    rw[show((32:UInt8).toNat:Int)=32 from rfl]at hcut
    have hz:=cutP_size b 32
    rw[hcut]
    simp only[Option.bind_some]
    rw[spec_l2Word_eq _ (by omega) (by omega)]
    simp only[Option.bind_some]
    rw[List.length_map,if_pos (by omega)]
    have e1:out.map mkN++[(⟨(readS (cutP b 32).1).1,(readS (cutP b 32).1).2.1,(readS (cutP b 32).1).2.2⟩:S124)]=(out++[readS (cutP b 32).1]).map mkN:=by rw[List.map_append];rfl
    rw[e1,sp_cut 32 b.data.toList,List.take_succ_cons,List.map_cons]
    have e2:(cutP b 32).1=ofL (Go.Lib.cut b.data.toList [32]).1:=rfl
    have e3:(cutP b 32).2.1.data.toList=(Go.Lib.cut b.data.toList [32]).2.1:=rfl
    have e4:(cutP b 32).2.2=(Go.Lib.cut b.data.toList [32]).2.2:=rfl
    cases hc:(cutP b 32).2.2 with
    | true=>
      rw[ih k (out++[readS (cutP b 32).1]) (cutP b 32).2.1 (by simp;omega) (by omega) (by omega),e3]
      rw[hc]at e4
      rw[<-e4,if_pos rfl,e2,List.append_assoc]
      rfl
    | false=>
      obtain⟨k,rfl⟩:∃ m,k=m+2:=⟨k - 2,by omega⟩
      rw[hc]at e4
      rw[spec_ReadExpr.l0,if_neg (by decide),spec_ReadExpr_fin s _ (by simp;omega) (by omega),<-e4,if_neg (show¬ (false=true)by decide),e2,List.take_nil]
      rfl
theorem spec_ReadExpr_eq(s:ByteArray)(hs:s.size<=1048576){k:Nat}(hk:1060000<=k):spec_ReadExpr.f k s=some (rdSpec s):=by
  unfold spec_ReadExpr.f rdSpec
  have:=spec_ReadExpr_l0 s 31 k [] s (by simp) hs (by omega)
  rw[List.nil_append,List.map_nil,List.map_map]at this
  rw[this]
  rfl
def parsed(l:List UInt8):Option Int:=match Go.Lib.parseIntB 64 l with|.ok v=>some v|_=>none
theorem parse_f(w:ByteArray)(hw:w.size<=1048576):∃ r1 r2,strconv_ParseInt.f w 10 64=some (r1,r2)/\r2.isNone=(parsed w.data.toList).isSome/\∀ v,parsed w.data.toList=some v->r1=v:=by
  unfold strconv_ParseInt.f parsed
  rw[if_pos rfl,if_pos rfl,if_pos (by omega)]
  cases Go.Lib.parseIntB 64 w.data.toList with
  |ok v=>exact⟨v,none,rfl,rfl,fun x h=>Option.some.inj h⟩
  |_=>exact⟨_,_,rfl,rfl,fun x h=>by cases h⟩
def readI (w:ByteArray):Nd:=if hashB w=true then(3,0,w.extract 1 w.size)else match opIdx w.data.toList with
  |some j=>(4+(j:Int),0,⟨#[]⟩)
  | none=>match parsed w.data.toList with
    |some n=>(1,n,⟨#[]⟩)
    |none=>(2,0,w)
theorem hash_list{w:ByteArray}:hashB w=true↔∃ r,w.data.toList=35::r:=by
  unfold hashB
  rw[Bool.and_eq_true,decide_eq_true_eq,decide_eq_true_eq]
  constructor
  · rintro⟨h0,h1⟩
    obtain⟨x,hx,bx⟩:=bt_drop w 0 (by omega)
    rw[List.drop_zero]at hx
    have bx':bt w 0=(x.toNat:Int):=bx
    rw[h1]at bx'
    have:x=35:=UInt8.toNat_inj.1 (by show x.toNat=35;omega)
    rw[this]at hx
    exact⟨_,hx⟩
  · rintro⟨r,hr⟩
    have hl:=len_list w
    rw[hr]at hl
    have h0:w.size≠0:=by
      rw[List.length_cons]at hl
      omega
    refine⟨h0,?_⟩
    obtain⟨x,hx,bx⟩:=bt_drop w 0 (by omega)
    rw[List.drop_zero,hr]at hx
    have bx':bt w 0=(x.toNat:Int):=bx
    rw[bx',<-(List.cons.inj hx).1]
    rfl
theorem cutHash (w:ByteArray):strings_CutPrefix.f w ⟨#[35]⟩=some (if hashB w=true then(w.extract 1 w.size,true)else(w,false)):=by
  have h1:((⟨#[35]⟩:ByteArray).size:Int)=1:=rfl
  unfold strings_CutPrefix.f stringslite_CutPrefix.f stringslite_HasPrefix.f
  rw[h1]
  by_cases h0:(w.size:Int)>=1
  · rw[if_pos h0,if_pos (by decide),if_pos (by omega)]
    simp only[Option.bind_some]
    obtain⟨x,hx,bx⟩:=bt_drop w 0 (by omega)
    rw[List.drop_zero]at hx
    have he:((w.extract 0 (1:Int).toNat).toList==(⟨#[35]⟩:ByteArray).toList)=hashB w:=by
      apply Bool.eq_iff_iff.2
      rw[beq_iff_eq,hash_list]
      have hl:=(ext_list w 1).1
      constructor
      · intro h
        have:=toList_inj h
        have h2:(w.extract 0 1).data.toList=[35]:=by
          rw[show w.extract 0 1=w.extract 0 (1:Int).toNat from rfl,this]
        rw[hl,hx]at h2
        simp only[List.take_succ_cons,List.take_zero,List.cons.injEq,and_true]at h2
        exact⟨_,by rw[hx,h2]⟩
      · rintro⟨r,hr⟩
        rw[hr,List.take_succ_cons,List.take_zero]at hl
        rw[show(1:Int).toNat=1 from rfl,ba_list hl]
    rw[he]
    by_cases c:hashB w=true
    · rw[if_pos c,if_pos c,if_pos (by decide),if_pos (by omega)]
      rfl
    · rw[if_neg c,if_neg c]
      rfl
  · rw[if_neg h0]
    have:hashB w=false:=by
      unfold hashB
      rw[decide_eq_false (by omega:¬ w.size≠0)]
      rfl
    simp only[Option.bind_some,this]
    rfl
theorem index_op(w:ByteArray):∀(n k i:Nat),i+n=14->n<k->slices_Index_string_string.l0 k (opW.map ofL) w 14 (i:Int)=some (match opGo (opW.drop i) i w.data.toList with|some j=>(j:Int)|none=>-1):=by
  intro n
  induction n with
  | zero=>
    intro k i hi hk
    obtain⟨k,rfl⟩:∃ m,k=m+1:=⟨k - 1,by omega⟩
    obtain rfl:i=14:=by omega
    simp only[slices_Index_string_string.l0]
    rw[if_neg (by omega)]
    rfl
  | succ n ih=>
    intro k i hi hk
    obtain⟨k,rfl⟩:∃ m,k=m+1:=⟨k - 1,by omega⟩
    have hlen:((opW.map ofL).length:Int)=14:=rfl
    have hrd:rdOf ByteArray.empty (opW.map ofL) (i:Int)=ofL (opW.getD i []):=by
      have:i=0\/i=1\/i=2\/i=3\/i=4\/i=5\/i=6\/i=7\/i=8\/i=9\/i=10\/i=11\/i=12\/i=13:=by omega
      rcases this with e|e|e|e|e|e|e|e|e|e|e|e|e|e <;> rw[e] <;> rfl
    have hd:opW.drop i=opW.getD i []::opW.drop (i+1):=drop_at [] opW i (by show i<14;omega)
    have hw1:wrap64 ((i:Int)+1)=((i+1:Nat):Int):=by rw[w64 (by omega) (by omega)];omega
    simp only[slices_Index_string_string.l0]
    rw[if_pos (by omega),if_pos (by omega),hlen,if_pos (by omega),hrd,hd,opGo,hw1]
    by_cases c:opW.getD i []=w.data.toList
    · rw[if_pos (show w.toList=(ofL (opW.getD i [])).toList from((list_eq_iff w _).2 c).symm),if_pos c]
    · rw[if_neg (show¬ w.toList=(ofL (opW.getD i [])).toList from fun h=>c ((list_eq_iff w _).1 h.symm)),if_neg c,ih k (i+1) (by omega) (by omega)]
theorem index_eq(w:ByteArray){k:Nat}(hk:20<=k):slices_Index_string_string.f k (opW.map ofL) w=some (match opIdx w.data.toList with|some j=>(j:Int)|none=>-1):=by
  unfold slices_Index_string_string.f
  exact index_op w 14 k 0 (by omega) (by omega)
def finI(s:ByteArray)(out:List Nd):List S124×Bool:=if exprOk out=true/\(exprT out).toList=s.toList then(out.map mkN,true)else([],false)
theorem impl_ReadExpr_l0 (s:ByteArray) (ws:List (List UInt8)) (hl:ws.length<=30) (hw:∀ w ∈ ws,w.length<=1048576):∀(n k i:Nat) (out:List Nd),i+n=ws.length->out.length=i->n+200<=k →
    impl_ReadExpr.l0 k s (out.map mkN) (ws.map ofL) (ws.length:Int) (i:Int)=some (finI s (out++(ws.drop i).map fun w=>readI (ofL w))):=by
  intro n
  induction n with
  | zero=>
    intro k i out hi ho hk
    obtain⟨k,rfl⟩:∃ m,k=m+1:=⟨k - 1,by omega⟩
    simp only[impl_ReadExpr.l0]
    rw[if_neg (by omega),List.drop_eq_nil_of_le (by omega),List.map_nil,List.append_nil,impl_ExprOk_eq _ (by omega),map_nd_mkN]
    unfold finI
    simp only[Option.bind_some]
    by_cases h:exprOk out=true
    · rw[if_pos h,impl_exprText_eq _ (by rw[map_nd_mkN];exact h) (by omega),map_nd_mkN]
      simp only[Option.bind_some]
      by_cases h1:(exprT out).toList=s.toList
      · rw[if_pos h1,if_pos ⟨h,h1⟩]
      · rw[if_neg h1,if_neg (fun q=>h1 q.2)]
    · rw[if_neg h,if_neg (fun q=>h q.1)]
  | succ n ih=>
    intro k i out hi ho hk
    obtain⟨k,rfl⟩:∃ m,k=m+1:=⟨k - 1,by omega⟩
    have hm:=hw _ (getD_mem [] ws i (by omega))
    have hrd:rdOf ByteArray.empty (ws.map ofL) (i:Int)=ofL (ws.getD i []):=by
      unfold rdOf
      rw[Int.toNat_natCast,List.getD_eq_getElem?_getD,List.getD_eq_getElem?_getD,List.getElem?_map,List.getElem?_eq_getElem (by omega)]
      rfl
    rw[drop_at [] ws i (by omega),List.map_cons]
    simp only[impl_ReadExpr.l0]
    rw[if_pos (by omega),if_pos (by omega),List.length_map,if_pos (by omega),hrd]
    have hz:(ofL (ws.getD i [])).size<=1048576:=by
      rw[show(ofL (ws.getD i [])).size=(ws.getD i []).length from bytes_size _]
      exact hm
    generalize ofL (ws.getD i [])=w at hz ⊢
    obtain⟨r1,r2,hp,hp1,hp2⟩:=parse_f w hz
    have hop:impl_opWords.f=some (opW.map ofL):=opWords_eq
    have next:∀(x:Nd),x=readI w->impl_ReadExpr.l0 k s (out.map mkN++[(⟨x.1,x.2.1,x.2.2⟩:S124)]) (ws.map ofL) (ws.length:Int) (wrap64 ((i:Int)+1))=some (finI s (out++(readI w::(ws.drop (i+1)).map fun w=>readI (ofL w)))):=by
      intro x hx
      have e1:out.map mkN++[(⟨x.1,x.2.1,x.2.2⟩:S124)]=(out++[x]).map mkN:=by rw[List.map_append];rfl
      have hw1:wrap64 ((i:Int)+1)=((i+1:Nat):Int):=by rw[w64 (by omega) (by omega)];omega
      rw[e1,hw1,ih k (i+1) (out++[x]) (by omega) (by simp;omega) (by omega),List.append_assoc,hx]
      rfl
    rw[cutHash,hp,hop]
    simp only[Option.bind_some,List.length_map]
    rw[index_eq w (by omega)]
    simp only[Option.bind_some]
    by_cases c:hashB w=true
    · rw[if_pos c,if_pos rfl,if_pos (by omega)]
      exact next (3,0,w.extract 1 w.size) (by unfold readI;rw[if_pos c])
    · rw[if_neg c,if_neg (show¬ ((w,false):ByteArray×Bool).2=true by simp)]
      cases ho2:opIdx w.data.toList with
      | some j=>
        obtain⟨_,hj,_⟩:=opGo_at opW 0 _ _ ho2
        have hj':j<14:=by simpa[opW]using hj
        simp only
        rw[if_pos (by omega),if_pos (by omega),w64 (by omega) (by omega)]
        exact next (4+(j:Int),0,⟨#[]⟩) (by unfold readI;rw[if_neg c,ho2])
      | none=>
        simp only
        rw[if_neg (by decide)]
        cases hpp:parsed w.data.toList with
        | some v=>
          rw[hp1,hpp]
          simp only[Option.isSome_some,if_true]
          rw[if_pos (by omega),hp2 v hpp]
          exact next (1,v,⟨#[]⟩) (by unfold readI;rw[if_neg c,ho2];simp only;rw[hpp])
        | none=>
          rw[hp1,hpp]
          simp only[Option.isSome_none,Bool.false_eq_true,if_false]
          rw[if_pos (by omega)]
          exact next (2,0,w) (by unfold readI;rw[if_neg c,ho2];simp only;rw[hpp])
def rdImpl(s:ByteArray):List S124×Bool:=if(sp 32 s.data.toList).length > 30 then([],false)else finI s ((sp 32 s.data.toList).map fun w=>readI (ofL w))
theorem sp_len (c:UInt8):∀ l:List UInt8,∀ p ∈ sp c l,p.length<=l.length:=by
  have h1:∀ l:List UInt8,(sph c l).length<=l.length:=by
    intro l
    induction l with
    |nil=>simp[sph]
    | cons x r ih=>
      rw[sph]
      split <;> simp <;> omega
  have h2 : ∀ l:List UInt8,∀ p ∈ spt c l,p.length<=l.length:=by
    intro l
    induction l with
    |nil=>simp[spt]
    | cons x r ih=>
      rw[spt]
      have:=h1 r
      split
      · intro p hp
        rcases List.mem_cons.1 hp with rfl|hp
        · simp;omega
        · have:=ih p hp
          simp;omega
      · intro p hp
        have:=ih p hp
        simp;omega
  intro l p hp
  rcases List.mem_cons.1 hp with rfl|hp
  · exact h1 l
  · exact h2 l p hp
theorem split_sp(s:ByteArray)(hs:s.size<=1048576):strings_Split.f s ⟨#[32]⟩=some ((sp 32 s.data.toList).map ofL):=by
  unfold strings_Split.f
  rw[if_pos (by omega),if_pos (by show 1<=1;omega)]
  refine congrArg some (map_data _ _ ?_)
  rw[Go.Lib.splitB_data]
  exact splitK_sp 32 _ _ rfl
theorem impl_ReadExpr_eq(s:ByteArray)(hs:s.size<=1048576){k:Nat}(hk:300<=k):impl_ReadExpr.f k s=some (rdImpl s):=by
  unfold impl_ReadExpr.f rdImpl
  rw[split_sp s hs]
  simp only[Option.bind_some,List.length_map]
  by_cases h:(sp 32 s.data.toList).length > 30
  · rw[if_pos (by omega),if_pos h]
  · rw[if_neg (by omega),if_neg h]
    have:=impl_ReadExpr_l0 s (sp 32 s.data.toList) (by omega) (fun w hw=>Nat.le_trans (sp_len 32 _ w hw) (by rw[len_list];exact hs)) (sp 32 s.data.toList).length k 0 [] (by omega) rfl (by omega)
    rw[List.drop_zero,List.nil_append]at this
    exact this
theorem split_by(c:UInt8)(s:ByteArray)(hs:s.size<=1048576):strings_Split.f s ⟨#[c]⟩=some ((sp c s.data.toList).map ofL):=by
  have hone:(⟨#[c]⟩:ByteArray).size=1:=rfl
  unfold strings_Split.f
  rw[if_pos (by omega),if_pos (by omega)]
  refine congrArg some (map_data _ _ ?_)
  rw[Go.Lib.splitB_data]
  exact splitK_sp c _ _ rfl
theorem sp_short (c:UInt8):∀ l:List UInt8,∀ p ∈ sp c l,p.length<=l.length:=by
  have h1:∀ l:List UInt8,(sph c l).length<=l.length:=by
    intro l
    induction l with
    |nil=>simp[sph]
    | cons x r ih=>
      rw[sph]
      split <;> simp <;> omega
  have h2 : ∀ l:List UInt8,∀ p ∈ spt c l,p.length<=l.length:=by
    intro l
    induction l with
    |nil=>simp[spt]
    | cons x r ih=>
      rw[spt]
      have:=h1 r
      split
      · intro p hp
        rcases List.mem_cons.1 hp with rfl|hp
        · simp;omega
        · have:=ih p hp
          simp;omega
      · intro p hp
        have:=ih p hp
        simp;omega
  intro l p hp
  rcases List.mem_cons.1 hp with rfl|hp
  · exact h1 l
  · exact h2 l p hp
theorem dec_l0W:∀(m k x:Nat) (s:List UInt8),x<10 ^ (m+1)->x<=9223372036854775807->m<k->s.length+m<=1000->spec_l1Dec.l0 k (x:Int) ⟨s.toArray⟩=some ⟨(Go.Lib.decDigits x++s).toArray⟩:=by
  have small:∀(k x:Nat) (s:List UInt8),x<10->0<k->s.length<=1000->spec_l1Dec.l0 k (x:Int) ⟨s.toArray⟩=some ⟨(Go.Lib.decDigits x++s).toArray⟩:=by
    intro k x s hx hk hs
    obtain⟨k,rfl⟩:∃ z,k=z+1:=⟨k - 1,by omega⟩
    rw[spec_l1Dec.l0,if_neg (by omega)]
    simp only[Option.bind_some]
    rw[dig_nums hx,if_pos (by rw[bytes_size,bytes_size];simp;omega),bytes_append,Go.Lib.decDigits,dif_pos hx]
  intro m
  induction m with
  |zero=>intro k x s hx _ hk hs;exact small k x s (by simpa using hx) hk (by omega)
  | succ m ih=>
    intro k x s hx hbig hk hs
    by_cases h10:x<10
    · exact small k x s h10 (by omega) (by omega)
    · obtain⟨k,rfl⟩:∃ z,k=z+1:=⟨k - 1,by omega⟩
      have hd:x / 10<10 ^ (m+1):=by
        rw[Nat.pow_succ,Nat.mul_comm]at hx
        exact Nat.div_lt_of_lt_mul hx
      rw[spec_l1Dec.l0,if_pos (by omega)]
      simp only[Option.bind_some]
      have e1:Int.tmod (x:Int) 10=((x%10:Nat):Int):=by rw[Int.tmod_eq_emod_of_nonneg (by omega)];omega
      have e2:wrap64 (Int.tdiv (x:Int) 10)=((x / 10:Nat):Int):=by rw[Int.tdiv_eq_ediv_of_nonneg (by omega),w64 (by omega) (by omega)];omega
      rw[e1,e2,dig_nums (by omega),if_pos (by rw[bytes_size,bytes_size];simp;omega),bytes_append,ih k (x / 10) _ hd (by omega) (by omega) (by simp;omega)]
      conv=>rhs;rw[Go.Lib.decDigits,dif_neg h10]
      simp
theorem spec_l1Dec_wide(n:Int)(h:-9223372036854775808<n/\n<=9223372036854775807){k:Nat}(hk:30<=k):spec_l1Dec.f k n=some ⟨(Go.Lib.itoa n).toArray⟩:=by
  obtain⟨k,rfl⟩:∃ z,k=z+2:=⟨k - 2,by omega⟩
  have hp:(10:Nat) ^ (18+1)=10000000000000000000:=by decide
  have pos:∀(k x:Nat),x<=9223372036854775807->19<=k->spec_l1Dec.f (k+1) (x:Int)=some ⟨(Go.Lib.decDigits x).toArray⟩:=by
    intro k x hx hk
    rw[spec_l1Dec.f,if_neg (by omega)]
    have:=dec_l0W 18 k x [] (by omega) hx (by omega) (by simp)
    rw[List.append_nil]at this
    exact this
  by_cases h0:n<0
  · have hl:=itoa_len n (by omega) (by omega)
    unfold Go.Lib.itoa at hl ⊢
    rw[if_pos h0]at hl ⊢
    rw[spec_l1Dec.f,if_pos h0,w64 (by omega) (by omega)]
    have hn:-n=((n.natAbs:Nat):Int):=by omega
    rw[hn,pos k n.natAbs (by omega) (by omega)]
    simp only[Option.bind_some]
    rw[List.length_cons]at hl
    rw[if_pos (by simp only[bytes_size];omega),show(⟨#[45]⟩:ByteArray)=⟨[45].toArray⟩from rfl,bytes_append]
    rfl
  · unfold Go.Lib.itoa
    rw[if_neg h0]
    obtain⟨x,rfl⟩:∃ x:Nat,n=(x:Int):=⟨n.toNat,by omega⟩
    rw[Int.toNat_natCast]
    exact pos (k+1) x (by omega) (by omega)
theorem spec_l9Hex_l0(s:ByteArray)(hs:s.size<=1048576):∀(n k i:Nat) (acc:ByteArray),i+n=s.size->n+20<=k->acc.size<=2*i->spec_l9Hex.l0 k s acc (i:Int)=some ⟨(acc.data.toList++hexL (s.data.toList.drop i)).toArray⟩:=by
  intro n
  induction n with
  | zero=>
    intro k i acc hi hk ha
    obtain⟨k,rfl⟩:∃ j,k=j+1:=⟨k - 1,by omega⟩
    rw[spec_l9Hex.l0,if_neg (by omega),drop_end s i (by omega)]
    simp[hexL]
  | succ n ih=>
    intro k i acc hi hk ha
    obtain⟨k,rfl⟩:∃ j,k=j+1:=⟨k - 1,by omega⟩
    obtain⟨x,hx,bx⟩:=bt_drop s i (by omega)
    have h256:=x.toNat_lt
    have hw:wrap64 ((i:Int)+1)=((i+1:Nat):Int):=by rw[w64 (by omega) (by omega)];omega
    have hX:spec_HexOf.f k (x.toNat:Int) 2=some (hexText 2 x.toNat):=by
      rw[spec_HexOf_eq _ 2 (by omega),if_pos (by decide),if_pos (inR_pos (by omega) (by omega))]
      rfl
    obtain⟨z1,z2⟩:=hex_tail 2 x.toNat (by rw[show 16 ^ 2=256 from rfl];omega)
    have z3:(⟨(hexFix 2 x.toNat).toArray⟩:ByteArray).size=2:=by rw[bytes_size,hexFix_len]
    rw[spec_l9Hex.l0,if_pos (by omega),if_pos (by omega),bx,w64 (by omega) (by omega),hX]
    simp only[Option.bind_some]
    rw[if_pos (by omega),z2,if_pos (by omega),hw,ih k (i+1) _ (by omega) (by omega) (by rw[ByteArray.size_append,z3];omega),hx]
    simp[hexL,ByteArray.data_append]
theorem spec_l9Hex_eq(s:ByteArray)(hs:s.size<=256){k:Nat}(hk:300<=k):spec_l9Hex.f k s=some ⟨(hexL s.data.toList).toArray⟩:=by
  unfold spec_l9Hex.f
  have:=spec_l9Hex_l0 s (by omega) s.size k 0 ⟨#[]⟩ (by omega) (by omega) (Nat.zero_le _)
  rw[show((0:Nat):Int)=0 from rfl]at this
  rw[this]
  simp
theorem impl_hexText_go:∀(l:List UInt8) (acc:ByteArray),acc.size+2*l.length<=140737488355328->impl_hexText.go l acc=some ⟨(acc.data.toList++hexL l).toArray⟩
  |[],acc,_=>by simp[impl_hexText.go,hexL]
  | c::r,acc,h=>by
    have h256:=c.toNat_lt
    rw[List.length_cons]at h
    have hX:=impl_hexDigits_eq c.toNat 2 (by omega) (by omega) (by omega) (by rw[show 16 ^ 2=256 from rfl];omega)
    rw[show((2:Nat):Int)=2 from rfl]at hX
    have z3:(⟨(hexFix 2 c.toNat).toArray⟩:ByteArray).size=2:=by rw[bytes_size,hexFix_len]
    rw[impl_hexText.go,hX]
    simp only[Option.bind_some]
    rw[if_pos (by omega),impl_hexText_go r _ (by rw[ByteArray.size_append,z3];omega)]
    simp[hexL,ByteArray.data_append]
theorem impl_hexText_eq(s:ByteArray)(hs:s.size<=1048576):impl_hexText.f s=some ⟨(hexL s.data.toList).toArray⟩:=by
  unfold impl_hexText.f
  rw[if_pos hs,impl_hexText_go _ _ (by rw[len_list];show 0+_<=_;omega)]
  simp
def wSec:List UInt8:=[115,101,99,116,105,111,110]
def wPat:List UInt8:=[112,97,116,99,104]
def wSym:List UInt8:=[115,121,109,98,111,108]
def wAss:List UInt8:=[97,115,115,101,114,116]
def exprL(e:List S124):List UInt8:=(exprT (e.map nd_)).data.toList
def patL(p:S79):List UInt8:=lineL [wPat,Go.Lib.itoa p.f0,Go.Lib.itoa p.f1,exprL p.f2]
def secHead(x:S71):List UInt8:=lineL [wSec,x.f0.data.toList,Go.Lib.itoa x.f1,Go.Lib.itoa x.f2,Go.Lib.itoa x.f3,hexL x.f4.data.toList]
def secL(x:S71):List UInt8:=secHead x++(x.f5.map patL).flatten
def osymL(y:S72):List UInt8:=lineL [wSym,y.f0.data.toList,Go.Lib.itoa y.f1,Go.Lib.itoa y.f2,Go.Lib.itoa y.f3.toInt]
def assL(e:List S124):List UInt8:=lineL [wAss,exprL e]
def objL(secs:List S71)(syms:List S72)(ass:List (List S124)):List UInt8:=(secs.map secL).flatten++((syms.map osymL).flatten++(ass.map assL).flatten)
def objText(secs:List S71)(syms:List S72)(ass:List (List S124)):ByteArray:=if objOk secs syms ass=true then⟨(objL secs syms ass).toArray⟩else⟨#[]⟩
theorem exprL_len(e:List S124):(exprL e).length<=540:=by
  unfold exprL exprT
  split
  · rename_i h
    obtain⟨h1,_,h3⟩:=exprOk_parts h
    rw[List.length_map]at h1
    have:=join_len_le 32 17 ((e.map nd_).map nodeT) (by
      intro x hx
      obtain⟨y,hy,rfl⟩:=List.mem_map.1 hx
      exact nodeT_len (h3 y hy))
    rw[List.length_map,List.length_map]at this
    show(Go.Lib.join _ _).length<=540
    omega
  · decide
theorem patOk_in{n:Int}{x:S79}(h:patOk n x=true)(hn:n<=256):(0<=x.f0/\x.f0<=256)/\(1<=x.f1/\x.f1<=3)/\exprOk (x.f2.map nd_)=true:=by
  unfold patOk at h
  simp only[Bool.and_eq_true,inR_iff]at h
  refine⟨?_,h.1,h.2.2⟩
  have:=h.2.1
  split at this <;> omega
theorem secOk_in{x:S71}(h:secOkS x=true):nameOk x.f0=true/\(0<=x.f1/\x.f1<=2)/\x.f4.size<=256/\x.f5.length<=256/\(-1<=x.f3/\x.f3<=65535)/\(-1<=x.f2/\x.f2<=15)/\∀ p ∈ x.f5,patOk x.f4.size p=true:=by
  unfold secOkS secOk at h
  simp only[Bool.and_eq_true,Bool.or_eq_true,inR_iff,decide_eq_true_eq,List.all_eq_true]at h
  obtain⟨h1,h2,h3,h4,h5,h6,⟨h7,_⟩,_⟩:=h
  have hb:0<=secBase x.f1/\secBase x.f1<=49152:=by
    unfold secBase
    split
    · omega
    · split <;> omega
  exact⟨h1,h2,h3,h4,by omega,by omega,h7⟩
theorem name_small{s:ByteArray}(h:nameOk s=true):1<=s.size/\s.size<=16:=by
  unfold nameOk at h
  simp only[Bool.and_eq_true,inR_iff]at h
  omega
theorem symOk_in{secs:List S71}{y:S72}(hs:secs.length<=12)(hx:∀ x ∈ secs,secOkS x=true)(h:symOk secs y=true):nameOk y.f0=true/\(-1<=y.f1/\y.f1<=11)/\(-2147483648<=y.f2/\y.f2<=2147483647):=by
  unfold symOk at h
  simp only[Bool.and_eq_true,inR_iff]at h
  obtain⟨h1,h2,h3⟩:=h
  refine⟨h1,by omega,?_⟩
  split at h3
  · rw[inR_iff]at h3
    rw[List.getD_eq_getElem?_getD,List.getElem?_eq_getElem (by omega:y.f1.toNat<secs.length)]at h3
    have:=(secOk_in (hx _ (List.getElem_mem (l:=secs) (n:=y.f1.toNat) (by omega)))).2.2.1
    simp only[Option.getD_some]at h3
    omega
  · rw[inR_iff]at h3
    exact h3
theorem symsIdx_all(secs:List S71)(l:List S72):∀ n i,i+n=l.length->symsIdx secs l n i=true->∀ y ∈ l.drop i,symOk secs y=true
  | 0,i,hi,_,y,hy=>by
    rw[List.drop_eq_nil_of_le (by omega)]at hy
    cases hy
  | n+1,i,hi,h,y,hy=>by
    rw[symsIdx,Bool.and_eq_true,Bool.and_eq_true]at h
    rw[drop_at z72 l i (by omega)]at hy
    rcases List.mem_cons.1 hy with rfl|hy
    · exact h.1.1
    · exact symsIdx_all secs l n (i+1) (by omega) h.2 y hy
theorem objOk_parts{secs:List S71}{syms:List S72}{ass:List (List S124)}(h:objOk secs syms ass=true):secs.length<=12/\syms.length<=200/\ass.length<=12/\(∀ x ∈ secs,secOkS x=true)/\(∀ y ∈ syms,symOk secs y=true)/\∀ e ∈ ass,assOk e=true:=by
  unfold objOk at h
  simp only[Bool.and_eq_true,decide_eq_true_eq,List.all_eq_true]at h
  obtain⟨h1,h2,h3,h4,h5,h6⟩:=h
  refine⟨h1,h2,h3,h4,fun y hy=>?_,h6⟩
  have:=symsIdx_all secs syms syms.length 0 (by omega) h5
  rw[List.drop_zero]at this
  exact this y hy
theorem patL_len{n:Int}{p:S79}(h:patOk n p=true)(hn:n<=256):(patL p).length<=600:=by
  obtain⟨h1,h2,_⟩:=patOk_in h hn
  have:=itoa_len p.f0 (by omega) (by omega)
  have:=itoa_len p.f1 (by omega) (by omega)
  have:=exprL_len p.f2
  unfold patL lineL wPat
  simp only[Go.Lib.join_cons,Go.Lib.joinTail,List.map_cons,List.map_nil,List.flatten_cons,List.flatten_nil,List.length_append,List.length_cons,List.length_nil]
  omega
theorem secHead_len{x:S71}(h:secOkS x=true):(secHead x).length<=700:=by
  obtain⟨h1,h2,h3,h4,h5,h6,_⟩:=secOk_in h
  have:=name_small h1
  have:=itoa_len x.f1 (by omega) (by omega)
  have:=itoa_len x.f2 (by omega) (by omega)
  have:=itoa_len x.f3 (by omega) (by omega)
  have hx:=hexL_len x.f4.data.toList
  have e1:x.f4.data.toList.length=x.f4.size:=len_list _
  have e2:x.f0.data.toList.length=x.f0.size:=len_list _
  unfold secHead lineL wSec
  simp only[Go.Lib.join_cons,Go.Lib.joinTail,List.map_cons,List.map_nil,List.flatten_cons,List.flatten_nil,List.length_append,List.length_cons,List.length_nil]
  omega
theorem secL_len{x:S71}(h:secOkS x=true):(secL x).length<=200000:=by
  have h1:=secHead_len h
  obtain⟨_,_,h3,h4,_,_,h7⟩:=secOk_in h
  have h2:=flat_len patL 600 x.f5 (fun p hp=>patL_len (h7 p hp) (by omega))
  have:600*x.f5.length<=600*256:=Nat.mul_le_mul_left _ h4
  unfold secL
  rw[List.length_append]
  omega
theorem osymL_len{secs:List S71}{y:S72}(hs:secs.length<=12)(hx:∀ x ∈ secs,secOkS x=true)(h:symOk secs y=true):(osymL y).length<=120:=by
  obtain⟨h1,h2,h3⟩:=symOk_in hs hx h
  have:=name_small h1
  have:=itoa_len y.f1 (by omega) (by omega)
  have:=itoa_len y.f2 (by omega) (by omega)
  have hb:0<=y.f3.toInt/\y.f3.toInt<=1:=by cases y.f3 <;> decide
  have:=itoa_len y.f3.toInt (by omega) (by omega)
  have e2:y.f0.data.toList.length=y.f0.size:=len_list _
  unfold osymL lineL wSym
  simp only[Go.Lib.join_cons,Go.Lib.joinTail,List.map_cons,List.map_nil,List.flatten_cons,List.flatten_nil,List.length_append,List.length_cons,List.length_nil]
  omega
theorem assL_len(e:List S124):(assL e).length<=600:=by
  have:=exprL_len e
  unfold assL lineL wAss
  simp only[Go.Lib.join_cons,Go.Lib.joinTail,List.map_cons,List.map_nil,List.flatten_cons,List.flatten_nil,List.length_append,List.length_cons,List.length_nil]
  omega
theorem exprT_size(e:List S124):(exprT (e.map nd_)).size<=540:=by
  have:=exprL_len e
  unfold exprL at this
  rw[len_list]at this
  exact this
theorem itoa_size(n:Int)(h:-9223372036854775808<=n/\n<=9223372036854775807):(⟨(Go.Lib.itoa n).toArray⟩:ByteArray).size<=21:=by
  rw[bytes_size]
  exact itoa_len n h.1 h.2
set_option maxRecDepth 100000 in
theorem spec_l9Text_l3(secs:List S71)(syms:List S72)(ass:List (List S124))(hl:ass.length<=12)(hok:∀ e ∈ ass,assOk e=true):∀(n k i:Nat) (acc:ByteArray),i+n=ass.length->n+300<=k->acc.size+600*n<=10000000->spec_l9Text.l3 k acc (i:Int) secs syms ass=some ⟨(acc.data.toList++((ass.drop i).map assL).flatten).toArray⟩:=by
  intro n
  induction n with
  | zero=>
    intro k i acc hi hk ha
    obtain⟨k,rfl⟩:∃ j,k=j+1:=⟨k - 1,by omega⟩
    rw[spec_l9Text.l3,if_neg (by omega),List.drop_eq_nil_of_le (by omega)]
    simp
  | succ n ih=>
    intro k i acc hi hk ha
    obtain⟨k,rfl⟩:∃ j,k=j+1:=⟨k - 1,by omega⟩
    have hw:wrap64 ((i:Int)+1)=((i+1:Nat):Int):=by rw[w64 (by omega) (by omega)];omega
    have hrd:rd_L3 ass (i:Int)=ass.getD i []:=by unfold rd_L3;rw[Int.toNat_natCast]
    have hd:=drop_at [] ass i (by omega)
    have hm:=hok _ (getD_mem [] ass i (by omega))
    have hlen:(ass.getD i []).length<=30:=by
      have:=(exprOk_parts hm).1
      rw[List.length_map]at this
      exact this
    rw[spec_l9Text.l3,if_pos (by omega),hrd,hd,hw]
    generalize ass.getD i []=e at hlen hm ⊢
    have hz:=exprT_size e
    have c1:(⟨#[97,115,115,101,114,116,32]⟩:ByteArray).size=7:=rfl
    have c2:(⟨#[10]⟩:ByteArray).size=1:=rfl
    rw[if_pos (by omega),if_pos (by omega),spec_ExprText_eq e (by omega) (by omega)]
    simp only[Option.bind_some]
    rw[if_pos (by simp only[ByteArray.size_append];omega),if_pos (by simp only[ByteArray.size_append];omega),ih k (i+1) _ (by omega) (by omega) (by simp only[ByteArray.size_append];omega)]
    simp[ByteArray.data_append,assL,lineL,Go.Lib.join_cons,Go.Lib.joinTail,wAss,exprL]
set_option maxRecDepth 100000 in
theorem spec_l9Text_l2(secs:List S71)(syms:List S72)(ass:List (List S124))(hs:secs.length<=12)(hx:∀ x ∈ secs,secOkS x=true)(hl:syms.length<=200)(hok:∀ y ∈ syms,symOk secs y=true)(T:List UInt8)(hT:∀ k (acc:ByteArray),400<=k->acc.size<=9000000->spec_l9Text.l3 k acc 0 secs syms ass=some ⟨(acc.data.toList++T).toArray⟩):∀(n k i:Nat) (acc:ByteArray),i+n=syms.length->n+500<=k->acc.size+120*n<=9000000->spec_l9Text.l2 k acc (i:Int) secs syms ass=some ⟨(acc.data.toList++(((syms.drop i).map osymL).flatten++T)).toArray⟩:=by
  intro n
  induction n with
  | zero=>
    intro k i acc hi hk ha
    obtain⟨k,rfl⟩:∃ j,k=j+1:=⟨k - 1,by omega⟩
    rw[spec_l9Text.l2,if_neg (by omega),List.drop_eq_nil_of_le (by omega),hT k acc (by omega) (by omega)]
    simp
  | succ n ih=>
    intro k i acc hi hk ha
    obtain⟨k,rfl⟩:∃ j,k=j+1:=⟨k - 1,by omega⟩
    have hw:wrap64 ((i:Int)+1)=((i+1:Nat):Int):=by rw[w64 (by omega) (by omega)];omega
    have hrd:rd_T72 syms (i:Int)=syms.getD i z72:=by unfold rd_T72;rw[Int.toNat_natCast]
    have hd:=drop_at z72 syms i (by omega)
    have hm:=hok _ (getD_mem z72 syms i (by omega))
    rw[spec_l9Text.l2,if_pos (by omega),hrd,hd,hw]
    generalize syms.getD i z72=y at hm ⊢
    obtain⟨q1,q2,q3⟩:=symOk_in hs hx hm
    have q4:=name_small q1
    have hb:0<=y.f3.toInt/\y.f3.toInt<=1:=by cases y.f3 <;> decide
    have z1:=itoa_size y.f1 (by omega)
    have z2:=itoa_size y.f2 (by omega)
    have z3:=itoa_size y.f3.toInt (by omega)
    have hlen:=osymL_len hs hx hm
    have c1:(⟨#[115,121,109,98,111,108,32]⟩:ByteArray).size=7:=rfl
    have c2:(⟨#[10]⟩:ByteArray).size=1:=rfl
    have c3:(⟨#[32]⟩:ByteArray).size=1:=rfl
    rw[if_pos (by omega),if_pos (by omega),if_pos (by simp only[ByteArray.size_append];omega),if_pos (by simp only[ByteArray.size_append];omega),spec_l1Dec_wide y.f1 (by omega) (by omega)]
    simp only[Option.bind_some]
    rw[if_pos (by simp only[ByteArray.size_append];omega),if_pos (by simp only[ByteArray.size_append];omega),spec_l1Dec_wide y.f2 (by omega) (by omega)]
    simp only[Option.bind_some]
    rw[if_pos (by simp only[ByteArray.size_append];omega),if_pos (by simp only[ByteArray.size_append];omega),spec_l3One_eq]
    simp only[Option.bind_some]
    rw[spec_l1Dec_wide y.f3.toInt (by omega) (by omega)]
    simp only[Option.bind_some]
    rw[if_pos (by simp only[ByteArray.size_append];omega),if_pos (by simp only[ByteArray.size_append];omega),ih k (i+1) _ (by omega) (by omega) (by simp only[ByteArray.size_append];omega)]
    simp[ByteArray.data_append,osymL,lineL,Go.Lib.join_cons,Go.Lib.joinTail,wSym]
set_option maxRecDepth 100000 in
theorem spec_l9Text_l1(secs:List S71)(syms:List S72)(ass:List (List S124))(i:Int)(nm:ByteArray)(a b c:Int)(d:ByteArray)(l:List S79)(hl:l.length<=256)(m:Int)(hm:m<=256)(hok:∀ p ∈ l,patOk m p=true)(U:List UInt8)(B K:Nat)(hB:B<=9000000)(hK:300<=K)(hU:∀ k (acc:ByteArray),K<=k->acc.size<=B->spec_l9Text.l0 k acc (wrap64 (i+1)) secs syms ass=some ⟨(acc.data.toList++U).toArray⟩):∀(n k j:Nat) (acc:ByteArray),j+n=l.length->n+K+1<=k->acc.size+600*n<=B->spec_l9Text.l1 k acc i (j:Int) secs syms ass nm a b c d l=some ⟨(acc.data.toList++(((l.drop j).map patL).flatten++U)).toArray⟩:=by
  intro n
  induction n with
  | zero=>
    intro k j acc hj hk ha
    obtain⟨k,rfl⟩:∃ j,k=j+1:=⟨k - 1,by omega⟩
    rw[spec_l9Text.l1,if_neg (by omega),List.drop_eq_nil_of_le (by omega),hU k acc (by omega) (by omega)]
    simp
  | succ n ih=>
    intro k j acc hj hk ha
    obtain⟨k,rfl⟩:∃ j,k=j+1:=⟨k - 1,by omega⟩
    have hw:wrap64 ((j:Int)+1)=((j+1:Nat):Int):=by rw[w64 (by omega) (by omega)];omega
    have hrd:rd_T79 l (j:Int)=l.getD j z79:=by unfold rd_T79;rw[Int.toNat_natCast]
    have hd:=drop_at z79 l j (by omega)
    have hm':=hok _ (getD_mem z79 l j (by omega))
    rw[spec_l9Text.l1,if_pos (by omega),hrd,hd,hw]
    generalize l.getD j z79=p at hm' ⊢
    obtain⟨q1,q2,q3⟩:=patOk_in hm' hm
    have hpl:p.f2.length<=30:=by
      have:=(exprOk_parts q3).1
      rw[List.length_map]at this
      exact this
    have z1:=itoa_size p.f0 (by omega)
    have z2:=itoa_size p.f1 (by omega)
    have z3:=exprT_size p.f2
    have c1:(⟨#[112,97,116,99,104,32]⟩:ByteArray).size=6:=rfl
    have c2:(⟨#[10]⟩:ByteArray).size=1:=rfl
    have c3:(⟨#[32]⟩:ByteArray).size=1:=rfl
    rw[if_pos (by omega),if_pos (by omega),spec_l1Dec_wide p.f0 (by omega) (by omega)]
    simp only[Option.bind_some]
    rw[if_pos (by simp only[ByteArray.size_append];omega),if_pos (by simp only[ByteArray.size_append];omega),spec_l1Dec_wide p.f1 (by omega) (by omega)]
    simp only[Option.bind_some]
    rw[if_pos (by simp only[ByteArray.size_append];omega),if_pos (by simp only[ByteArray.size_append];omega),spec_ExprText_eq p.f2 (by omega) (by omega)]
    simp only[Option.bind_some]
    rw[if_pos (by simp only[ByteArray.size_append];omega),if_pos (by simp only[ByteArray.size_append];omega),ih k (j+1) _ (by omega) (by omega) (by simp only[ByteArray.size_append];omega)]
    simp[ByteArray.data_append,patL,lineL,Go.Lib.join_cons,Go.Lib.joinTail,wPat,exprL]
set_option maxRecDepth 100000 in
theorem spec_l9Text_l0(secs:List S71)(syms:List S72)(ass:List (List S124))(hs:secs.length<=12)(hx:∀ x ∈ secs,secOkS x=true)(T:List UInt8)(hT:∀ k (acc:ByteArray),1000<=k->acc.size<=8000000->spec_l9Text.l2 k acc 0 secs syms ass=some ⟨(acc.data.toList++T).toArray⟩):∀(n k i:Nat) (acc:ByteArray),i+n=secs.length->300*n+1001<=k->acc.size+200000*n<=8000000->spec_l9Text.l0 k acc (i:Int) secs syms ass=some ⟨(acc.data.toList++(((secs.drop i).map secL).flatten++T)).toArray⟩:=by
  intro n
  induction n with
  | zero=>
    intro k i acc hi hk ha
    obtain⟨k,rfl⟩:∃ j,k=j+1:=⟨k - 1,by omega⟩
    rw[spec_l9Text.l0,if_neg (by omega),List.drop_eq_nil_of_le (by omega),hT k acc (by omega) (by omega)]
    simp
  | succ n ih=>
    intro k i acc hi hk ha
    obtain⟨k,rfl⟩:∃ j,k=j+1:=⟨k - 1,by omega⟩
    have hw:wrap64 ((i:Int)+1)=((i+1:Nat):Int):=by rw[w64 (by omega) (by omega)];omega
    have hrd:rd_T71 secs (i:Int)=secs.getD i z71:=by unfold rd_T71;rw[Int.toNat_natCast]
    have hd:=drop_at z71 secs i (by omega)
    have hm:=hx _ (getD_mem z71 secs i (by omega))
    rw[spec_l9Text.l0,if_pos (by omega),hrd,hd]
    generalize secs.getD i z71=y at hm ⊢
    obtain⟨q1,q2,q3,q4,q5,q6,q7⟩:=secOk_in hm
    have q8:=name_small q1
    have z1:=itoa_size y.f1 (by omega)
    have z2:=itoa_size y.f2 (by omega)
    have z3:=itoa_size y.f3 (by omega)
    have z4:(⟨(hexL y.f4.data.toList).toArray⟩:ByteArray).size=2*y.f4.size:=by rw[bytes_size,hexL_len,len_list]
    have c1:(⟨#[115,101,99,116,105,111,110,32]⟩:ByteArray).size=8:=rfl
    have c2:(⟨#[10]⟩:ByteArray).size=1:=rfl
    have c3:(⟨#[32]⟩:ByteArray).size=1:=rfl
    have h600:600*y.f5.length<=600*256:=Nat.mul_le_mul_left _ q4
    rw[if_pos (by omega),if_pos (by omega),if_pos (by simp only[ByteArray.size_append];omega),if_pos (by simp only[ByteArray.size_append];omega),spec_l1Dec_wide y.f1 (by omega) (by omega)]
    simp only[Option.bind_some]
    rw[if_pos (by simp only[ByteArray.size_append];omega),if_pos (by simp only[ByteArray.size_append];omega),spec_l1Dec_wide y.f2 (by omega) (by omega)]
    simp only[Option.bind_some]
    rw[if_pos (by simp only[ByteArray.size_append];omega),if_pos (by simp only[ByteArray.size_append];omega),spec_l1Dec_wide y.f3 (by omega) (by omega)]
    simp only[Option.bind_some]
    rw[if_pos (by simp only[ByteArray.size_append];omega),if_pos (by simp only[ByteArray.size_append];omega),spec_l9Hex_eq y.f4 q3 (by omega)]
    simp only[Option.bind_some]
    rw[if_pos (by simp only[ByteArray.size_append];omega),if_pos (by simp only[ByteArray.size_append];omega)]
    have h1:=spec_l9Text_l1 secs syms ass (i:Int) y.f0 y.f1 y.f2 y.f3 y.f4 y.f5 q4 (y.f4.size:Int) (by omega) q7 (((secs.drop (i+1)).map secL).flatten++T) (8000000 - 200000*n) (300*n+1001) (by omega) (by omega) (fun k acc h1 h2=>by rw[hw];exact ih k (i+1) acc (by omega) h1 (by omega)) y.f5.length k 0
    rw[show((0:Nat):Int)=0 from rfl]at h1
    rw[h1 _ (by omega) (by omega) (by simp only[ByteArray.size_append];omega)]
    simp[ByteArray.data_append,secL,secHead,lineL,Go.Lib.join_cons,Go.Lib.joinTail,wSec]
theorem spec_ObjectText_eq(secs:List S71)(syms:List S72)(ass:List (List S124))(hx:∀ x ∈ secs,secFitI x)(hc:∀ x ∈ ass,x.length<=1048576){k:Nat}(hk:4500000<=k):spec_ObjectText.f k secs syms ass=some (objText secs syms ass):=by
  unfold spec_ObjectText.f objText
  rw[spec_ObjectOk_eq secs syms ass hx hc hk]
  simp only[Option.bind_some]
  by_cases h:objOk secs syms ass=true
  · rw[if_pos h,if_pos h]
    obtain⟨h1,h2,h3,h4,h5,h6⟩:=objOk_parts h
    have t3:=fun k (acc:ByteArray) (hk:400<=k) (ha:acc.size<=9000000)=>spec_l9Text_l3 secs syms ass h3 h6 ass.length k 0 acc (by omega) (by omega) (by omega)
    have t2:=fun k (acc:ByteArray) (hk:1000<=k) (ha:acc.size<=8000000)=>spec_l9Text_l2 secs syms ass h1 h4 h2 h5 _ t3 syms.length k 0 acc (by omega) (by omega) (by omega)
    have t0:=spec_l9Text_l0 secs syms ass h1 h4 _ t2 secs.length k 0 ⟨#[]⟩ (by omega) (by omega) (by show 0+_<=_;omega)
    rw[show((0:Nat):Int)=0 from rfl]at t0
    unfold spec_l9Text.f
    rw[t0]
    simp[objL]
  · rw[if_neg h,if_neg h]
theorem impl_decimal_eq(n:Int)(h:-9223372036854775808<=n/\n<=9223372036854775807):impl_decimal.f n=some ⟨(Go.Lib.itoa n).toArray⟩:=by
  unfold impl_decimal.f strconv_FormatInt.f
  rw[if_pos rfl,if_pos (by omega),if_pos (by omega)]
  rfl
theorem impl_spaced_eq(l:List ByteArray)(h:l.length<=100)(hz:(Go.Lib.join (l.map (·.data.toList)) [32]).length<=1000000):impl_spaced.f l=some ⟨(lineL (l.map (·.data.toList))).toArray⟩:=by
  unfold impl_spaced.f strings_Join.f
  rw[if_pos (by omega),if_pos (by show(Go.Lib.join _ [32]).length<=_;omega)]
  simp only[Option.bind_some]
  have hs:(⟨(Go.Lib.join (l.map (·.data.toList)) (⟨#[32]⟩:ByteArray).data.toList).toArray⟩:ByteArray).size=(Go.Lib.join (l.map (·.data.toList)) [32]).length:=bytes_size _
  rw[if_pos (by rw[hs];omega)]
  refine congrArg some (ByteArray.ext (Array.toList_inj.1 ?_))
  simp[ByteArray.data_append,lineL]
theorem impl_patRow_eq{n:Int}{p:S79}(h:patOk n p=true)(hn:n<=256){k:Nat}(hk:40<=k):impl_objectText.patRow k p=some ⟨(patL p).toArray⟩:=by
  obtain⟨q1,q2,q3⟩:=patOk_in h hn
  have hl:=patL_len h hn
  unfold impl_objectText.patRow
  rw[impl_decimal_eq p.f0 (by omega),impl_decimal_eq p.f1 (by omega),impl_exprText_eq p.f2 q3 hk]
  simp only[Option.bind_some]
  rw[impl_spaced_eq _ (by simp) (by
    unfold patL lineL at hl
    rw[List.length_append]at hl
    refine Nat.le_trans (Nat.le_of_eq ?_) (show(Go.Lib.join [wPat,Go.Lib.itoa p.f0,Go.Lib.itoa p.f1,exprL p.f2] [32]).length<=1000000 by omega)
    rfl)]
  rfl
theorem impl_secRow_eq{y:S71}(h:secOkS y=true):impl_objectText.secRow y=some ⟨(secHead y).toArray⟩:=by
  obtain⟨q1,q2,q3,q4,q5,q6,q7⟩:=secOk_in h
  have hl:=secHead_len h
  unfold impl_objectText.secRow
  rw[impl_decimal_eq y.f1 (by omega),impl_decimal_eq y.f2 (by omega),impl_decimal_eq y.f3 (by omega),impl_hexText_eq y.f4 (by omega)]
  simp only[Option.bind_some]
  rw[impl_spaced_eq _ (by simp) (by
    unfold secHead lineL at hl
    rw[List.length_append]at hl
    refine Nat.le_trans (Nat.le_of_eq ?_) (show(Go.Lib.join [wSec,y.f0.data.toList,Go.Lib.itoa y.f1,Go.Lib.itoa y.f2,Go.Lib.itoa y.f3,hexL y.f4.data.toList] [32]).length<=1000000 by omega)
    rfl)]
  rfl
theorem impl_symRow_eq{secs:List S71}{y:S72}(hs:secs.length<=12)(hx:∀ x ∈ secs,secOkS x=true)(h:symOk secs y=true):impl_objectText.symRow y=some ⟨(osymL y).toArray⟩:=by
  obtain⟨q1,q2,q3⟩:=symOk_in hs hx h
  have hl:=osymL_len hs hx h
  unfold impl_objectText.symRow
  rw[impl_decimal_eq y.f1 (by omega),impl_decimal_eq y.f2 (by omega)]
  simp only[Option.bind_some]
  have e:((if y.f3=true then(⟨#[49]⟩:ByteArray)else(⟨#[48]⟩:ByteArray)))=⟨(Go.Lib.itoa y.f3.toInt).toArray⟩:=by
    cases y.f3
    · show(⟨#[48]⟩:ByteArray)=⟨(Go.Lib.itoa 0).toArray⟩
      rw[show Go.Lib.itoa 0=[48]from by unfold Go.Lib.itoa;rw[if_neg (by decide),Go.Lib.decDigits];rfl]
    · show(⟨#[49]⟩:ByteArray)=⟨(Go.Lib.itoa 1).toArray⟩
      rw[show Go.Lib.itoa 1=[49]from by unfold Go.Lib.itoa;rw[if_neg (by decide),Go.Lib.decDigits];rfl]
  rw[e,impl_spaced_eq _ (by simp) (by
    unfold osymL lineL at hl
    rw[List.length_append]at hl
    refine Nat.le_trans (Nat.le_of_eq ?_) (show(Go.Lib.join [wSym,y.f0.data.toList,Go.Lib.itoa y.f1,Go.Lib.itoa y.f2,Go.Lib.itoa y.f3.toInt] [32]).length<=1000000 by omega)
    rfl)]
  rfl
theorem impl_assRow_eq{e:List S124}(h:assOk e=true){k:Nat}(hk:40<=k):impl_objectText.assRow k e=some ⟨(assL e).toArray⟩:=by
  have hl:=assL_len e
  unfold impl_objectText.assRow
  rw[impl_exprText_eq e h hk]
  simp only[Option.bind_some]
  rw[impl_spaced_eq _ (by simp) (by
    unfold assL lineL at hl
    rw[List.length_append]at hl
    refine Nat.le_trans (Nat.le_of_eq ?_) (show(Go.Lib.join [wAss,exprL e] [32]).length<=1000000 by omega)
    rfl)]
  rfl
theorem mk_size(l:List UInt8):(⟨l.toArray⟩:ByteArray).size=l.length:=bytes_size l
theorem impl_pats_eq{n:Int}(hn:n<=256){k:Nat}(hk:40<=k):∀(l:List S79) (acc:ByteArray),(∀ p ∈ l,patOk n p=true)->acc.size+600*l.length<=10000000->impl_objectText.pats k l acc=some ⟨(acc.data.toList++(l.map patL).flatten).toArray⟩
  |[],acc,_,_=>by simp[impl_objectText.pats]
  | p::r,acc,h,hz=>by
    have hp:=h p List.mem_cons_self
    have hl:=patL_len hp hn
    have zp:=mk_size (patL p)
    rw[List.length_cons]at hz
    rw[impl_objectText.pats,impl_patRow_eq hp hn hk]
    simp only[Option.bind_some]
    rw[if_pos (by omega),impl_pats_eq hn hk r _ (fun q hq=>h q (List.mem_cons_of_mem _ hq)) (by rw[ByteArray.size_append];omega)]
    simp[ByteArray.data_append]
theorem impl_secs_eq{k:Nat}(hk:40<=k):∀(l:List S71) (acc:ByteArray),(∀ y ∈ l,secOkS y=true)->acc.size+200000*l.length<=9000000->impl_objectText.secs k l acc=some ⟨(acc.data.toList++(l.map secL).flatten).toArray⟩
  |[],acc,_,_=>by simp[impl_objectText.secs]
  | y :: r,acc,h,hz=>by
    have hp:=h y List.mem_cons_self
    have hl:=secHead_len hp
    obtain⟨_,_,q3,q4,_,_,q7⟩:=secOk_in hp
    have h600:600*y.f5.length<=600*256:=Nat.mul_le_mul_left _ q4
    have hsl:=secL_len hp
    have zp:=mk_size (secHead y)
    rw[List.length_cons]at hz
    rw[impl_objectText.secs,impl_secRow_eq hp]
    simp only[Option.bind_some]
    rw[if_pos (by omega),impl_pats_eq (by omega) hk y.f5 _ q7 (by rw[ByteArray.size_append];omega)]
    simp only[Option.bind_some]
    rw[impl_secs_eq hk r _ (fun q hq=>h q (List.mem_cons_of_mem _ hq)) (by
      rw[mk_size,List.length_append,len_list,ByteArray.size_append]
      unfold secL at hsl
      rw[List.length_append]at hsl
      omega)]
    simp[ByteArray.data_append,secL]
theorem impl_syms_eq{secs:List S71}(hs:secs.length<=12)(hx:∀ x ∈ secs,secOkS x=true):∀(l:List S72) (acc:ByteArray),(∀ y ∈ l,symOk secs y=true)->acc.size+120*l.length<=10000000->impl_objectText.syms l acc=some ⟨(acc.data.toList++(l.map osymL).flatten).toArray⟩
  |[],acc,_,_=>by simp[impl_objectText.syms]
  | y::r,acc,h,hz=>by
    have hp:=h y List.mem_cons_self
    have hl:=osymL_len hs hx hp
    have zp:=mk_size (osymL y)
    rw[List.length_cons]at hz
    rw[impl_objectText.syms,impl_symRow_eq hs hx hp]
    simp only[Option.bind_some]
    rw[if_pos (by omega),impl_syms_eq hs hx r _ (fun q hq=>h q (List.mem_cons_of_mem _ hq)) (by rw[ByteArray.size_append];omega)]
    simp[ByteArray.data_append]
theorem impl_asss_eq{k:Nat}(hk:40<=k):∀(l:List (List S124)) (acc:ByteArray),(∀ y ∈ l,assOk y=true)->acc.size+600*l.length<=11000000->impl_objectText.asss k l acc=some ⟨(acc.data.toList++(l.map assL).flatten).toArray⟩
  |[],acc,_,_=>by simp[impl_objectText.asss]
  | y::r,acc,h,hz=>by
    have hl:=assL_len y
    have zp:=mk_size (assL y)
    rw[List.length_cons]at hz
    rw[impl_objectText.asss,impl_assRow_eq (h y List.mem_cons_self) hk]
    simp only[Option.bind_some]
    rw[if_pos (by omega),impl_asss_eq hk r _ (fun q hq=>h q (List.mem_cons_of_mem _ hq)) (by rw[ByteArray.size_append];omega)]
    simp[ByteArray.data_append]
theorem impl_objectText_eq(secs:List S71)(syms:List S72)(ass:List (List S124))(h:objOk secs syms ass=true){k:Nat}(hk:40<=k):impl_objectText.f k secs syms ass=some ⟨(objL secs syms ass).toArray⟩:=by
  obtain⟨h1,h2,h3,h4,h5,h6⟩:=objOk_parts h
  have n1:=flat_len secL 200000 secs (fun x hx=>secL_len (h4 x hx))
  have n2:=flat_len osymL 120 syms (fun y hy=>osymL_len h1 h4 (h5 y hy))
  unfold impl_objectText.f
  rw[impl_secs_eq hk secs _ h4 (by show 0+_<=_;omega)]
  simp only[Option.bind_some]
  rw[impl_syms_eq h1 h4 syms _ h5 (by rw[mk_size];simp only[List.nil_append];omega)]
  simp only[Option.bind_some]
  rw[impl_asss_eq hk ass _ h6 (by rw[mk_size,List.length_append];simp only[List.nil_append];omega)]
  simp[objL]
theorem dec_free(n:Nat):(32:UInt8) ∉ Go.Lib.decDigits n:=by
  intro h
  have:=(dec_fold n).2 32 h
  unfold digitB at this
  exact absurd this.1 (by decide)
theorem nodeT_free {x:Nd} (h:nodeOk x=true):(32:UInt8) ∉ nodeT x:=by
  unfold nodeT nodeT3
  have hname:∀ s:ByteArray,nameOk s=true->(32:UInt8) ∉ s.data.toList:=by
    intro s hs hm
    have:=nam_range ((name_bytes hs).1 32 hm)
    rw[show((32:UInt8).toNat:Int)=32 from rfl]at this
    omega
  unfold nodeOk at h
  by_cases h1:x.1=1
  · rw[if_pos h1,Bool.and_eq_true,inR_iff]at h
    rw[if_pos h1]
    unfold Go.Lib.itoa
    rw[if_neg (by omega)]
    exact dec_free _
  · by_cases h2:x.1=2\/x.1=3
    · rw[if_neg h1,if_pos h2,Bool.and_eq_true]at h
      rcases h2 with h2|h2
      · rw[if_neg h1,if_pos h2]
        exact hname _ h.2
      · rw[if_neg h1,if_neg (by omega),if_pos h2]
        intro hm
        rcases List.mem_cons.1 hm with hm|hm
        · exact absurd hm (by decide)
        · exact hname _ h.2 hm
    · rw[if_neg h1,if_neg h2,Bool.and_eq_true,inR_iff]at h
      rw[if_neg h1,if_neg (fun e=>h2 (.inl e)),if_neg (fun e=>h2 (.inr e))]
      rcases opW_cases h.1 with e|e|e|e|e|e|e|e|e|e|e|e|e|e <;> rw[e] <;> decide
theorem nodeOk_form{x:Nd}(h:nodeOk x=true):(x.1=1/\0<=x.2.1/\x.2.1<=65535/\x.2.2.size=0)\/((x.1=2\/x.1=3)/\x.2.1=0/\nameOk x.2.2=true)\/(4<=x.1/\x.1<=17/\x.2.1=0/\x.2.2.size=0):=by
  unfold nodeOk at h
  by_cases h1:x.1=1
  · rw[if_pos h1,Bool.and_eq_true,inR_iff,beq_iff_eq]at h
    exact .inl ⟨h1,h.1.1,h.1.2,size_zero.1 h.2⟩
  · by_cases h2:x.1=2\/x.1=3
    · rw[if_neg h1,if_pos h2,Bool.and_eq_true,beq_iff_eq]at h
      exact .inr (.inl ⟨h2,h.1,h.2⟩)
    · rw[if_neg h1,if_neg h2,Bool.and_eq_true,Bool.and_eq_true,inR_iff,beq_iff_eq,beq_iff_eq]at h
      exact .inr (.inr ⟨h.1.1,h.1.2,h.2.1,size_zero.1 h.2.2⟩)
theorem size_nil{s:ByteArray}(h:s.size=0):s=⟨#[]⟩:=by
  have:s.data.toList=[]:=List.length_eq_zero_iff.1 (by rw[len_list];exact h)
  rw[ba_list this]
theorem opIdx_at(j:Nat)(h:j<14):opIdx (opW.getD j [])=some j:=by
  have:j=0\/j=1\/j=2\/j=3\/j=4\/j=5\/j=6\/j=7\/j=8\/j=9\/j=10\/j=11\/j=12\/j=13:=by omega
  rcases this with e|e|e|e|e|e|e|e|e|e|e|e|e|e <;> rw[e] <;> decide
theorem dig_let{c:Int}(h:isLet c=true):10<=dig c:=by
  have:=let_range h
  unfold dig
  rw[inR_neg (by omega),if_neg (by decide),inR_neg (by omega),if_neg (by decide)]
  omega
theorem parsed_dec(n:Nat)(hn:n<=65535):parsed (Go.Lib.decDigits n)=some (n:Int):=by
  unfold parsed
  rw[parse_dec n (by omega)]
theorem parsed_let(c:UInt8)(r:List UInt8)(h:¬ digitB c)(h1:c.toNat≠43)(h2:c.toNat≠45):parsed (c::r)=none:=by
  unfold parsed
  have:=parse_bad c r h1 h2 h
  cases hp:Go.Lib.parseIntB 64 (c::r)with
  |ok v=>exact absurd hp (this v)
  |_=>rfl
theorem let_bad{c:UInt8}(h:isLet (c.toNat:Int)=true):¬ digitB c/\c.toNat≠43/\c.toNat≠45/\c.toNat≠35:=by
  have:=let_range h
  unfold digitB
  omega
theorem read_num(w:ByteArray)(n:Nat)(hn:n<=65535)(hw:w.data.toList=Go.Lib.decDigits n):readS w=(1,(n:Int),⟨#[]⟩)/\readI w=(1,(n:Int),⟨#[]⟩):=by
  have hne:=dec_ne n
  obtain⟨c,r,hc⟩:∃ c r,Go.Lib.decDigits n=c::r:=by
    cases h:Go.Lib.decDigits n with
    |nil=>exact absurd h hne
    |cons c r=>exact⟨c,r,rfl⟩
  have hd:=(dec_fold n).2 c (by rw[hc];exact List.mem_cons_self)
  unfold digitB at hd
  have hop:opIdx w.data.toList=none:=by
    cases ho:opIdx w.data.toList with
    |none=>rfl
    | some j=>
      obtain⟨x,r',e,_,h2⟩:=opIdx_head ho
      rw[hw,hc]at e
      rw[<-(List.cons.inj e).1]at h2
      exact absurd hd h2
  have hh:hashB w=false:=by
    apply Bool.eq_false_iff.2
    intro h
    obtain⟨r',e⟩:=hash_list.1 h
    rw[hw,hc]at e
    have:=(List.cons.inj e).1
    rw[this]at hd
    exact absurd hd.1 (by decide)
  refine⟨?_,?_⟩
  · unfold readS
    rw[hop]
    simp only
    rw[numOf_dec n hn w hw]
  · unfold readI
    rw[hh,if_neg (by decide),hop]
    simp only
    rw[hw,parsed_dec n hn]
theorem read_same (w:ByteArray) (x:Nd) (hx:x=readS w\/x=readI w) (hok:nodeOk x=true) (hT:nodeT x=w.data.toList):readS w=x/\readI w=x:=by
  obtain⟨κ,n,s⟩:=x
  unfold nodeT nodeT3 at hT
  rcases nodeOk_form hok with⟨h1,h2,h3,h4⟩|⟨h1,h2,h3⟩|⟨h1,h2,h3,h4⟩
  · simp only at h1 h2 h3 h4 hT
    subst h1
    rw[if_pos rfl]at hT
    unfold Go.Lib.itoa at hT
    rw[if_neg (by omega)]at hT
    obtain⟨q1,q2⟩:=read_num w n.toNat (by omega) hT.symm
    rw[q1,q2,size_nil h4,show((n.toNat:Nat):Int)=n by omega]
    exact⟨rfl,rfl⟩
  · simp only at h1 h2 h3 hT
    subst h2
    obtain⟨hb,c,r,hc,bc,hl⟩:=name_bytes h3
    obtain⟨b1,b2,b3,b4⟩:=let_bad hl
    rcases h1 with h1|h1
    · subst h1
      rw[if_neg (by decide),if_pos rfl]at hT
      have hws:w=s:=by
        rw[ba_list hT.symm]
      subst hws
      have hh:hashB w=false:=by
        apply Bool.eq_false_iff.2
        intro h
        obtain⟨r',e⟩:=hash_list.1 h
        rw[hc]at e
        have:=(List.cons.inj e).1
        rw[this]at b4
        exact absurd rfl b4
      have hop:opIdx w.data.toList=none:=by
        cases ho:opIdx w.data.toList with
        |none=>rfl
        | some j=>
          rcases hx with hx|hx
          · unfold readS at hx
            rw[ho]at hx
            have:=congrArg Prod.fst hx
            simp only at this
            omega
          · unfold readI at hx
            rw[hh,if_neg (by decide),ho]at hx
            have:=congrArg Prod.fst hx
            simp only at this
            omega
      have hz:w.size≠0:=by
        have hl2:=len_list w
        rw[hc,List.length_cons]at hl2
        omega
      refine⟨?_,?_⟩
      · unfold readS
        rw[hop]
        simp only
        rw[numOf_none w hz (by rw[bc];have:=let_range hl;omega) (by rw[bc];have:=let_range hl;omega) (by rw[bc];exact dig_let hl)]
        simp only
        rw[hh,if_neg (by decide)]
      · unfold readI
        rw[hh,if_neg (by decide),hop]
        simp only
        rw[hc,parsed_let c r b1 b2 b3]
    · subst h1
      rw[if_neg (by decide),if_neg (by decide),if_pos rfl]at hT
      have hh:hashB w=true:=hash_list.2 ⟨_,hT.symm⟩
      have hop:opIdx w.data.toList=none:=by
        cases ho:opIdx w.data.toList with
        |none=>rfl
        | some j=>
          obtain⟨y,r',e,h35,_⟩:=opIdx_head ho
          rw[<-hT]at e
          rw[<-(List.cons.inj e).1]at h35
          exact absurd rfl h35
      have hz:=hh
      unfold hashB at hz
      rw[Bool.and_eq_true,decide_eq_true_eq,decide_eq_true_eq]at hz
      have hext:w.extract 1 w.size=s:=by
        have:=(ext_list w 1).2
        rw[<-hT,List.drop_succ_cons,List.drop_zero]at this
        rw[ba_list this]
      refine⟨?_,?_⟩
      · unfold readS
        rw[hop]
        simp only
        rw[numOf_none w hz.1 (by rw[hz.2];decide) (by rw[hz.2];decide) (by rw[hz.2];decide)]
        simp only
        rw[hh,if_pos rfl,hext]
      · unfold readI
        rw[hh,if_pos rfl,hext]
  · simp only at h1 h2 h3 h4 hT
    subst h3
    rw[if_neg (by omega),if_neg (by omega),if_neg (by omega)]at hT
    have hop:opIdx w.data.toList=some (κ - 4).toNat:=by
      rw[<-hT]
      exact opIdx_at _ (by omega)
    have hh:hashB w=false:=by
      apply Bool.eq_false_iff.2
      intro h
      obtain⟨r',e⟩:=hash_list.1 h
      obtain⟨y,r2,e2,h35,_⟩:=opIdx_head hop
      rw[e]at e2
      rw[<-(List.cons.inj e2).1]at h35
      exact absurd rfl h35
    have hk:(4:Int)+((κ - 4).toNat:Int)=κ:=by omega
    refine⟨?_,?_⟩
    · unfold readS
      rw[hop,size_nil h4]
      simp only[hk]
    · unfold readI
      rw[hh,if_neg (by decide),hop,size_nil h4]
      simp only[hk]
theorem texts_words{out:List Nd}{s:ByteArray}{ws:List (List UInt8)}(hok:exprOk out=true)(hw:ws≠[])(hf:∀ p ∈ ws,(32:UInt8) ∉ p)(hj:Go.Lib.join ws [32]=s.data.toList)(hT:(exprT out).toList=s.toList):out.map nodeT=ws:=by
  obtain⟨h1,h2,h3⟩:=exprOk_parts hok
  unfold exprT at hT
  rw[if_pos hok]at hT
  have he:=(list_eq_iff s _).1 hT
  refine join_inj 32 ?_ hf ?_ hw (he.trans hj.symm)
  · intro p hp
    obtain⟨x,hx,rfl⟩:=List.mem_map.1 hp
    exact nodeT_free (h3 x hx)
  · intro e
    have:=congrArg List.length e
    rw[List.length_map,List.length_nil]at this
    omega
theorem map_same(f g:ByteArray->Nd)(hfg:∀ w,(nodeOk (f w)=true)->nodeT (f w)=w.data.toList->g w=f w):∀ ws:List (List UInt8),(∀ x ∈ ws.map (fun w=>f (ofL w)),nodeOk x=true)->(ws.map (fun w=>f (ofL w))).map nodeT=ws->ws.map (fun w=>g (ofL w))=ws.map (fun w=>f (ofL w))
  |[],_,_=>rfl
  | w::r,hok,hT=>by
    rw[List.map_cons,List.map_cons]at hT
    obtain⟨t1,t2⟩:=List.cons.inj hT
    rw[List.map_cons,List.map_cons,hfg (ofL w) (hok _ List.mem_cons_self) (by rw[t1];rfl),map_same f g hfg r (fun x hx=>hok x (List.mem_cons_of_mem _ hx)) t2]
theorem nodeT_ne{x:Nd}(h:nodeOk x=true):nodeT x≠[]:=by
  unfold nodeT nodeT3
  rcases nodeOk_form h with⟨h1,h2,h3,h4⟩|⟨h1,h2,h3⟩|⟨h1,h2,h3,h4⟩
  · rw[if_pos h1]
    unfold Go.Lib.itoa
    rw[if_neg (by omega)]
    exact dec_ne _
  · rcases h1 with h1|h1
    · obtain⟨_,c,r,hc,_⟩:=name_bytes h3
      rw[if_neg (by omega),if_pos h1,hc]
      simp
    · rw[if_neg (by omega),if_neg (by omega),if_pos h1]
      simp
  · rw[if_neg (by omega),if_neg (by omega),if_neg (by omega)]
    rcases opW_cases ⟨h1,h2⟩with e|e|e|e|e|e|e|e|e|e|e|e|e|e <;> rw[e] <;> decide
theorem rd_same (s:ByteArray):rdImpl s=rdSpec s:=by
  have hf:=sp_free 32 s.data.toList
  have hj:=join_sp 32 s.data.toList
  have hw:sp 32 s.data.toList≠[]:=by unfold sp;simp
  have hnil:∀ out:List Nd,exprOk out=false->(exprT out).toList=[]:=by
    intro out h
    unfold exprT
    rw[h,if_neg (by decide)]
    exact size_zero.2 rfl
  have hs0:s.toList=[]->sp 32 s.data.toList=[[]]:=by
    intro h
    have h0:=size_zero.1 h
    have:s.data.toList=[]:=List.length_eq_zero_iff.1 (by rw[len_list];exact h0)
    rw[this]
    rfl
  generalize hws:sp 32 s.data.toList=ws at hf hj hw hs0
  have hre:rdImpl s=if ws.length > 30 then([],false)else if exprOk (ws.map fun w=>readI (ofL w))=true/\(exprT (ws.map fun w=>readI (ofL w))).toList=s.toList then((ws.map fun w=>readI (ofL w)).map mkN,true)else([],false):=by
    unfold rdImpl finI
    rw[hws]
  have hrs:rdSpec s=if(exprT ((ws.take 31).map fun w=>readS (ofL w))).toList=s.toList/\s.toList≠[]then((ws.take 31).map (fun w=>mkN (readS (ofL w))),true)else([],false):=by
    unfold rdSpec
    rw[hws]
  rw[hre,hrs]
  by_cases hlen:ws.length > 30
  · rw[if_pos hlen,if_neg]
    rintro⟨h1,h2⟩
    by_cases hok:exprOk ((ws.take 31).map fun w=>readS (ofL w))=true
    · have:=(exprOk_parts hok).1
      rw[List.length_map,List.length_take]at this
      omega
    · rw[hnil _ (Bool.eq_false_iff.2 hok)]at h1
      exact h2 h1.symm
  · rw[if_neg hlen,List.take_of_length_le (by omega)]
    by_cases hS:(exprT (ws.map fun w=>readS (ofL w))).toList=s.toList/\s.toList≠[]
    · have hok:exprOk (ws.map fun w=>readS (ofL w))=true:=by
        cases h:exprOk (ws.map fun w=>readS (ofL w))with
        |true=>rfl
        | false=>
          have h1:=hS.1
          rw[hnil _ h]at h1
          exact absurd h1.symm hS.2
      have hT:=texts_words hok hw hf hj hS.1
      have hm:=map_same readS readI (fun w h1 h2=>(read_same w (readS w) (.inl rfl) h1 h2).2) ws (exprOk_parts hok).2.2 hT
      rw[if_pos hS,hm,if_pos ⟨hok,hS.1⟩,List.map_map]
      rfl
    · rw[if_neg hS,if_neg]
      rintro⟨h1,h2⟩
      have hT:=texts_words h1 hw hf hj h2
      have hm:=map_same readI readS (fun w h1 h2=>(read_same w (readI w) (.inr rfl) h1 h2).1) ws (exprOk_parts h1).2.2 hT
      refine hS ⟨by rw[hm];exact h2,fun h0=>?_⟩
      have h3:=hs0 h0
      have hx:=(exprOk_parts h1).2.2
      rw[h3]at hT hx
      exact nodeT_ne (hx _ List.mem_cons_self) (List.cons.inj hT).1
theorem impl_number_some(w:ByteArray)(hw:w.size<=1048576):∃ v,impl_number.f w=some v:=by
  obtain⟨r1,r2,h1,_,_⟩:=parse_f w hw
  unfold impl_number.f
  rw[h1]
  simp only[Option.bind_some]
  split
  · exact⟨_,rfl⟩
  · exact⟨_,rfl⟩
theorem impl_number_itoa(n:Int)(h0:-9223372036854775808<=n)(h1:n<=9223372036854775807)(w:ByteArray)(hw:w.size<=1048576)(h:w.data.toList=Go.Lib.itoa n):impl_number.f w=some n:=by
  obtain⟨r1,r2,e1,e2,e3⟩:=parse_f w hw
  have hp:parsed w.data.toList=some n:=by
    unfold parsed
    rw[h,parse_itoa n h0 h1]
  rw[hp]at e2
  unfold impl_number.f
  rw[e1]
  simp only[Option.bind_some]
  rw[e2,e3 n hp]
  rfl
def spw:Nat->List UInt8->List (List UInt8)
  |0,l=>[l]
  |n+1,l=>(Go.Lib.cut l [32]).1::(if(Go.Lib.cut l [32]).2.2=true then spw n (Go.Lib.cut l [32]).2.1 else [])
theorem spw_cons(n:Nat)(x y:List UInt8)(h:(32:UInt8) ∉ x):spw (n+1) (x++32::y)=x::spw n y:=by
  rw[spw,cut_hit 32 x y h]
  rfl
theorem spw_last(n:Nat)(x:List UInt8)(h:(32:UInt8) ∉ x):spw n x=[x]:=by
  cases n with
  |zero=>rfl
  | succ n=>
    rw[spw,cut_miss 32 x h]
    rfl
theorem spw_len:∀(n:Nat) (l:List UInt8),0<(spw n l).length/\(spw n l).length<=n+1/\∀ p ∈ spw n l,p.length<=l.length
  | 0,l=>⟨by simp[spw],by simp[spw],fun p hp=>by
    rw[spw]at hp
    rw[List.mem_singleton.1 hp]
    exact Nat.le_refl _⟩
  | n + 1,l=>by
    have hz:=cutP_size (ofL l) 32
    have e1:(cutP (ofL l) 32).1.size=(Go.Lib.cut l [32]).1.length:=bytes_size _
    have e2:(cutP (ofL l) 32).2.1.size=(Go.Lib.cut l [32]).2.1.length:=bytes_size _
    have e3:(ofL l).size=l.length:=bytes_size _
    obtain⟨_,h2,h3⟩:=spw_len n (Go.Lib.cut l [32]).2.1
    rw[spw]
    refine⟨by simp,?_,?_⟩
    · split
      · rw[List.length_cons]
        omega
      · simp
    · intro p hp
      rcases List.mem_cons.1 hp with rfl|hp
      · omega
      · split at hp
        · have:=h3 p hp
          omega
        · cases hp
theorem spec_l9Words_l0:∀(n k:Nat) (out:List ByteArray) (b:ByteArray) (most:Int),most=(out.length:Int)+n+1->out.length+n<=200->b.size<=1048576->1048600+2*n<=k->spec_l9Words.l0 k b most out true=some (out++(spw n b.data.toList).map ofL):=by
  intro n
  induction n with
  | zero=>
    intro k out b most hm ho hb hk
    obtain⟨k,rfl⟩:∃ m,k=m+2:=⟨k - 2,by omega⟩
    rw[spec_l9Words.l0,if_pos rfl,w64 (by omega) (by omega),if_neg (by omega),if_pos (by omega),spec_l9Words.l0,if_neg (by decide)]
    rfl
  | succ n ih=>
    intro k out b most hm ho hb hk
    obtain⟨k,rfl⟩:∃ m,k=m+2:=⟨k - 2,by omega⟩
    have hcut:=spec_l1Cut_eq b (by omega) 32 (k:=k+1) (by omega)
    rw[show((32:UInt8).toNat:Int)=32 from rfl]at hcut
    have hz:=cutP_size b 32
    rw[spec_l9Words.l0,if_pos rfl,w64 (by omega) (by omega),if_pos (by omega),hcut]
    simp only[Option.bind_some]
    rw[if_pos (by omega),spw]
    have e2:(cutP b 32).1=ofL (Go.Lib.cut b.data.toList [32]).1:=rfl
    have e3:(cutP b 32).2.1.data.toList=(Go.Lib.cut b.data.toList [32]).2.1:=rfl
    have e4:(cutP b 32).2.2=(Go.Lib.cut b.data.toList [32]).2.2:=rfl
    cases hc:(cutP b 32).2.2 with
    | true=>
      rw[hc]at e4
      have:=ih (k+1) (out++[(cutP b 32).1]) (cutP b 32).2.1 most (by rw[List.length_append,List.length_singleton];omega) (by rw[List.length_append,List.length_singleton];omega) (by omega) (by omega)
      rw[this,e3,<-e4,if_pos rfl,e2,List.append_assoc]
      rfl
    | false=>
      rw[hc]at e4
      rw[spec_l9Words.l0,if_neg (by decide),<-e4,if_neg (by decide),e2]
      rfl
theorem spec_l9Words_eq(b:ByteArray)(n:Nat)(hn:n<=50)(hb:b.size<=1048576){k:Nat}(hk:1050000<=k):spec_l9Words.f k b ((n:Int)+1)=some ((spw n b.data.toList).map ofL):=by
  unfold spec_l9Words.f
  rw[spec_l9Words_l0 n k [] b _ (by simp) (by simp;omega) hb (by omega)]
  rfl
theorem spec_l9Int_some(w:ByteArray)(hw:w.size<=1048576)(neg:Bool):∀(n k i:Nat) (acc:Int),i+n=w.size->n<k->∃ r,spec_l9Int.l0 k w neg acc (i:Int)=some r:=by
  intro n
  induction n with
  | zero=>
    intro k i acc hi hk
    obtain⟨k,rfl⟩:∃ m,k=m+1:=⟨k - 1,by omega⟩
    rw[spec_l9Int.l0,if_neg (by omega)]
    split <;> exact⟨_,rfl⟩
  | succ n ih=>
    intro k i acc hi hk
    obtain⟨k,rfl⟩:∃ m,k=m+1:=⟨k - 1,by omega⟩
    rw[spec_l9Int.l0,if_pos (by omega),if_pos (by omega),up1 (by omega:i<w.size) (by omega)]
    split
    · exact⟨_,rfl⟩
    · split
      · exact⟨_,rfl⟩
      · exact ih k (i+1) _ (by omega) (by omega)
theorem spec_l9Int_digits(w:ByteArray)(hw:w.size<=1048576)(neg:Bool):∀(n k i:Nat) (acc:Nat),i+n=w.size->n<k->(∀ c ∈ w.data.toList.drop i,digitB c)->foldv acc (w.data.toList.drop i)<=1000000000000->spec_l9Int.l0 k w neg (acc:Int) (i:Int)=some (if neg=true then -((foldv acc (w.data.toList.drop i):Nat):Int)else((foldv acc (w.data.toList.drop i):Nat):Int),(w.toList !=([]:List UInt8))):=by
  intro n
  induction n with
  | zero=>
    intro k i acc hi hk hd hv
    obtain⟨k,rfl⟩:∃ m,k=m+1:=⟨k - 1,by omega⟩
    rw[drop_end w i (by omega)]at hv ⊢
    have hv':acc<=1000000000000:=hv
    have e:foldv acc []=acc:=rfl
    rw[spec_l9Int.l0,if_neg (by omega),e]
    cases neg with
    |true=>rw[if_pos rfl,if_pos rfl,w64 (by omega) (by omega)]
    |false=>rw[if_neg (by decide),if_neg (by decide)]
  | succ n ih=>
    intro k i acc hi hk hd hv
    obtain⟨k,rfl⟩:∃ m,k=m+1:=⟨k - 1,by omega⟩
    obtain⟨x,hx,bx⟩:=bt_drop w i (by omega)
    rw[hx]at hd hv ⊢
    have hdx:=hd x List.mem_cons_self
    unfold digitB at hdx
    have hv':foldv (acc*10+(x.toNat - 48)) (w.data.toList.drop (i+1))<=1000000000000:=hv
    have hg:=foldv_ge (w.data.toList.drop (i+1)) (acc*10+(x.toNat - 48))
    rw[spec_l9Int.l0,if_pos (by omega),if_pos (by omega),bx,if_neg (by omega),if_neg (by omega),up1 (by omega:i<w.size) (by omega),w64 (n:=10*(acc:Int)) (by omega) (by omega),w64 (by omega) (by omega)]
    have e:10*(acc:Int)+((x.toNat:Int) - 48)%256=((acc*10+(x.toNat - 48):Nat):Int):=by omega
    rw[e,ih k (i+1) _ (by omega) (by omega) (fun c hc=>hd c (List.mem_cons_of_mem _ hc)) hv']
    rfl
theorem l9rd(ws:List ByteArray)(i:Nat)(h:i<ws.length):rdOf ByteArray.empty ws (i:Int)=ws[i]:=by
  unfold rdOf
  rw[Int.toNat_natCast,List.getD_eq_getElem?_getD,List.getElem?_eq_getElem h]
  rfl
theorem spec_l9Int_total (ws:List ByteArray) (hl:ws.length<=1000) (i:Nat) (hi:i<=100) {k:Nat} (hk:100<=k):∃ r,spec_l9Int.f k ws (i:Int)=some r:=by
  obtain⟨k,rfl⟩:∃ m,k=m+3:=⟨k - 3,by omega⟩
  unfold spec_l9Int.f
  by_cases h:(i:Int)>=(ws.length:Int)
  · rw[if_pos h,spec_l9Int.j0,if_pos rfl]
    exact⟨_,rfl⟩
  · rw[if_neg h,if_pos (by omega),if_pos (by omega),l9rd ws i (by omega)]
    generalize hw:ws[i]=w
    by_cases h11:(w.size:Int) > 11
    · rw[if_pos h11,spec_l9Int.j0,if_pos rfl]
      exact⟨_,rfl⟩
    · rw[if_neg h11]
      by_cases h0:w.toList=[]
      · rw[show(w.toList==([]:List UInt8))=true from beq_iff_eq.mpr h0,spec_l9Int.j0,if_pos rfl]
        exact⟨_,rfl⟩
      · have hz:w.size≠0:=fun e=>h0 (size_zero.2 e)
        have e2:((w.extract 1 w.size).size)<=1048576:=by rw[ByteArray.size_extract];omega
        rw[show(w.toList==([]:List UInt8))=false from beq_eq_false_iff_ne.mpr h0,spec_l9Int.j0,if_neg (by decide),if_pos (by omega),if_pos (by omega),l9rd ws i (by omega),hw,if_pos (by omega)]
        by_cases h45:bt w 0=45
        · rw[if_pos h45,if_pos (by omega),spec_l9Int.j1]
          exact spec_l9Int_some _ e2 _ _ (k+1) 0 0 (Nat.zero_add _) (by rw[ByteArray.size_extract];omega)
        · rw[if_neg h45,spec_l9Int.j1]
          exact spec_l9Int_some _ (by omega) _ _ (k+1) 0 0 (Nat.zero_add _) (by omega)
theorem dec_len10:∀(d n:Nat),n<10 ^ (d+1)->(Go.Lib.decDigits n).length<=d+1
  | 0,n,h=>by
    rw[Go.Lib.decDigits,dif_pos (by omega)]
    simp
  | d + 1,n,h=>by
    rw[Go.Lib.decDigits]
    split
    · simp
    · have:=dec_len10 d (n / 10) (by rw[Nat.pow_succ]at h;omega)
      rw[List.length_append,List.length_singleton]
      omega
theorem spec_l9Int_itoa(ws:List ByteArray)(hl:ws.length<=1000)(i:Nat)(hi:i<ws.length)(n:Int)(h0:-2147483648<=n)(h1:n<=2147483647)(hw:ws[i].data.toList=Go.Lib.itoa n){k:Nat}(hk:100<=k):spec_l9Int.f k ws (i:Int)=some (n,true):=by
  obtain⟨k,rfl⟩:∃ m,k=m+3:=⟨k - 3,by omega⟩
  unfold spec_l9Int.f
  rw[if_neg (by omega),if_pos (by omega),if_pos (by omega),l9rd ws i hi]
  generalize hwi:ws[i]=w at hw
  have hsz:=len_list w
  rw[hw]at hsz
  have hp:(10:Nat) ^ (9+1)=10000000000:=by decide
  by_cases c:n<0
  · unfold Go.Lib.itoa at hw hsz
    rw[if_pos c]at hw hsz
    have hd:=dec_len10 9 n.natAbs (by omega)
    obtain⟨f1,f2⟩:=dec_fold n.natAbs
    have hne:=dec_ne n.natAbs
    rw[List.length_cons]at hsz
    obtain⟨x,hx,bx⟩:=bt_drop w 0 (by omega)
    rw[List.drop_zero,hw]at hx
    have bx':bt w 0=(x.toNat:Int):=bx
    rw[<-(List.cons.inj hx).1]at bx'
    have hb:bt w 0=45:=bx'
    have he:(w.extract 1 w.size).data.toList=Go.Lib.decDigits n.natAbs:=by
      rw[(ext_list w 1).2,hw]
      rfl
    have hez:=len_list (w.extract 1 w.size)
    rw[he]at hez
    have h0':w.toList≠[]:=fun e=>by
      have:=size_zero.1 e
      omega
    have hne':(w.extract 1 w.size).toList≠[]:=fun e=>by
      have:=size_zero.1 e
      rw[this]at hez
      exact hne (List.length_eq_zero_iff.1 hez)
    rw[if_neg (by omega),show(w.toList==([]:List UInt8))=false from beq_eq_false_iff_ne.mpr h0',spec_l9Int.j0,if_neg (by decide),if_pos (by omega),if_pos (by omega),l9rd ws i hi,hwi,if_pos (by omega),if_pos hb,if_pos (by omega),hb,spec_l9Int.j1]
    have:=spec_l9Int_digits (w.extract 1 w.size) (by omega) (45==(45:Int)) (w.extract 1 w.size).size (k+1) 0 0 (Nat.zero_add _) (by omega) (by rw[List.drop_zero,he];exact f2) (by rw[List.drop_zero,he,f1];omega)
    rw[List.drop_zero,he,f1]at this
    rw[show((0:Nat):Int)=0 from rfl]at this
    rw[this,if_pos (by decide),show((w.extract 1 w.size).toList !=([]:List UInt8))=true from bne_iff_ne.mpr hne']
    congr 2
    omega
  · unfold Go.Lib.itoa at hw hsz
    rw[if_neg c]at hw hsz
    have hd:=dec_len10 9 n.toNat (by omega)
    obtain⟨f1,f2⟩:=dec_fold n.toNat
    have hne:=dec_ne n.toNat
    have h0':w.toList≠[]:=fun e=>by
      have:=size_zero.1 e
      rw[this]at hsz
      exact hne (List.length_eq_zero_iff.1 hsz)
    have hz:0<w.size:=by
      have:(Go.Lib.decDigits n.toNat).length≠0:=fun e=>hne (List.length_eq_zero_iff.1 e)
      omega
    obtain⟨x,hx,bx⟩:=bt_drop w 0 hz
    rw[List.drop_zero,hw]at hx
    have bx':bt w 0=(x.toNat:Int):=bx
    have hdx:=f2 x (by rw[hx];exact List.mem_cons_self)
    unfold digitB at hdx
    have hb:¬ bt w 0=45:=by omega
    rw[if_neg (by omega),show(w.toList==([]:List UInt8))=false from beq_eq_false_iff_ne.mpr h0',spec_l9Int.j0,if_neg (by decide),if_pos (by omega),if_pos (by omega),l9rd ws i hi,hwi,if_pos (by omega),if_neg hb,show(bt w 0==45)=false from beq_eq_false_iff_ne.mpr hb,spec_l9Int.j1]
    have:=spec_l9Int_digits w (by omega) false w.size (k+1) 0 0 (Nat.zero_add _) (by omega) (by rw[List.drop_zero,hw];exact f2) (by rw[List.drop_zero,hw,f1];omega)
    rw[List.drop_zero,hw,f1]at this
    rw[show((0:Nat):Int)=0 from rfl]at this
    rw[this,if_neg (by decide),show(w.toList !=([]:List UInt8))=true from bne_iff_ne.mpr h0']
    congr 2
    omega
theorem nums_size9(a:List Int):(strOfNums a).size=a.length:=by
  unfold strOfNums
  rw[bytes_size,List.length_map]
theorem nums_bytes(l:List UInt8):strOfNums (l.map fun c=>(c.toNat:Int))=⟨l.toArray⟩:=by
  have e:strOfNums (l.map fun c=>(c.toNat:Int))=⟨((l.map fun c=>(c.toNat:Int)).map fun n=>UInt8.ofNat n.toNat).toArray⟩:=rfl
  rw[e,List.map_map]
  congr 2
  conv=>rhs;rw[<-List.map_id l]
  apply List.map_congr_left
  intro c _
  show UInt8.ofNat ((c.toNat:Int)).toNat=c
  rw[Int.toNat_natCast]
  exact UInt8.ofNat_toNat
theorem bt_range(s:ByteArray)(i:Nat)(h:i<s.size):0<=bt s (i:Int)/\bt s (i:Int)<=255:=by
  obtain⟨x,_,bx⟩:=bt_drop s i h
  have:=x.toNat_lt
  omega
theorem spec_l9Bytes_some (s:ByteArray) (hs:s.size<=1048576):∀(n k i:Nat) (x:List Int),s.size<=i+n->n+5<=k->x.length<=i->x.length<=s.size->i<=s.size->∃ r,spec_l9Bytes.l0 k s x (i:Int)=some r/\r.1.size<=s.size:=by
  intro n
  induction n with
  | zero=>
    intro k i x hi hk hx hx2 hi2
    obtain⟨k,rfl⟩:∃ m,k=m+1:=⟨k - 1,by omega⟩
    rw[spec_l9Bytes.l0,w64 (by omega) (by omega),if_neg (by omega)]
    exact⟨_,rfl,by rw[nums_size9];exact hx2⟩
  | succ n ih=>
    intro k i x hi hk hx hx2 hi2
    obtain⟨k,rfl⟩:∃ m,k=m+1:=⟨k - 1,by omega⟩
    rw[spec_l9Bytes.l0,w64 (n:=(i:Int)+1) (by omega) (by omega)]
    by_cases h:(i:Int)+1<(s.size:Int)
    · have b1:=bt_range s i (by omega)
      have b2:=bt_range s (i+1) (by omega)
      rw[show(((i+1:Nat)):Int)=(i:Int)+1 by omega]at b2
      rw[if_pos h,if_pos (by omega),if_pos (by omega),spec_l1Digit_eq (by omega) b1.1 b1.2]
      simp only[Option.bind_some]
      rw[if_pos (by omega),spec_l1Digit_eq (by omega) b2.1 b2.2]
      simp only[Option.bind_some]
      split
      · exact⟨_,rfl,Nat.zero_le _⟩
      · split
        · exact⟨_,rfl,Nat.zero_le _⟩
        · rw[if_pos (by omega),w64 (n:=(i:Int)+2) (by omega) (by omega),show(i:Int)+2=((i+2:Nat):Int)by omega]
          exact ih k (i+2) _ (by omega) (by omega) (by rw[List.length_append,List.length_singleton];omega) (by rw[List.length_append,List.length_singleton];omega) (by omega)
    · rw[if_neg h]
      exact⟨_,rfl,by rw[nums_size9];exact hx2⟩
theorem hexFix2(c:UInt8):hexFix 2 c.toNat=[hexU (c.toNat / 16),hexU (c.toNat%16)]:=by
  have:=c.toNat_lt
  show([]++[hexU (c.toNat / 16%16)])++[hexU (c.toNat%16)]=_
  rw[Nat.mod_eq_of_lt (by omega:c.toNat / 16<16)]
  rfl
theorem hexL_cons(c:UInt8)(r:List UInt8):hexL (c::r)=hexU (c.toNat / 16)::hexU (c.toNat%16)::hexL r:=by
  unfold hexL
  rw[List.map_cons,List.flatten_cons,hexFix2]
  rfl
theorem hex_at(s:ByteArray)(i:Nat)(c:UInt8)(r:List UInt8)(h:s.data.toList.drop i=hexL (c::r)):i+2<=s.size/\bt s (i:Int)=((hexU (c.toNat / 16)).toNat:Int)/\bt s ((i+1:Nat):Int)=((hexU (c.toNat%16)).toNat:Int)/\s.data.toList.drop (i+2)=hexL r:=by
  have hl:=congrArg List.length h
  rw[List.length_drop,len_list,hexL_len,List.length_cons]at hl
  have hi:i+2<=s.size:=by omega
  rw[hexL_cons]at h
  obtain⟨x,hx,bx⟩:=bt_drop s i (by omega)
  obtain⟨y,hy,by_⟩:=bt_drop s (i+1) (by omega)
  rw[hx,hy]at h
  injection h with h1 h
  injection h with h2 h
  exact⟨hi,by rw[bx,h1],by rw[by_,h2],h⟩
theorem spec_l9Bytes_hex(s:ByteArray)(hs:s.size<=1048576):∀(l:List UInt8) (k i:Nat) (x:List Int),s.data.toList.drop i=hexL l->i%2=0->i<=s.size->l.length+5<=k->x.length+l.length<=1048576->spec_l9Bytes.l0 k s x (i:Int)=some (strOfNums (x++l.map fun c=>(c.toNat:Int)),true)
  | [],k,i,x,h,h2,hi,hk,hx=>by
    obtain⟨k,rfl⟩:∃ m,k=m+1:=⟨k - 1,by omega⟩
    have hl:=congrArg List.length h
    rw[List.length_drop,len_list]at hl
    have hz:s.size=i:=by
      have:(hexL []).length=0:=rfl
      omega
    rw[spec_l9Bytes.l0,w64 (by omega) (by omega),if_neg (by omega),show(((s.size:Int)%2)==0)=true from beq_iff_eq.mpr (by omega)]
    simp
  | c::r,k,i,x,h,h2,hi,hk,hx=>by
    obtain⟨k,rfl⟩:∃ m,k=m+1:=⟨k - 1,by omega⟩
    obtain⟨q1,q2,q3,q4⟩:=hex_at s i c r h
    have hc:=c.toNat_lt
    have b1:=bt_range s i (by omega)
    have b2:=bt_range s (i+1) (by omega)
    rw[List.length_cons]at hk hx
    have d1:=dig_hexU (x:=c.toNat / 16) (by omega)
    have d2:=dig_hexU (x:=c.toNat%16) (by omega)
    rw[spec_l9Bytes.l0,w64 (n:=(i:Int)+1) (by omega) (by omega),show(i:Int)+1=((i+1:Nat):Int)by omega,if_pos (by omega),if_pos (by omega),if_pos (by omega),spec_l1Digit_eq (by omega) b1.1 b1.2,q2,d1]
    simp only[Option.bind_some]
    rw[if_pos (by omega),spec_l1Digit_eq (by omega) b2.1 b2.2,q3,d2]
    simp only[Option.bind_some]
    rw[if_neg (by omega),if_neg (by omega),if_pos (by omega),w64 (n:=(i:Int)+2) (by omega) (by omega),show(i:Int)+2=((i+2:Nat):Int)by omega,w64 (n:=16*((c.toNat / 16:Nat):Int)) (by omega) (by omega),w64 (by omega) (by omega)]
    have e:(16*((c.toNat / 16:Nat):Int)+((c.toNat%16:Nat):Int))%256=(c.toNat:Int):=by omega
    rw[e,spec_l9Bytes_hex s hs r k (i+2) _ q4 (by omega) (by omega) (by omega) (by rw[List.length_append,List.length_singleton];omega),List.append_assoc]
    rfl
theorem spec_l9Bytes_total(s:ByteArray)(hs:s.size<=1048576){k:Nat}(hk:1048600<=k):∃ r,spec_l9Bytes.f k s=some r/\r.1.size<=s.size:=spec_l9Bytes_some s hs s.size k 0 [] (by omega) (by omega) (Nat.zero_le _) (Nat.zero_le _) (Nat.zero_le _)
theorem spec_l9Bytes_eq(s d:ByteArray)(hs:s.size<=1048576)(h:s.data.toList=hexL d.data.toList){k:Nat}(hk:1048600<=k):spec_l9Bytes.f k s=some (d,true):=by
  have hl:=congrArg List.length h
  rw[len_list,hexL_len,len_list]at hl
  have:=spec_l9Bytes_hex s hs d.data.toList k 0 [] (by rw[List.drop_zero,h]) rfl (Nat.zero_le _) (by rw[len_list];omega) (by rw[len_list];simp;omega)
  unfold spec_l9Bytes.f
  rw[show((0:Nat):Int)=0 from rfl]at this
  rw[this,List.nil_append,nums_bytes]
theorem unhex_val(s:ByteArray)(hs:s.size<=1048576){k:Nat}(hk:s.size+5<=k):∃ v,impl_valueOf.f k s ⟨#[48,49,50,51,52,53,54,55,56,57,65,66,67,68,69,70]⟩=some (v,(baseOf 16 s).isSome)/\∀ u,baseOf 16 s=some u->v=u:=
  impl_valueOf_eq s ⟨#[48,49,50,51,52,53,54,55,56,57,65,66,67,68,69,70]⟩ hs (base:=16) (by decide) rfl (fun c a b=>idx16 a b) hk
theorem impl_unhex_some(s:ByteArray)(hs:s.size<=1048576):∀(n k i:Nat) (x:List Int),s.size<=i+n->n+20<=k->x.length<=i->x.length<=s.size->i<=s.size->∃ r,impl_unhex.l0 k s x (i:Int)=some r/\r.size<=s.size:=by
  intro n
  induction n with
  | zero=>
    intro k i x hi hk hx hx2 hi2
    obtain⟨k,rfl⟩:∃ m,k=m+1:=⟨k - 1,by omega⟩
    rw[impl_unhex.l0,w64 (by omega) (by omega),if_neg (by omega)]
    exact⟨_,rfl,by rw[nums_size9];exact hx2⟩
  | succ n ih=>
    intro k i x hi hk hx hx2 hi2
    obtain⟨k,rfl⟩:∃ m,k=m+1:=⟨k - 1,by omega⟩
    rw[impl_unhex.l0,w64 (n:=(i:Int)+1) (by omega) (by omega),w64 (n:=(i:Int)+2) (by omega) (by omega)]
    by_cases h:(i:Int)+1<(s.size:Int)
    · have hz:(s.extract ((i:Int)).toNat ((i:Int)+2).toNat).size<=2:=by rw[ByteArray.size_extract];omega
      obtain⟨v,hv,_⟩:=unhex_val (s.extract ((i:Int)).toNat ((i:Int)+2).toNat) (by omega) (k:=k) (by omega)
      rw[if_pos h,if_pos (by omega),if_pos (by omega),if_pos (by omega),hv]
      simp only[Option.bind_some]
      rw[if_pos (by omega),show(i:Int)+2=((i+2:Nat):Int)by omega]
      exact ih k (i+2) _ (by omega) (by omega) (by rw[List.length_append,List.length_singleton];omega) (by rw[List.length_append,List.length_singleton];omega) (by omega)
    · rw[if_neg h]
      exact⟨_,rfl,by rw[nums_size9];exact hx2⟩
theorem impl_unhex_hex(s:ByteArray)(hs:s.size<=1048576):∀(l:List UInt8) (k i:Nat) (x:List Int),s.data.toList.drop i=hexL l->i<=s.size->l.length+20<=k->x.length+l.length<=1048576->impl_unhex.l0 k s x (i:Int)=some (strOfNums (x++l.map fun c=>(c.toNat:Int)))
  | [],k,i,x,h,hi,hk,hx=>by
    obtain⟨k,rfl⟩:∃ m,k=m+1:=⟨k - 1,by omega⟩
    have hl:=congrArg List.length h
    rw[List.length_drop,len_list]at hl
    have hz:s.size=i:=by
      have:(hexL []).length=0:=rfl
      omega
    rw[impl_unhex.l0,w64 (by omega) (by omega),if_neg (by omega)]
    simp
  | c :: r,k,i,x,h,hi,hk,hx=>by
    obtain⟨k,rfl⟩:∃ m,k=m+1:=⟨k - 1,by omega⟩
    obtain⟨q1,q2,q3,q4⟩:=hex_at s i c r h
    have hc:=c.toNat_lt
    rw[List.length_cons]at hk hx
    have he:(s.extract ((i:Int)).toNat ((i:Int)+2).toNat).data.toList=hexFix 2 c.toNat:=by
      rw[ByteArray.data_extract,Array.toList_extract,List.extract,Int.toNat_natCast,show((i:Int)+2).toNat - i=2 by omega,h,hexL_cons,hexFix2]
      rfl
    have hz:(s.extract ((i:Int)).toNat ((i:Int)+2).toNat).size<=2:=by rw[ByteArray.size_extract];omega
    obtain⟨v,hv,hu⟩:=unhex_val (s.extract ((i:Int)).toNat ((i:Int)+2).toNat) (by omega) (k:=k) (by omega)
    have hb:=baseOf_hex 2 c.toNat (by omega) (by rw[show 16 ^ 2=256 from rfl];omega) (by omega) _ he
    have hvv:=hu _ hb
    rw[impl_unhex.l0,w64 (n:=(i:Int)+1) (by omega) (by omega),w64 (n:=(i:Int)+2) (by omega) (by omega),if_pos (by omega),if_pos (by omega),if_pos (by omega),if_pos (by omega),hv]
    simp only[Option.bind_some]
    rw[if_pos (by omega),show(i:Int)+2=((i+2:Nat):Int)by omega,hvv,show((c.toNat:Int))%256=(c.toNat:Int)by omega,impl_unhex_hex s hs r k (i+2) _ q4 (by omega) (by omega) (by rw[List.length_append,List.length_singleton];omega),List.append_assoc]
    rfl
theorem impl_unhex_total(s:ByteArray)(hs:s.size<=1048576){k:Nat}(hk:1048600<=k):∃ r,impl_unhex.f k s=some r/\r.size<=s.size:=impl_unhex_some s hs s.size k 0 [] (by omega) (by omega) (Nat.zero_le _) (Nat.zero_le _) (Nat.zero_le _)
theorem impl_unhex_eq(s d:ByteArray)(hs:s.size<=1048576)(h:s.data.toList=hexL d.data.toList){k:Nat}(hk:1048600<=k):impl_unhex.f k s=some d:=by
  have hl:=congrArg List.length h
  rw[len_list,hexL_len,len_list]at hl
  have:=impl_unhex_hex s hs d.data.toList k 0 [] (by rw[List.drop_zero,h]) (Nat.zero_le _) (by rw[len_list];omega) (by rw[len_list];simp;omega)
  unfold impl_unhex.f
  rw[show((0:Nat):Int)=0 from rfl]at this
  rw[this,List.nil_append,nums_bytes]
theorem markN(l:List S124)(hl:l.length<=1048576)(m:Int)(h0:0<=m)(h1:m<=1000000){k:Nat}(hk:l.length+80<=k):∃ z,laws_markENodeS.f k l m=some (m+3*(l.length:Int),z)/\z.length=l.length/\∀ k',l.length+80<=k'->laws_heldENodeS.f k' z m=some (m+3*(l.length:Int)):=by
  obtain⟨T,hT⟩:=laws_markText_all
  obtain⟨z,h1,h2,_,h3⟩:=laws_markHeld_l0 hT l.length k 0 m l (by omega) hl (by omega) (by omega) (by omega)
  refine⟨z,h1,h2,fun k' hk'=>?_⟩
  have:=laws_heldENodeS_l0 hT z.length k' 0 m z (by omega) (by omega) (by omega) (by omega) (by omega) (fun j hj hj2=>by
    have:=h3 j hj (by omega)
    exact this)
  rw[h2]at this
  exact this
theorem rdTp{α:Type}(z:α)(pre:List α)(p:α)(r:List α):(pre++p::r).getD ((pre.length:Int)).toNat z=p:=by
  rw[Int.toNat_natCast,List.getD_eq_getElem?_getD,List.getElem?_append_right (Nat.le_refl _),Nat.sub_self]
  rfl
theorem markP{k:Nat}(hk:200<=k):∀(l:List S79) (m:Int),(∀ p ∈ l,p.f2.length<=31)->0<=m->m+100*(l.length:Int)<=1000000->∃ r z,laws_markPatchS.go k l m=some (r,z)/\z.length=l.length/\m<=r/\r<=m+100*(l.length:Int)/\∀(k':Nat) (pre:List S79),pre.length+l.length<=1000000->l.length+200<=k'->laws_heldPatchS.l0 k' (pre++z) m (pre.length:Int)=some r
  | [],m,_,h0,h1=>⟨m,[],rfl,rfl,Int.le_refl _,by simp,fun k' pre hp hk'=>by
    obtain⟨k',rfl⟩:∃ j,k'=j+1:=⟨k' - 1,by omega⟩
    rw[List.append_nil,laws_heldPatchS.l0,if_neg (by omega)]⟩
  | p :: r,m,hl,h0,h1=>by
    rw[List.length_cons]at h1
    have hp:=hl p List.mem_cons_self
    obtain⟨z1,a1,a2,a3⟩:=markN p.f2 (by omega) (m+2) (by omega) (by omega) (k:=k) (by omega)
    obtain⟨t,zs,b1,b2,b3,b4,b5⟩:=markP hk r (m+2+3*(p.f2.length:Int)) (fun q hq=>hl q (List.mem_cons_of_mem _ hq)) (by omega) (by omega)
    refine⟨t,⟨m,m+1,z1⟩::zs,?_,by rw[List.length_cons,List.length_cons,b2],by omega,by rw[List.length_cons];omega,fun k' pre hq hk'=>?_⟩
    · rw[laws_markPatchS.go,w64 (n:=m+1) (by omega) (by omega),w64 (n:=m+1+1) (by omega) (by omega),show m+1+1=m+2 by omega,a1]
      simp only[Option.bind_some]
      rw[b1]
      rfl
    · obtain⟨k',rfl⟩:∃ j,k'=j+1:=⟨k' - 1,by omega⟩
      rw[List.length_cons]at hq hk'
      have hrd:rd_T79 (pre++(⟨m,m+1,z1⟩:S79)::zs) (pre.length:Int)=⟨m,m+1,z1⟩:=rdTp _ _ _ _
      rw[laws_heldPatchS.l0,if_pos (by rw[List.length_append,List.length_cons];omega),if_pos (by omega),hrd]
      simp only
      rw[if_pos trivial,w64 (n:=m+1) (by omega) (by omega),if_pos rfl,w64 (n:=m+1+1) (by omega) (by omega),show m+1+1=m+2 by omega,a3 k' (by omega)]
      simp only[Option.bind_some]
      rw[if_neg (by omega),w64 (n:=(pre.length:Int)+1) (by omega) (by omega)]
      have:=b5 k' (pre++[⟨m,m+1,z1⟩]) (by rw[List.length_append,List.length_singleton];omega) (by omega)
      rw[List.append_assoc,List.length_append,List.length_singleton]at this
      exact this
theorem markE{k:Nat}(hk:200<=k):∀(l:List (List S124)) (m:Int),(∀ p ∈ l,p.length<=31)->0<=m->m+100*(l.length:Int)<=1000000->∃ r z,laws_markENodeSS.go k l m=some (r,z)/\z.length=l.length/\m<=r/\r<=m+100*(l.length:Int)/\∀(k':Nat) (pre:List (List S124)),pre.length+l.length<=1000000->l.length+200<=k'->laws_heldENodeSS.l0 k' (pre++z) m (pre.length:Int)=some r
  | [],m,_,h0,h1=>⟨m,[],rfl,rfl,Int.le_refl _,by simp,fun k' pre hp hk'=>by
    obtain⟨k',rfl⟩:∃ j,k'=j+1:=⟨k' - 1,by omega⟩
    rw[List.append_nil,laws_heldENodeSS.l0,if_neg (by omega)]⟩
  | p :: r,m,hl,h0,h1=>by
    rw[List.length_cons]at h1
    have hp:=hl p List.mem_cons_self
    obtain⟨z1,a1,a2,a3⟩:=markN p (by omega) m (by omega) (by omega) (k:=k) (by omega)
    obtain⟨t,zs,b1,b2,b3,b4,b5⟩:=markE hk r (m+3*(p.length:Int)) (fun q hq=>hl q (List.mem_cons_of_mem _ hq)) (by omega) (by omega)
    refine⟨t,z1::zs,?_,by rw[List.length_cons,List.length_cons,b2],by omega,by rw[List.length_cons];omega,fun k' pre hq hk'=>?_⟩
    · rw[laws_markENodeSS.go,a1]
      simp only[Option.bind_some]
      rw[b1]
      rfl
    · obtain⟨k',rfl⟩:∃ j,k'=j+1:=⟨k' - 1,by omega⟩
      rw[List.length_cons]at hq hk'
      have hrd:rd_L3 (pre++z1::zs) (pre.length:Int)=z1:=rdTp _ _ _ _
      rw[laws_heldENodeSS.l0,if_pos (by rw[List.length_append,List.length_cons];omega),if_pos (by omega),hrd,a3 k' (by omega)]
      simp only[Option.bind_some]
      rw[if_neg (by omega),w64 (n:=(pre.length:Int)+1) (by omega) (by omega)]
      have:=b5 k' (pre++[z1]) (by rw[List.length_append,List.length_singleton];omega) (by omega)
      rw[List.append_assoc,List.length_append,List.length_singleton]at this
      exact this
theorem markS{k:Nat}(hk:200<=k):∀(l:List S71) (m:Int),(∀ x ∈ l,x.f5.length<=256/\∀ p ∈ x.f5,p.f2.length<=31)->0<=m->m+26000*(l.length:Int)<=900000->∃ r z,laws_markSectionS.go k l m=some (r,z)/\z.length=l.length/\m<=r/\r<=m+26000*(l.length:Int)/\∀(k':Nat) (pre:List S71),pre.length+l.length<=1000000->l.length+1000<=k'->laws_heldSectionS.l0 k' (pre++z) m (pre.length:Int)=some r
  | [],m,_,h0,h1=>⟨m,[],rfl,rfl,Int.le_refl _,by simp,fun k' pre hp hk'=>by
    obtain⟨k',rfl⟩:∃ j,k'=j+1:=⟨k' - 1,by omega⟩
    rw[List.append_nil,laws_heldSectionS.l0,if_neg (by omega)]⟩
  | p :: r,m,hl,h0,h1=>by
    rw[List.length_cons]at h1
    obtain⟨hp,hq⟩:=hl p List.mem_cons_self
    obtain⟨T,hT⟩:=laws_markText_all
    obtain⟨t1,z1,a1,a2,a4,a5,a3⟩:=markP hk p.f5 (m+5) hq (by omega) (by omega)
    obtain⟨t,zs,b1,b2,b3,b4,b5⟩:=markS hk r t1 (fun q hq=>hl q (List.mem_cons_of_mem _ hq)) (by omega) (by omega)
    have w1:wrap64 (m+1)=m+1:=w64 (by omega) (by omega)
    have w2:wrap64 (m+1+1)=m+2:=by rw[w64 (by omega) (by omega)];omega
    have w3:wrap64 (m+2+1)=m+3:=by rw[w64 (by omega) (by omega)];omega
    have w4:wrap64 (m+3+1)=m+4:=by rw[w64 (by omega) (by omega)];omega
    have w5:wrap64 (m+4+1)=m+5:=by rw[w64 (by omega) (by omega)];omega
    refine⟨t,⟨T m,m+1,m+2,m+3,T (m+4),z1⟩::zs,?_,by rw[List.length_cons,List.length_cons,b2],by omega,by rw[List.length_cons];omega,fun k' pre hq2 hk'=>?_⟩
    · rw[laws_markSectionS.go,w1,w2,w3,w4,w5,hT m (by omega) (by omega) k (by omega),hT (m+4) (by omega) (by omega) k (by omega)]
      simp only[Option.bind_some]
      unfold laws_markPatchS.f
      rw[a1]
      simp only[Option.bind_some]
      rw[b1]
      rfl
    · obtain⟨k',rfl⟩:∃ j,k'=j+1:=⟨k' - 1,by omega⟩
      rw[List.length_cons]at hq2 hk'
      have hrd:rd_T71 (pre++(⟨T m,m+1,m+2,m+3,T (m+4),z1⟩:S71)::zs) (pre.length:Int)=⟨T m,m+1,m+2,m+3,T (m+4),z1⟩:=rdTp _ _ _ _
      have ha:=a3 k' [] (by rw[List.length_nil];omega) (by omega)
      rw[List.nil_append,List.length_nil,show((0:Nat):Int)=0 from rfl]at ha
      rw[laws_heldSectionS.l0,if_pos (by rw[List.length_append,List.length_cons];omega),if_pos (by omega),hrd,w1,w2,w3,w4,w5,hT m (by omega) (by omega) k' (by omega),hT (m+4) (by omega) (by omega) k' (by omega)]
      simp only[Option.bind_some]
      unfold laws_heldPatchS.f
      rw[if_pos trivial,if_pos trivial,if_pos trivial,if_pos trivial,if_pos trivial,ha]
      simp only[Option.bind_some]
      rw[if_neg (by omega),w64 (n:=(pre.length:Int)+1) (by omega) (by omega)]
      have:=b5 k' (pre++[⟨T m,m+1,m+2,m+3,T (m+4),z1⟩]) (by rw[List.length_append,List.length_singleton];omega) (by omega)
      rw[List.append_assoc,List.length_append,List.length_singleton]at this
      exact this
theorem setp{α:Type}(pre:List α)(x y:α)(r:List α):(pre++x::r).set ((pre.length:Int)).toNat y=pre++y::r:=by
  rw[Int.toNat_natCast,List.set_append_right _ _ (Nat.le_refl _),Nat.sub_self]
  rfl
theorem markO:∀(l:List S72) (k:Nat) (m:Int) (pre:List S72),0<=m->m+4*(l.length:Int)<=1000000->pre.length+l.length<=1000000->l.length+200<=k->∃ z,laws_markOSymS.l0 k (pre++l) m (pre.length:Int)=some (m+4*(l.length:Int),pre++z)/\z.length=l.length/\∀(k':Nat) (pre':List S72),pre'.length+l.length<=1000000->l.length+200<=k'->laws_heldOSymS.l0 k' (pre'++z) m (pre'.length:Int)=some (m+4*(l.length:Int))
  | [],k,m,pre,h0,h1,hp,hk=>by
    obtain⟨k,rfl⟩:∃ j,k=j+1:=⟨k - 1,by omega⟩
    refine⟨[],?_,rfl,fun k' pre' hp' hk'=>?_⟩
    · rw[List.append_nil,laws_markOSymS.l0,if_neg (by omega)]
      simp
    · obtain⟨k',rfl⟩:∃ j,k'=j+1:=⟨k' - 1,by omega⟩
      rw[List.append_nil,laws_heldOSymS.l0,if_neg (by omega)]
      simp
  | y :: r,k,m,pre,h0,h1,hp,hk=>by
    obtain⟨k,rfl⟩:∃ j,k=j+1:=⟨k - 1,by omega⟩
    rw[List.length_cons]at h1 hp hk
    obtain⟨T,hT⟩:=laws_markText_all
    have w1:wrap64 (m+1)=m+1:=w64 (by omega) (by omega)
    have w2:wrap64 (m+1+1)=m+2:=by rw[w64 (by omega) (by omega)];omega
    have w3:wrap64 (m+2+1)=m+3:=by rw[w64 (by omega) (by omega)];omega
    have w4:wrap64 (m+3+1)=m+4:=by rw[w64 (by omega) (by omega)];omega
    have rdt:∀(pre:List S72) (p:S72) (r:List S72),rd_T72 (pre++p::r) (pre.length:Int)=p:=fun pre p r=>rdTp _ _ _ _
    obtain⟨z,b1,b2,b3⟩:=markO r k (m+4) (pre++[⟨T m,m+1,m+2,(Int.tmod (m+3) 3==0)⟩]) (by omega) (by omega) (by rw[List.length_append,List.length_singleton];omega) (by omega)
    rw[List.append_assoc,List.append_assoc,List.length_append,List.length_singleton]at b1
    refine⟨⟨T m,m+1,m+2,(Int.tmod (m+3) 3==0)⟩::z,?_,by rw[List.length_cons,List.length_cons,b2],fun k' pre' hp' hk'=>?_⟩
    · rw[laws_markOSymS.l0,if_pos (by rw[List.length_append,List.length_cons];omega),hT m (by omega) (by omega) k (by omega)]
      simp only[Option.bind_some]
      rw[if_pos (by omega)]
      simp only[rdt,setp,w1,w2,w3,w4,Option.bind_some]
      rw[w64 (n:=(pre.length:Int)+1) (by omega) (by omega)]
      refine Eq.trans b1 ?_
      rw[List.length_cons]
      congr 2
      omega
    · obtain⟨k',rfl⟩:∃ j,k'=j+1:=⟨k' - 1,by omega⟩
      rw[List.length_cons]at hp' hk'
      rw[laws_heldOSymS.l0,if_pos (by rw[List.length_append,List.length_cons];omega),if_pos (by omega),hT m (by omega) (by omega) k' (by omega)]
      simp only[Option.bind_some,rdt,w1,w2,w3,w4]
      rw[if_pos trivial,if_pos trivial,if_pos trivial,bne_self_eq_false,if_neg (by decide),w64 (n:=(pre'.length:Int)+1) (by omega) (by omega)]
      have:=b3 k' (pre'++[⟨T m,m+1,m+2,(Int.tmod (m+3) 3==0)⟩]) (by rw[List.length_append,List.length_singleton];omega) (by omega)
      rw[List.append_assoc,List.length_append,List.length_singleton]at this
      refine Eq.trans this ?_
      rw[List.length_cons]
      congr 1
      omega
theorem markObj(s:List S71)(y:List S72)(a:List (List S124))(hs:s.length<=12/\∀ x ∈ s,x.f5.length<=256/\∀ p ∈ x.f5,p.f2.length<=31)(hy:y.length<=200)(ha:a.length<=12/\∀ x ∈ a,x.length<=31){k:Nat}(hk:3000<=k):∃ r s' y' a',laws_markObject.f k s y a 1=some (r,s',y',a')/\0<=r/\laws_heldObject.f k s' y' a' 1=some r:=by
  obtain⟨r1,z1,a1,a2,a3,a4,a5⟩:=markS (k:=k) (by omega) s 1 hs.2 (by omega) (by omega)
  obtain⟨z2,b1,b2,b3⟩:=markO y k r1 [] (by omega) (by omega) (by simp;omega) (by omega)
  obtain⟨r3,z3,c1,c2,c3,c4,c5⟩:=markE (k:=k) (by omega) a (r1+4*(y.length:Int)) ha.2 (by omega) (by omega)
  refine⟨r3,z1,z2,z3,?_,by omega,?_⟩
  · unfold laws_markObject.f laws_markSectionS.f laws_markOSymS.f laws_markENodeSS.f
    rw[a1]
    simp only[Option.bind_some]
    rw[List.nil_append,List.length_nil,show((0:Nat):Int)=0 from rfl,List.nil_append]at b1
    rw[b1]
    simp only[Option.bind_some]
    rw[c1]
    rfl
  · have h1:=a5 k [] (by simp;omega) (by omega)
    have h2:=b3 k [] (by simp;omega) (by omega)
    have h3:=c5 k [] (by simp;omega) (by omega)
    rw[List.nil_append,List.length_nil,show((0:Nat):Int)=0 from rfl]at h1 h2 h3
    unfold laws_heldObject.f laws_heldSectionS.f laws_heldOSymS.f laws_heldENodeSS.f
    rw[h1]
    simp only[Option.bind_some]
    rw[if_neg (by omega),h2]
    simp only[Option.bind_some]
    rw[if_neg (by omega),h3]
    simp only[Option.bind_some]
    rw[if_neg (by omega)]
inductive Ev where
  |sec (x:S71)
  |pat (p:S79)
  |sym (y:S72)
  |ass (e:List S124)
abbrev Ob:=List S71×List S72×List (List S124)
def evW:Ev->List (List UInt8)
  |.sec x=>[wSec,x.f0.data.toList,Go.Lib.itoa x.f1,Go.Lib.itoa x.f2,Go.Lib.itoa x.f3,hexL x.f4.data.toList]
  |.pat p=>[wPat,Go.Lib.itoa p.f0,Go.Lib.itoa p.f1,exprL p.f2]
  |.sym y=>[wSym,y.f0.data.toList,Go.Lib.itoa y.f1,Go.Lib.itoa y.f2,Go.Lib.itoa y.f3.toInt]
  |.ass e=>[wAss,exprL e]
def evL(e:Ev):List UInt8:=Go.Lib.join (evW e) [32]
def bareS(x:S71):S71:=⟨x.f0,x.f1,x.f2,x.f3,x.f4,[]⟩
def lastS(s:List S71):S71:=s.getD (s.length - 1) z71
def evA:Ev->Ob->Ob
  |.sec x,o=>(o.1++[bareS x],o.2.1,o.2.2)
  |.pat p,o=>(o.1.set (o.1.length - 1) (spec_l9Line.addPat (lastS o.1) p),o.2.1,o.2.2)
  |.sym y,o=>(o.1,o.2.1++[y],o.2.2)
  |.ass e,o=>(o.1,o.2.1,o.2.2++[e])
def readE(e:List S124):Prop:=rdSpec (ofL (exprL e))=(e,true)
def i32(n:Int):Prop:=-2147483648<=n/\n<=2147483647
def evOk:Ev->Prop
  |.sec x=>nameOk x.f0=true/\i32 x.f1/\i32 x.f2/\i32 x.f3/\x.f4.size<=256
  |.pat p=>i32 p.f0/\i32 p.f1/\readE p.f2
  |.sym y=>nameOk y.f0=true/\i32 y.f1/\i32 y.f2
  |.ass e=>readE e
theorem ofL_list(l:List UInt8):(ofL l).toList=l:=by
  rw[ByteArray.toList_eq]
  rfl
theorem name_no{s:ByteArray}(h:nameOk s=true)(c:UInt8)(hc:c.toNat=32\/c.toNat=10):c ∉ s.data.toList:=by
  intro hm
  have:=nam_range ((name_bytes h).1 c hm)
  omega
theorem itoa_no(n:Int)(c:UInt8)(hc:c.toNat=32\/c.toNat=10):c ∉ Go.Lib.itoa n:=by
  unfold Go.Lib.itoa
  split
  · intro hm
    rcases List.mem_cons.1 hm with rfl|hm
    · rw[show(45:UInt8).toNat=45 from rfl]at hc
      omega
    · have:=(dec_fold n.natAbs).2 c hm
      unfold digitB at this
      omega
  · intro hm
    have:=(dec_fold n.toNat).2 c hm
    unfold digitB at this
    omega
theorem hexU_no:∀ x,x<16->(hexU x).toNat≠32/\(hexU x).toNat≠10:=by decide
theorem hexL_no(l:List UInt8)(c:UInt8)(hc:c.toNat=32\/c.toNat=10):c ∉ hexL l:=by
  intro hm
  unfold hexL at hm
  obtain⟨q,hq,hcq⟩:=List.mem_flatten.1 hm
  obtain⟨d,_,rfl⟩:=List.mem_map.1 hq
  obtain⟨x,hx,rfl⟩:=hexFix_dig 2 d.toNat c hcq
  have:=hexU_no x hx
  omega
theorem nodeT_no{x:Nd}(h:nodeOk x=true):(10:UInt8) ∉ nodeT x:=by
  unfold nodeT nodeT3
  rcases nodeOk_form h with⟨h1,_,_,_⟩|⟨h1,_,h3⟩|⟨h1,h2,_,_⟩
  · rw[if_pos h1]
    exact itoa_no _ _ (.inr rfl)
  · rcases h1 with h1|h1
    · rw[if_neg (by omega),if_pos h1]
      exact name_no h3 _ (.inr rfl)
    · rw[if_neg (by omega),if_neg (by omega),if_pos h1]
      intro hm
      rcases List.mem_cons.1 hm with hm|hm
      · exact absurd hm (by decide)
      · exact name_no h3 _ (.inr rfl) hm
  · rw[if_neg (by omega),if_neg (by omega),if_neg (by omega)]
    rcases opW_cases ⟨h1,h2⟩with e|e|e|e|e|e|e|e|e|e|e|e|e|e <;> rw[e] <;> decide
theorem join_no(c:UInt8)(hc:c≠32):∀ ws:List (List UInt8),(∀ w ∈ ws,c ∉ w)->c ∉ Go.Lib.join ws [32]
  |[],_=>by rw[Go.Lib.join_nil];simp
  |[x],h=>by rw[Go.Lib.join_one];exact h x List.mem_cons_self
  | x :: y::r,h=>by
    rw[join_cons2]
    intro hm
    rcases List.mem_append.1 hm with hm|hm
    · rcases List.mem_append.1 hm with hm|hm
      · exact h x List.mem_cons_self hm
      · exact hc (List.mem_singleton.1 hm)
    · exact join_no c hc (y::r) (fun w hw=>h w (List.mem_cons_of_mem _ hw)) hm
theorem exprL_no(e:List S124):(10:UInt8) ∉ exprL e:=by
  unfold exprL exprT
  split
  · rename_i h
    exact join_no 10 (by decide) _ (fun w hw=>by
      obtain⟨x,hx,rfl⟩:=List.mem_map.1 hw
      exact nodeT_no ((exprOk_parts h).2.2 x hx))
  · simp
theorem evL_no{e:Ev}(h:evOk e):(10:UInt8) ∉ evL e:=by
  unfold evL
  refine join_no 10 (by decide) _ ?_
  intro w hw
  have ni:=fun n=>itoa_no n 10 (.inr rfl)
  cases e with
  | sec x=>
    simp only[evW,List.mem_cons,List.not_mem_nil,or_false]at hw
    rcases hw with rfl|rfl|rfl|rfl|rfl|rfl
    · decide
    · exact name_no h.1 _ (.inr rfl)
    · exact ni _
    · exact ni _
    · exact ni _
    · exact hexL_no _ _ (.inr rfl)
  | pat p=>
    simp only[evW,List.mem_cons,List.not_mem_nil,or_false]at hw
    rcases hw with rfl|rfl|rfl|rfl
    · decide
    · exact ni _
    · exact ni _
    · exact exprL_no _
  | sym y=>
    simp only[evW,List.mem_cons,List.not_mem_nil,or_false]at hw
    rcases hw with rfl|rfl|rfl|rfl|rfl
    · decide
    · exact name_no h.1 _ (.inr rfl)
    · exact ni _
    · exact ni _
    · exact ni _
  | ass e=>
    simp only[evW,List.mem_cons,List.not_mem_nil,or_false]at hw
    rcases hw with rfl|rfl
    · decide
    · exact exprL_no _
theorem join6(a b c d e f:List UInt8):Go.Lib.join [a,b,c,d,e,f] [32]=a++32::(b++32::(c++32::(d++32::(e++32::f)))):=by
  simp[Go.Lib.join_cons,Go.Lib.joinTail]
theorem join5(a b c d e:List UInt8):Go.Lib.join [a,b,c,d,e] [32]=a++32::(b++32::(c++32::(d++32::e))):=by
  simp[Go.Lib.join_cons,Go.Lib.joinTail]
theorem join4(a b c d:List UInt8):Go.Lib.join [a,b,c,d] [32]=a++32::(b++32::(c++32::d)):=by
  simp[Go.Lib.join_cons,Go.Lib.joinTail]
theorem join2(a b:List UInt8):Go.Lib.join [a,b] [32]=a++32::b:=by
  simp[Go.Lib.join_cons,Go.Lib.joinTail]
def smallO(N:Nat)(o:Ob):Prop:=o.1.length<=N/\o.2.1.length<=N/\o.2.2.length<=N/\∀ x ∈ o.1,x.f5.length<=N
theorem rd_at(ws:List (List UInt8))(i:Nat)(w:List UInt8)(h:ws[i]?=some w):rdOf ByteArray.empty (ws.map ofL) (i:Int)=ofL w:=by
  unfold rdOf
  rw[Int.toNat_natCast,List.getD_eq_getElem?_getD,List.getElem?_map,h]
  rfl
theorem int_at(ws:List (List UInt8))(i:Nat)(n:Int)(h:ws[i]?=some (Go.Lib.itoa n))(hn:i32 n)(hl:ws.length<=1000){k:Nat}(hk:100<=k):spec_l9Int.f k (ws.map ofL) (i:Int)=some (n,true):=by
  obtain⟨hi,he⟩:=List.getElem?_eq_some_iff.1 h
  refine spec_l9Int_itoa (ws.map ofL) (by rw[List.length_map];exact hl) i (by rw[List.length_map];exact hi) n hn.1 hn.2 ?_ hk
  rw[List.getElem_map,he]
  rfl
theorem lastS_small{N:Nat}{o:Ob}(h:smallO N o):(lastS o.1).f5.length<=N:=by
  by_cases hp:0<o.1.length
  · exact h.2.2.2 _ (getD_mem z71 o.1 (o.1.length - 1) (by omega))
  · unfold lastS
    rw[List.getD_eq_getElem?_getD,List.getElem?_eq_none (by omega)]
    exact Nat.zero_le _
theorem spec_l9Line_ev(e:Ev)(he:evOk e)(o:Ob)(hs:smallO 1000000 o)(hp:(∃ p,e = .pat p)->0<o.1.length)(line:ByteArray)(hl:line.data.toList=evL e)(hz:line.size<=1048576){k:Nat}(hk:2000000<=k):spec_l9Line.f k o.1 o.2.1 o.2.2 line=some ((evA e o).1,(evA e o).2.1,(evA e o).2.2,true):=by
  obtain⟨s,y,a⟩:=o
  obtain⟨q1,q2,q3,q4⟩:=hs
  have hw:=spec_l9Words_eq line 5 (by omega) hz (k:=k) (by omega)
  rw[show(((5:Nat):Int)+1)=6 from rfl,hl]at hw
  have tot:=fun(ws:List (List UInt8)) (h:ws.length<=1000) (i:Nat) (hi:i<=100)=>spec_l9Int_total (ws.map ofL) (by rw[List.length_map];exact h) i hi (k:=k) (by omega)
  have ex:=fun(e:List S124) (h:readE e)=>show spec_ReadExpr.f k (ofL (exprL e))=some (e,true)from by
    have h1:=exprL_len e
    rw[spec_ReadExpr_eq (ofL (exprL e)) (by rw[show(ofL (exprL e)).size=(exprL e).length from bytes_size _];omega) (by omega)]
    exact congrArg some h
  unfold spec_l9Line.f
  cases e with
  | sec x=>
    obtain⟨h1,h2,h3,h4,h5⟩:=he
    have e0:evL (.sec x)=wSec++32::(x.f0.data.toList++32::(Go.Lib.itoa x.f1++32::(Go.Lib.itoa x.f2++32::(Go.Lib.itoa x.f3++32::hexL x.f4.data.toList)))):=join6 _ _ _ _ _ _
    rw[e0,spw_cons 4 _ _ (by decide),spw_cons 3 _ _ (name_no h1 _ (.inl rfl)),spw_cons 2 _ _ (itoa_no _ _ (.inl rfl)),spw_cons 1 _ _ (itoa_no _ _ (.inl rfl)),spw_cons 0 _ _ (itoa_no _ _ (.inl rfl))]at hw
    have eW:spw 0 (hexL x.f4.data.toList)=[hexL x.f4.data.toList]:=rfl
    rw[eW]at hw
    have i2:=int_at [wSec,x.f0.data.toList,Go.Lib.itoa x.f1,Go.Lib.itoa x.f2,Go.Lib.itoa x.f3,hexL x.f4.data.toList] 2 x.f1 rfl h2 (by simp) (k:=k) (by omega)
    have i3:=int_at [wSec,x.f0.data.toList,Go.Lib.itoa x.f1,Go.Lib.itoa x.f2,Go.Lib.itoa x.f3,hexL x.f4.data.toList] 3 x.f2 rfl h3 (by simp) (k:=k) (by omega)
    have i4:=int_at [wSec,x.f0.data.toList,Go.Lib.itoa x.f1,Go.Lib.itoa x.f2,Go.Lib.itoa x.f3,hexL x.f4.data.toList] 4 x.f3 rfl h4 (by simp) (k:=k) (by omega)
    have r0:=rd_at [wSec,x.f0.data.toList,Go.Lib.itoa x.f1,Go.Lib.itoa x.f2,Go.Lib.itoa x.f3,hexL x.f4.data.toList] 0 wSec rfl
    have r1:=rd_at [wSec,x.f0.data.toList,Go.Lib.itoa x.f1,Go.Lib.itoa x.f2,Go.Lib.itoa x.f3,hexL x.f4.data.toList] 1 x.f0.data.toList rfl
    have r5:=rd_at [wSec,x.f0.data.toList,Go.Lib.itoa x.f1,Go.Lib.itoa x.f2,Go.Lib.itoa x.f3,hexL x.f4.data.toList] 5 (hexL x.f4.data.toList) rfl
    have hb:=spec_l9Bytes_eq (ofL (hexL x.f4.data.toList)) x.f4 (by rw[show(ofL (hexL x.f4.data.toList)).size=(hexL x.f4.data.toList).length from bytes_size _,hexL_len,len_list];omega) rfl (k:=k) (by omega)
    generalize hL:[wSec,x.f0.data.toList,Go.Lib.itoa x.f1,Go.Lib.itoa x.f2,Go.Lib.itoa x.f3,hexL x.f4.data.toList]=L at hw i2 i3 i4 r0 r1 r5
    have hlen:(L.map ofL).length=6:=by rw[<-hL];rfl
    rw[hw]
    simp only[Option.bind_some]
    rw[show((2:Nat):Int)=2 from rfl]at i2
    rw[show((3:Nat):Int)=3 from rfl]at i3
    rw[show((4:Nat):Int)=4 from rfl]at i4
    rw[show((0:Nat):Int)=0 from rfl]at r0
    rw[show((1:Nat):Int)=1 from rfl]at r1
    rw[show((5:Nat):Int)=5 from rfl]at r5
    rw[i2,i3,i4]
    simp only[Option.bind_some]
    rw[if_pos ⟨by rw[hlen];omega,q1,q2,q3⟩,r0,if_pos ⟨ofL_list _,hlen,trivial,trivial,trivial⟩,r5,hb]
    simp only[Option.bind_some]
    rw[r1]
    rfl
  | pat p=>
    obtain⟨h1,h2,h3⟩:=he
    have hp0:0<s.length:=hp ⟨p,rfl⟩
    have e0:evL (.pat p)=wPat++32::(Go.Lib.itoa p.f0++32::(Go.Lib.itoa p.f1++32::exprL p.f2)):=join4 _ _ _ _
    have hv:=spec_l9Words_eq line 3 (by omega) hz (k:=k) (by omega)
    rw[show(((3:Nat):Int)+1)=4 from rfl,hl,e0,spw_cons 2 _ _ (by decide),spw_cons 1 _ _ (itoa_no _ _ (.inl rfl)),spw_cons 0 _ _ (itoa_no _ _ (.inl rfl)),show spw 0 (exprL p.f2)=[exprL p.f2]from rfl]at hv
    rw[e0,spw_cons 4 _ _ (by decide),spw_cons 3 _ _ (itoa_no _ _ (.inl rfl)),spw_cons 2 _ _ (itoa_no _ _ (.inl rfl))]at hw
    have hsl:=spw_len 2 (exprL p.f2)
    generalize spw 2 (exprL p.f2)=Z at hw hsl
    have i2:=int_at (wPat::Go.Lib.itoa p.f0::Go.Lib.itoa p.f1::Z) 2 p.f1 rfl h2 (by simp;omega) (k:=k) (by omega)
    obtain⟨B,i3⟩:=tot (wPat::Go.Lib.itoa p.f0::Go.Lib.itoa p.f1::Z) (by simp;omega) 3 (by omega)
    obtain⟨C,i4⟩:=tot (wPat::Go.Lib.itoa p.f0::Go.Lib.itoa p.f1::Z) (by simp;omega) 4 (by omega)
    have r0:=rd_at (wPat::Go.Lib.itoa p.f0::Go.Lib.itoa p.f1::Z) 0 wPat rfl
    have j1:=int_at [wPat,Go.Lib.itoa p.f0,Go.Lib.itoa p.f1,exprL p.f2] 1 p.f0 rfl h1 (by simp) (k:=k) (by omega)
    have s3:=rd_at [wPat,Go.Lib.itoa p.f0,Go.Lib.itoa p.f1,exprL p.f2] 3 (exprL p.f2) rfl
    have hlv:([wPat,Go.Lib.itoa p.f0,Go.Lib.itoa p.f1,exprL p.f2].map ofL).length=4:=rfl
    have hlw:0<((wPat::Go.Lib.itoa p.f0::Go.Lib.itoa p.f1::Z).map ofL).length:=by simp
    generalize [wPat,Go.Lib.itoa p.f0,Go.Lib.itoa p.f1,exprL p.f2]=V at hv j1 s3 hlv
    generalize (wPat::Go.Lib.itoa p.f0::Go.Lib.itoa p.f1::Z)=L at hw i2 i3 i4 r0 hlw
    rw[show((2:Nat):Int)=2 from rfl]at i2
    rw[show((3:Nat):Int)=3 from rfl]at i3 s3
    rw[show((4:Nat):Int)=4 from rfl]at i4
    rw[show((0:Nat):Int)=0 from rfl]at r0
    rw[show((1:Nat):Int)=1 from rfl]at j1
    rw[hw]
    simp only[Option.bind_some]
    rw[i2,i3,i4]
    simp only[Option.bind_some]
    have t0:¬ (ofL wPat).toList=([115,101,99,116,105,111,110]:List UInt8):=by rw[ofL_list];decide
    rw[if_pos ⟨hlw,q1,q2,q3⟩,r0,if_neg (fun q=>t0 q.1),if_pos ⟨ofL_list _,hp0⟩,hv]
    simp only[Option.bind_some]
    rw[j1]
    simp only[Option.bind_some]
    rw[if_pos (by rw[hlv];omega),if_pos ⟨trivial,by rw[hlv];exact Nat.le_refl _,trivial⟩,if_pos (show(s.getD (s.length - 1) z71).f5.length<=1000000 from lastS_small (o:=(s,y,a)) ⟨q1,q2,q3,q4⟩),s3,ex p.f2 h3]
    rfl
  | sym x=>
    obtain⟨h1,h2,h3⟩:=he
    have e0:evL (.sym x)=wSym++32::(x.f0.data.toList++32::(Go.Lib.itoa x.f1++32::(Go.Lib.itoa x.f2++32::Go.Lib.itoa x.f3.toInt))):=join5 _ _ _ _ _
    rw[e0,spw_cons 4 _ _ (by decide),spw_cons 3 _ _ (name_no h1 _ (.inl rfl)),spw_cons 2 _ _ (itoa_no _ _ (.inl rfl)),spw_cons 1 _ _ (itoa_no _ _ (.inl rfl)),spw_last 1 _ (itoa_no _ _ (.inl rfl))]at hw
    have h4:i32 x.f3.toInt:=by cases x.f3 <;> exact⟨by decide,by decide⟩
    have i2:=int_at [wSym,x.f0.data.toList,Go.Lib.itoa x.f1,Go.Lib.itoa x.f2,Go.Lib.itoa x.f3.toInt] 2 x.f1 rfl h2 (by simp) (k:=k) (by omega)
    have i3:=int_at [wSym,x.f0.data.toList,Go.Lib.itoa x.f1,Go.Lib.itoa x.f2,Go.Lib.itoa x.f3.toInt] 3 x.f2 rfl h3 (by simp) (k:=k) (by omega)
    have i4:=int_at [wSym,x.f0.data.toList,Go.Lib.itoa x.f1,Go.Lib.itoa x.f2,Go.Lib.itoa x.f3.toInt] 4 x.f3.toInt rfl h4 (by simp) (k:=k) (by omega)
    have r0:=rd_at [wSym,x.f0.data.toList,Go.Lib.itoa x.f1,Go.Lib.itoa x.f2,Go.Lib.itoa x.f3.toInt] 0 wSym rfl
    have r1:=rd_at [wSym,x.f0.data.toList,Go.Lib.itoa x.f1,Go.Lib.itoa x.f2,Go.Lib.itoa x.f3.toInt] 1 x.f0.data.toList rfl
    have hlen:([wSym,x.f0.data.toList,Go.Lib.itoa x.f1,Go.Lib.itoa x.f2,Go.Lib.itoa x.f3.toInt].map ofL).length=5:=rfl
    generalize [wSym,x.f0.data.toList,Go.Lib.itoa x.f1,Go.Lib.itoa x.f2,Go.Lib.itoa x.f3.toInt]=L at hw i2 i3 i4 r0 r1 hlen
    rw[show((2:Nat):Int)=2 from rfl]at i2
    rw[show((3:Nat):Int)=3 from rfl]at i3
    rw[show((4:Nat):Int)=4 from rfl]at i4
    rw[show((0:Nat):Int)=0 from rfl]at r0
    rw[show((1:Nat):Int)=1 from rfl]at r1
    rw[hw]
    simp only[Option.bind_some]
    rw[i2,i3,i4]
    simp only[Option.bind_some]
    have t0:¬ (ofL wSym).toList=([115,101,99,116,105,111,110]:List UInt8):=by rw[ofL_list];decide
    have t1:¬ (ofL wSym).toList=([112,97,116,99,104]:List UInt8):=by rw[ofL_list];decide
    rw[if_pos ⟨by rw[hlen];omega,q1,q2,q3⟩,r0,if_neg (fun q=>t0 q.1),if_neg (fun q=>t1 q.1),if_pos ⟨ofL_list _,hlen,trivial,trivial,trivial⟩,r1]
    have eb:decide (x.f3.toInt=1)=x.f3:=by cases x.f3 <;> decide
    rw[eb]
    rfl
  | ass e=>
    have e0:evL (.ass e)=wAss++32::exprL e:=join2 _ _
    have hv:=spec_l9Words_eq line 1 (by omega) hz (k:=k) (by omega)
    rw[show(((1:Nat):Int)+1)=2 from rfl,hl,e0,spw_cons 0 _ _ (by decide),show spw 0 (exprL e)=[exprL e]from rfl]at hv
    rw[e0,spw_cons 4 _ _ (by decide)]at hw
    have hsl:=spw_len 4 (exprL e)
    generalize spw 4 (exprL e)=Z at hw hsl
    obtain⟨A,i2⟩:=tot (wAss::Z) (by simp;omega) 2 (by omega)
    obtain⟨B,i3⟩:=tot (wAss::Z) (by simp;omega) 3 (by omega)
    obtain⟨C,i4⟩:=tot (wAss::Z) (by simp;omega) 4 (by omega)
    have r0:=rd_at (wAss::Z) 0 wAss rfl
    have s1:=rd_at [wAss,exprL e] 1 (exprL e) rfl
    have hlv:([wAss,exprL e].map ofL).length=2:=rfl
    have hlw:0<((wAss::Z).map ofL).length:=by simp
    generalize [wAss,exprL e]=V at hv s1 hlv
    generalize (wAss::Z)=L at hw i2 i3 i4 r0 hlw
    rw[show((2:Nat):Int)=2 from rfl]at i2
    rw[show((3:Nat):Int)=3 from rfl]at i3
    rw[show((4:Nat):Int)=4 from rfl]at i4
    rw[show((0:Nat):Int)=0 from rfl]at r0
    rw[show((1:Nat):Int)=1 from rfl]at s1
    rw[hw]
    simp only[Option.bind_some]
    rw[i2,i3,i4]
    simp only[Option.bind_some]
    have t0:¬ (ofL wAss).toList=([115,101,99,116,105,111,110]:List UInt8):=by rw[ofL_list];decide
    have t1:¬ (ofL wAss).toList=([112,97,116,99,104]:List UInt8):=by rw[ofL_list];decide
    have t2:¬ (ofL wAss).toList=([115,121,109,98,111,108]:List UInt8):=by rw[ofL_list];decide
    rw[if_pos ⟨hlw,q1,q2,q3⟩,r0,if_neg (fun q=>t0 q.1),if_neg (fun q=>t1 q.1),if_neg (fun q=>t2 q.1),if_pos (show(ofL wAss).toList=([97,115,115,101,114,116]:List UInt8)from ofL_list _),hv]
    simp only[Option.bind_some]
    rw[if_pos (by rw[hlv];omega),if_pos (by rw[hlv];exact Nat.le_refl _),s1,ex e he]
    rfl
theorem readE_of{w:ByteArray}{E:List S124}(h:rdSpec w=(E,true)):readE E:=by
  have h0:=h
  unfold rdSpec at h
  by_cases c:(exprT (((sp 32 w.data.toList).take 31).map fun w=>readS (ofL w))).toList=w.toList/\w.toList≠[]
  · rw[if_pos c]at h
    injection h with h1 _
    have h2:E.map nd_=((sp 32 w.data.toList).take 31).map fun w=>readS (ofL w):=by
      rw[<-h1,List.map_map]
      rfl
    have h3:=toList_inj c.1
    rw[<-h2]at h3
    unfold readE exprL
    rw[show ofL (exprT (E.map nd_)).data.toList=w from by rw[h3];rfl]
    exact h0
  · rw[if_neg c]at h
    injection h with _ h
    cases h
theorem rdSpec_len(w:ByteArray):(rdSpec w).1.length<=31:=by
  unfold rdSpec
  split
  · rw[List.length_map,List.length_take]
    omega
  · simp
theorem readE_len{e:List S124}(h:readE e):e.length<=31:=by
  have:=rdSpec_len (ofL (exprL e))
  unfold readE at h
  rw[h]at this
  exact this
def readO(o:Ob):Prop:=(∀ x ∈ o.1,∀ p ∈ x.f5,readE p.f2)/\∀ e ∈ o.2.2,readE e
def okO(N:Nat)(o:Ob):Prop:=smallO N o/\(∀ x ∈ o.1,x.f4.size<=1048576)/\readO o
theorem okO_fit{N:Nat}{o:Ob}(h:okO N o)(hN:N<=1000000):(∀ x ∈ o.1,secFitI x)/\∀ x ∈ o.2.2,x.length<=1048576:=
  ⟨fun x hx=>⟨h.2.1 x hx,by have:=h.1.2.2.2 x hx;omega,fun y hy=>by have:=readE_len (h.2.2.1 x hx y hy);omega⟩,fun x hx=>by have:=readE_len (h.2.2.2 x hx);omega⟩
theorem smallO_mono{N M:Nat}{o:Ob}(h:smallO N o)(hm:N<=M):smallO M o:=⟨by have:=h.1;omega,by have:=h.2.1;omega,by have:=h.2.2.1;omega,fun x hx=>by have:=h.2.2.2 x hx;omega⟩
theorem okO_sec{N:Nat}{o:Ob}(h:okO N o)(x:S71)(h4:x.f4.size<=1048576)(h5:x.f5=[]):okO (N+1) (o.1++[x],o.2.1,o.2.2):=by
  obtain⟨⟨q1,q2,q3,q4⟩,r1,r2,r3⟩:=h
  have mem:∀ z,z ∈ o.1++[x]->z ∈ o.1\/z=x:=fun z hz=>(List.mem_append.1 hz).imp id (fun q=>List.mem_singleton.1 q)
  refine⟨⟨by simp only[List.length_append,List.length_singleton];omega,by simp only;omega,by simp only;omega,fun z hz=>?_⟩,fun z hz=>?_,⟨fun z hz=>?_,r3⟩⟩
  · rcases mem z hz with hz|rfl
    · have:=q4 z hz
      omega
    · rw[h5]
      exact Nat.zero_le _
  · rcases mem z hz with hz|rfl
    · exact r1 z hz
    · exact h4
  · rcases mem z hz with hz|rfl
    · exact r2 z hz
    · rw[h5]
      intro p hp
      cases hp
theorem okO_sym{N:Nat}{o:Ob}(h:okO N o)(x:S72):okO (N+1) (o.1,o.2.1++[x],o.2.2):=by
  obtain⟨⟨q1,q2,q3,q4⟩,r1,r2⟩:=h
  exact⟨⟨by simp only;omega,by simp only[List.length_append,List.length_singleton];omega,by simp only;omega,fun z hz=>by have:=q4 z hz;omega⟩,r1,r2⟩
theorem okO_ass{N:Nat}{o:Ob}(h:okO N o)(e:List S124)(he:readE e):okO (N+1) (o.1,o.2.1,o.2.2++[e]):=by
  obtain⟨⟨q1,q2,q3,q4⟩,r1,r2,r3⟩:=h
  refine⟨⟨by simp only;omega,by simp only;omega,by simp only[List.length_append,List.length_singleton];omega,fun z hz=>by have:=q4 z hz;omega⟩,r1,r2,fun z hz=>?_⟩
  rcases List.mem_append.1 hz with hz|hz
  · exact r3 z hz
  · rw[List.mem_singleton.1 hz]
    exact he
theorem okO_pat {N:Nat} {o:Ob} (h:okO N o) (hp:0<o.1.length) (p:S79) (he:readE p.f2):okO (N+1) (o.1.set (o.1.length - 1) (spec_l9Line.addPat (lastS o.1) p),o.2.1,o.2.2):=by
  have hl:lastS o.1 ∈ o.1:=getD_mem z71 o.1 (o.1.length - 1) (by omega)
  obtain⟨⟨q1,q2,q3,q4⟩,r1,r2,r3⟩:=h
  have q5:=q4 _ hl
  have mem:∀ z,z ∈ o.1.set (o.1.length - 1) (spec_l9Line.addPat (lastS o.1) p)->z ∈ o.1\/z=spec_l9Line.addPat (lastS o.1) p:=fun z hz=>List.mem_or_eq_of_mem_set hz
  refine⟨⟨by simp only[List.length_set];omega,by simp only;omega,by simp only;omega,fun z hz=>?_⟩,fun z hz=>?_,⟨fun z hz=>?_,r3⟩⟩
  · rcases mem z hz with hz|rfl
    · have:=q4 z hz
      omega
    · show((lastS o.1).f5++[p]).length<=N+1
      rw[List.length_append,List.length_singleton]
      omega
  · rcases mem z hz with hz|rfl
    · exact r1 z hz
    · exact(show(lastS o.1).f4.size<=1048576 from r1 _ hl)
  · rcases mem z hz with hz|rfl
    · exact r2 z hz
    · intro q hq
      rcases List.mem_append.1 (show q ∈ (lastS o.1).f5++[p]from hq)with hq|hq
      · exact r2 _ hl q hq
      · rw[List.mem_singleton.1 hq]
        exact he
theorem rd_short(n:Nat)(l:List UInt8)(i:Nat):(rdOf ByteArray.empty ((spw n l).map ofL) (i:Int)).size<=l.length:=by
  unfold rdOf
  rw[Int.toNat_natCast,List.getD_eq_getElem?_getD,List.getElem?_map]
  cases h:(spw n l)[i]? with
  |none=>exact Nat.zero_le _
  | some w=>
    have:=(spw_len n l).2.2 w (List.mem_of_getElem? h)
    show(ofL w).size<=_
    rw[show(ofL w).size=w.length from bytes_size _]
    exact this
theorem spec_l9Line_total {N:Nat} {o:Ob} (h:okO N o) (hN:N<=999999) (line:ByteArray) (hz:line.size<=1048576) {k:Nat} (hk:2000000<=k):∃ s y a b,spec_l9Line.f k o.1 o.2.1 o.2.2 line=some (s,y,a,b)/\(b=true->okO (N+1) (s,y,a)):=by
  have hll:=len_list line
  have hw:=spec_l9Words_eq line 5 (by omega) hz (k:=k) (by omega)
  rw[show(((5:Nat):Int)+1)=6 from rfl]at hw
  have hsl:=spw_len 5 line.data.toList
  obtain⟨A,i2⟩:=spec_l9Int_total ((spw 5 line.data.toList).map ofL) (by rw[List.length_map];omega) 2 (by omega) (k:=k) (by omega)
  obtain⟨B,i3⟩:=spec_l9Int_total ((spw 5 line.data.toList).map ofL) (by rw[List.length_map];omega) 3 (by omega) (k:=k) (by omega)
  obtain⟨C,i4⟩:=spec_l9Int_total ((spw 5 line.data.toList).map ofL) (by rw[List.length_map];omega) 4 (by omega) (k:=k) (by omega)
  have r5:=rd_short 5 line.data.toList 5
  have hlw:0<((spw 5 line.data.toList).map ofL).length:=by rw[List.length_map];omega
  generalize (spw 5 line.data.toList).map ofL=L at hw i2 i3 i4 r5 hlw
  rw[show((2:Nat):Int)=2 from rfl]at i2
  rw[show((3:Nat):Int)=3 from rfl]at i3
  rw[show((4:Nat):Int)=4 from rfl]at i4
  rw[show((5:Nat):Int)=5 from rfl]at r5
  obtain⟨q1,q2,q3,q4⟩:=h.1
  unfold spec_l9Line.f
  rw[hw]
  simp only[Option.bind_some]
  rw[i2,i3,i4]
  simp only[Option.bind_some]
  rw[if_pos ⟨hlw,by omega,by omega,by omega⟩]
  have no:∃ s y a b,some (o.1,o.2.1,o.2.2,false)=some (s,y,a,b)/\(b=true->okO (N+1) (s,y,a)):=⟨_,_,_,_,rfl,fun q=>by cases q⟩
  split
  · obtain⟨D,hD,hDz⟩:=spec_l9Bytes_total (rdOf ByteArray.empty L 5) (by omega) (k:=k) (by omega)
    rw[hD]
    exact⟨_,_,_,_,rfl,fun _=>okO_sec h _ (by show D.1.size<=_;omega) rfl⟩
  · split
    · rename_i hq
      have hv:=spec_l9Words_eq line 3 (by omega) hz (k:=k) (by omega)
      rw[show(((3:Nat):Int)+1)=4 from rfl]at hv
      have hsv:=spw_len 3 line.data.toList
      obtain⟨T,j1⟩:=spec_l9Int_total ((spw 3 line.data.toList).map ofL) (by rw[List.length_map];omega) 1 (by omega) (k:=k) (by omega)
      have s3:=rd_short 3 line.data.toList 3
      have hlv:0<((spw 3 line.data.toList).map ofL).length:=by rw[List.length_map];omega
      generalize (spw 3 line.data.toList).map ofL=V at hv j1 s3 hlv
      rw[show((1:Nat):Int)=1 from rfl]at j1
      rw[show((3:Nat):Int)=3 from rfl]at s3
      rw[hv]
      simp only[Option.bind_some]
      rw[j1]
      simp only[Option.bind_some]
      rw[if_pos hlv]
      split
      · rw[if_pos (show(o.1.getD (o.1.length - 1) z71).f5.length<=1000000 from by have:=lastS_small h.1;unfold lastS at this;omega),spec_ReadExpr_eq _ (by omega) (by omega)]
        refine⟨_,_,_,_,rfl,fun q=>?_⟩
        exact okO_pat h hq.2 ⟨T.1,A.1,(rdSpec (rdOf ByteArray.empty V 3)).1⟩ (readE_of (Prod.ext rfl q))
      · exact no
    · split
      · exact⟨_,_,_,_,rfl,fun _=>okO_sym h _⟩
      · split
        · have hv:=spec_l9Words_eq line 1 (by omega) hz (k:=k) (by omega)
          rw[show(((1:Nat):Int)+1)=2 from rfl]at hv
          have hsv:=spw_len 1 line.data.toList
          have s3:=rd_short 1 line.data.toList 1
          have hlv:0<((spw 1 line.data.toList).map ofL).length:=by rw[List.length_map];omega
          generalize (spw 1 line.data.toList).map ofL=V at hv s3 hlv
          rw[show((1:Nat):Int)=1 from rfl]at s3
          rw[hv]
          simp only[Option.bind_some]
          rw[if_pos hlv]
          split
          · rw[spec_ReadExpr_eq _ (by omega) (by omega)]
            exact⟨_,_,_,_,rfl,fun q=>okO_ass h _ (readE_of (Prod.ext rfl q))⟩
          · exact no
        · exact no
theorem bytes_nil9{s:ByteArray}:s.toList=[]↔s.data.toList=[]:=by rw[ByteArray.toList_eq]
def goodO(s:ByteArray)(r:List S71×List S72×List (List S124)×Bool):Prop:=(r.2.2.2=true/\objOk r.1 r.2.1 r.2.2.1=true/\readO (r.1,r.2.1,r.2.2.1)/\s.data.toList=objL r.1 r.2.1 r.2.2.1/\s.size<=60000)\/r=([],[],[],false)
def evsO(o:Ob):List Ev:=(o.1.map fun x=>Ev.sec x::x.f5.map Ev.pat).flatten++(o.2.1.map Ev.sym++o.2.2.map Ev.ass)
def runE:List Ev->Ob->Ob
  |[],o=>o
  |e::r,o=>runE r (evA e o)
def seqOk:List Ev->Ob->Prop
  |[],_=>True
  |e::r,o=>evOk e/\((∃ p,e=Ev.pat p)->0<o.1.length)/\seqOk r (evA e o)
theorem runE_app:∀(a b:List Ev) (o:Ob),runE (a++b) o=runE b (runE a o)
  |[],_,_=>rfl
  |e::r,b,o=>runE_app r b (evA e o)
theorem seqOk_app:∀(a b:List Ev) (o:Ob),seqOk a o->seqOk b (runE a o)->seqOk (a++b) o
  |[],_,_,_,h=>h
  |e::r,b,o,h,h2=>⟨h.1,h.2.1,seqOk_app r b (evA e o) h.2.2 h2⟩
theorem pats_run:∀(l:List S79) (s:List S71) (x:S71) (y:List S72) (a:List (List S124)),runE (l.map Ev.pat) (s++[x],y,a)=(s++[⟨x.f0,x.f1,x.f2,x.f3,x.f4,x.f5++l⟩],y,a)/\((∀ p ∈ l,evOk (.pat p))->seqOk (l.map Ev.pat) (s++[x],y,a))
  |[],s,x,y,a=>⟨by rw[List.append_nil];rfl,fun _=>trivial⟩
  | p :: r,s,x,y,a=>by
    have e:evA (.pat p) (s++[x],y,a)=(s++[⟨x.f0,x.f1,x.f2,x.f3,x.f4,x.f5++[p]⟩],y,a):=by
      have hn:(s++[x]).length - 1=s.length:=by rw[List.length_append,List.length_singleton];omega
      have hl:lastS (s++[x])=x:=by
        unfold lastS
        rw[hn,List.getD_eq_getElem?_getD,List.getElem?_append_right (Nat.le_refl _),Nat.sub_self]
        rfl
      show((s++[x]).set ((s++[x]).length - 1) (spec_l9Line.addPat (lastS (s++[x])) p),y,a)=_
      rw[hn,hl,List.set_append_right _ _ (Nat.le_refl _),Nat.sub_self]
      rfl
    obtain⟨h1,h2⟩:=pats_run r s ⟨x.f0,x.f1,x.f2,x.f3,x.f4,x.f5++[p]⟩ y a
    refine⟨?_,fun h=>⟨h p List.mem_cons_self,fun _=>by simp,?_⟩⟩
    · show runE (r.map Ev.pat) (evA (.pat p) (s++[x],y,a))=_
      rw[e,h1,List.append_assoc]
      rfl
    · show seqOk (r.map Ev.pat) (evA (.pat p) (s++[x],y,a))
      rw[e]
      exact h2 (fun q hq=>h q (List.mem_cons_of_mem _ hq))
theorem secs_run:∀(l:List S71) (s:List S71) (y:List S72) (a:List (List S124)),runE ((l.map fun x=>Ev.sec x::x.f5.map Ev.pat).flatten) (s,y,a)=(s++l,y,a)/\((∀ x ∈ l,evOk (.sec x)/\∀ p ∈ x.f5,evOk (.pat p))->seqOk ((l.map fun x=>Ev.sec x::x.f5.map Ev.pat).flatten) (s,y,a))
  |[],s,y,a=>⟨by rw[List.append_nil];rfl,fun _=>trivial⟩
  | x :: r,s,y,a=>by
    obtain⟨h1,h2⟩:=pats_run x.f5 s (bareS x) y a
    obtain⟨h3,h4⟩:=secs_run r (s++[x]) y a
    have e1:runE (Ev.sec x::x.f5.map Ev.pat) (s,y,a)=(s++[x],y,a):=h1
    rw[List.map_cons,List.flatten_cons]
    refine⟨?_,fun h=>?_⟩
    · rw[runE_app,e1,h3,List.append_assoc]
      rfl
    · refine seqOk_app _ _ _ ⟨(h x List.mem_cons_self).1,?_,h2 (h x List.mem_cons_self).2⟩ ?_
      · rintro⟨p,hp⟩
        cases hp
      · rw[e1]
        exact h4 (fun z hz=>h z (List.mem_cons_of_mem _ hz))
theorem syms_run:∀(l:List S72) (s:List S71) (y:List S72) (a:List (List S124)),runE (l.map Ev.sym) (s,y,a)=(s,y++l,a)/\((∀ x ∈ l,evOk (.sym x))->seqOk (l.map Ev.sym) (s,y,a))
  |[],s,y,a=>⟨by rw[List.append_nil];rfl,fun _=>trivial⟩
  | x :: r,s,y,a=>by
    obtain⟨h1,h2⟩:=syms_run r s (y++[x]) a
    refine⟨?_,fun h=>⟨h x List.mem_cons_self,?_,h2 (fun z hz=>h z (List.mem_cons_of_mem _ hz))⟩⟩
    · show runE (r.map Ev.sym) (s,y++[x],a)=_
      rw[h1,List.append_assoc]
      rfl
    · rintro⟨p,hp⟩
      cases hp
theorem asss_run:∀(l:List (List S124)) (s:List S71) (y:List S72) (a:List (List S124)),runE (l.map Ev.ass) (s,y,a)=(s,y,a++l)/\((∀ x ∈ l,evOk (.ass x))->seqOk (l.map Ev.ass) (s,y,a))
  |[],s,y,a=>⟨by rw[List.append_nil];rfl,fun _=>trivial⟩
  | x :: r,s,y,a=>by
    obtain⟨h1,h2⟩:=asss_run r s y (a++[x])
    refine⟨?_,fun h=>⟨h x List.mem_cons_self,?_,h2 (fun z hz=>h z (List.mem_cons_of_mem _ hz))⟩⟩
    · show runE (r.map Ev.ass) (s,y,a++[x])=_
      rw[h1,List.append_assoc]
      rfl
    · rintro⟨p,hp⟩
      cases hp
theorem evs_run(o:Ob)(h:objOk o.1 o.2.1 o.2.2=true)(hr:readO o):runE (evsO o) ([],[],[])=o/\seqOk (evsO o) ([],[],[]):=by
  obtain⟨s,y,a⟩:=o
  obtain⟨h1,h2,h3,h4,h5,h6⟩:=objOk_parts h
  obtain⟨a1,a2⟩:=secs_run s [] [] []
  obtain⟨b1,b2⟩:=syms_run y s [] []
  obtain⟨c1,c2⟩:=asss_run a s y []
  unfold evsO
  rw[List.nil_append]at a1 b1 c1
  refine⟨by rw[runE_app,runE_app,a1,b1,c1],seqOk_app _ _ _ (a2 fun x hx=>?_) ?_⟩
  · obtain⟨q1,q2,q3,q4,q5,q6,q7⟩:=secOk_in (h4 x hx)
    refine⟨⟨q1,⟨by omega,by omega⟩,⟨by omega,by omega⟩,⟨by omega,by omega⟩,q3⟩,fun p hp=>?_⟩
    obtain⟨p1,p2,_⟩:=patOk_in (q7 p hp) (by omega)
    exact⟨⟨by omega,by omega⟩,⟨by omega,by omega⟩,hr.1 x hx p hp⟩
  · rw[a1]
    refine seqOk_app _ _ _ (b2 fun x hx=>?_) ?_
    · obtain⟨q1,q2,q3⟩:=symOk_in h1 h4 (h5 x hx)
      exact⟨q1,⟨by omega,by omega⟩,⟨by omega,by omega⟩⟩
    · rw[b1]
      exact c2 fun x hx=>hr.2 x hx
def evT(l:List Ev):List UInt8:=(l.map fun e=>evL e++[10]).flatten
theorem evT_app(a b:List Ev):evT (a++b)=evT a++evT b:=by
  unfold evT
  rw[List.map_append,List.flatten_append]
theorem evs_text (o:Ob):evT (evsO o)=objL o.1 o.2.1 o.2.2:=by
  have hp:∀ l:List S79,evT (l.map Ev.pat)=(l.map patL).flatten:=fun l=>by
    unfold evT
    rw[List.map_map]
    rfl
  have hs:∀ l:List S71,evT ((l.map fun x=>Ev.sec x::x.f5.map Ev.pat).flatten)=(l.map secL).flatten:=by
    intro l
    induction l with
    |nil=>rfl
    | cons x r ih=>
      have e:evT (Ev.sec x::x.f5.map Ev.pat)=secL x:=by
        show secHead x++evT (x.f5.map Ev.pat)=_
        rw[hp]
        rfl
      rw[List.map_cons,List.flatten_cons,evT_app,ih,e]
      rfl
  have hy:∀ l:List S72,evT (l.map Ev.sym)=(l.map osymL).flatten:=fun l=>by
    unfold evT
    rw[List.map_map]
    rfl
  have ha:∀ l:List (List S124),evT (l.map Ev.ass)=(l.map assL).flatten:=fun l=>by
    unfold evT
    rw[List.map_map]
    rfl
  unfold evsO
  rw[evT_app,evT_app,hs,hy,ha]
  rfl
theorem evT_len:∀ l:List Ev,l.length<=(evT l).length
  |[]=>Nat.zero_le _
  | e::r=>by
    have:=evT_len r
    have e1:evT (e::r)=evL e++[10]++evT r:=rfl
    rw[e1,List.length_append,List.length_append,List.length_singleton,List.length_cons]
    omega
theorem smallO_ev{N:Nat}{o:Ob}(h:smallO N o)(e:Ev)(hp:(∃ p,e=Ev.pat p)->0<o.1.length):smallO (N+1) (evA e o):=by
  obtain⟨q1,q2,q3,q4⟩:=h
  cases e with
  | sec x=>
    refine⟨by show(o.1++[bareS x]).length<=_;rw[List.length_append,List.length_singleton];omega,by show o.2.1.length<=_;omega,by show o.2.2.length<=_;omega,fun z hz=>?_⟩
    rcases List.mem_append.1 (show z ∈ o.1++[bareS x]from hz)with hz|hz
    · have:=q4 z hz
      omega
    · rw[List.mem_singleton.1 hz]
      exact Nat.zero_le _
  | pat p=>
    refine⟨by show(o.1.set _ _).length<=_;rw[List.length_set];omega,by show o.2.1.length<=_;omega,by show o.2.2.length<=_;omega,fun z hz=>?_⟩
    have hl:lastS o.1 ∈ o.1:=getD_mem z71 o.1 (o.1.length - 1) (by have:=hp ⟨p,rfl⟩;omega)
    rcases List.mem_or_eq_of_mem_set (show z ∈ o.1.set _ _ from hz)with hz|rfl
    · have:=q4 z hz
      omega
    · have:=q4 _ hl
      show((lastS o.1).f5++[p]).length<=_
      rw[List.length_append,List.length_singleton]
      omega
  |sym y=>exact⟨by show o.1.length<=_;omega,by show(o.2.1++[y]).length<=_;rw[List.length_append,List.length_singleton];omega,by show o.2.2.length<=_;omega,fun z hz=>by have:=q4 z hz;omega⟩
  |ass y=>exact⟨by show o.1.length<=_;omega,by show o.2.1.length<=_;omega,by show(o.2.2++[y]).length<=_;rw[List.length_append,List.length_singleton];omega,fun z hz=>by have:=q4 z hz;omega⟩
theorem objText_of{s:ByteArray}{o:Ob}(h1:objOk o.1 o.2.1 o.2.2=true)(h2:s.data.toList=objL o.1 o.2.1 o.2.2):(objText o.1 o.2.1 o.2.2).toList=s.toList:=by
  unfold objText
  rw[if_pos h1,<-h2]
theorem spec_ReadObject_fwd(s:ByteArray)(hs:s.size<=60000)(O:Ob)(ho:objOk O.1 O.2.1 O.2.2=true)(hro:readO O)(hT:s.data.toList=objL O.1 O.2.1 O.2.2){k:Nat}(hk:5000000<=k):∀(l:List Ev) (m N:Nat) (o:Ob) (b:ByteArray),seqOk l o->runE l o=O->smallO N o->N+l.length<=100000->b.data.toList=evT l->b.size<=60000->l.length<m->spec_ReadObject.go k s m o.1 o.2.1 o.2.2 b=some (O.1,O.2.1,O.2.2,true)
  | [],m,N,o,b,_,hrun,_,_,hb,hz,hm=>by
    obtain⟨m,rfl⟩:∃ j,m=j+1:=⟨m - 1,by omega⟩
    obtain rfl:o=O:=hrun
    have h0:b.toList=[]:=bytes_nil9.2 hb
    obtain⟨_,_,_,h4,_,h6⟩:=objOk_parts ho
    have hf:∀ x ∈ o.1,secFitI x:=fun x hx=>by
      obtain⟨_,_,q3,q4,_,_,q7⟩:=secOk_in (h4 x hx)
      exact⟨by omega,by omega,fun p hp=>by have:=readE_len (hro.1 x hx p hp);omega⟩
    rw[spec_ReadObject.go,if_neg (fun q=>q.1 h0),if_neg (by omega),spec_ObjectText_eq _ _ _ hf (fun x hx=>by have:=readE_len (hro.2 x hx);omega) (by omega)]
    simp only[Option.bind_some]
    rw[if_pos (objText_of ho hT)]
  | e :: r,m,N,o,b,hq,hrun,hN,hl,hb,hz,hm=>by
    obtain⟨m,rfl⟩:∃ j,m=j+1:=⟨m - 1,by omega⟩
    obtain⟨q1,q2,q3⟩:=hq
    rw[List.length_cons]at hl hm
    have hb2:b.data.toList=evL e++10::evT r:=by
      rw[hb]
      show evL e++[10]++evT r=_
      simp
    have hcut:cutP b 10=(ofL (evL e),ofL (evT r),true):=by
      unfold cutP
      rw[hb2,cut_hit 10 _ _ (evL_no q1)]
      rfl
    have hne:¬ b.toList=[]:=by
      intro h
      have:=bytes_nil9.1 h
      rw[hb2]at this
      simp at this
    have hcz:=cutP_size b 10
    rw[hcut]at hcz
    simp only at hcz
    have hc:=spec_l1Cut_eq b (by omega) 10 (k:=k) (by omega)
    rw[show((10:UInt8).toNat:Int)=10 from rfl,hcut]at hc
    rw[spec_ReadObject.go,if_pos ⟨hne,hs⟩,hc]
    simp only[Option.bind_some]
    rw[spec_l9Line_ev e q1 o (smallO_mono hN (by omega)) q2 (ofL (evL e)) rfl (by omega) (by omega)]
    simp only[Option.bind_some]
    rw[if_pos ⟨trivial,trivial⟩]
    exact spec_ReadObject_fwd s hs O ho hro hT hk r m (N+1) (evA e o) (ofL (evT r)) q3 hrun (smallO_ev hN e q2) (by omega) rfl (by omega) (by omega)
theorem objText_good{s:ByteArray}{o:Ob}(h:s.toList=[]->o=([],[],[]))(hr:readO o)(hs:s.size<=60000)(ht:(objText o.1 o.2.1 o.2.2).toList=s.toList):goodO s (o.1,o.2.1,o.2.2,true):=by
  unfold objText at ht
  by_cases c:objOk o.1 o.2.1 o.2.2=true
  · rw[if_pos c]at ht
    refine .inl ⟨rfl,c,hr,?_,hs⟩
    rw[<-toList_inj ht]
  · rw[if_neg c]at ht
    have h0:s.toList=[]:=by rw[<-ht];exact size_zero.2 rfl
    rw[h h0]at c
    exact absurd rfl c
theorem spec_ReadObject_back (s:ByteArray) (hs:s.size<=1048576) {k:Nat} (hk:5000000<=k):∀(m N:Nat) (o:Ob) (b:ByteArray),okO N o->(s.size<=60000->N+b.size<=70000)->N<=70000->b.size<m->(s.toList=[]->o=([],[],[])/\b.toList=[])->∃ r,spec_ReadObject.go k s m o.1 o.2.1 o.2.2 b=some r/\goodO s r
  |0,_,_,_,_,_,_,hm,_=>by omega
  | m + 1,N,o,b,ho,hN,hN2,hm,h0=>by
    have none':∃ r,some (([]:List S71),([]:List S72),([]:List (List S124)),false)=some r/\goodO s r:=⟨_,rfl,.inr rfl⟩
    rw[spec_ReadObject.go]
    by_cases c:b.toList≠[]/\s.size<=60000
    · have hz:b.size<=70000:=by have:=hN c.2;omega
      have hc:=spec_l1Cut_eq b (by omega) 10 (k:=k) (by omega)
      rw[show((10:UInt8).toNat:Int)=10 from rfl]at hc
      obtain⟨z1,z2,z3⟩:=cutP_size b 10
      rw[if_pos c,hc]
      generalize cutP b 10=Z at z1 z2 z3 ⊢
      obtain⟨L,M,ended⟩:=Z
      simp only at z1 z2 z3
      simp only[Option.bind_some]
      obtain⟨s',y',a',ok,h1,h2⟩:=spec_l9Line_total ho (by omega) L (by omega) (k:=k) (by omega)
      rw[h1]
      simp only[Option.bind_some]
      by_cases hq:ok=true/\ended=true
      · rw[if_pos hq]
        have:=z3 hq.2
        exact spec_ReadObject_back s hs hk m (N+1) (s',y',a') M (h2 hq.1) (fun q=>by have:=hN q;omega) (by have:=hN c.2;omega) (by omega) (fun q=>absurd (h0 q).2 c.1)
      · rw[if_neg hq]
        exact none'
    · rw[if_neg c]
      by_cases h6:s.size > 60000
      · rw[if_pos h6]
        exact none'
      · obtain⟨f1,f2⟩:=okO_fit ho (by omega)
        rw[if_neg h6,spec_ObjectText_eq _ _ _ f1 f2 (by omega)]
        simp only[Option.bind_some]
        by_cases ht:(objText o.1 o.2.1 o.2.2).toList=s.toList
        · rw[if_pos ht]
          exact⟨_,rfl,objText_good (fun q=>(h0 q).1) ho.2.2 (by omega) ht⟩
        · rw[if_neg ht]
          exact none'
noncomputable def rdObj(s:ByteArray):List S71×List S72×List (List S124)×Bool:=by
  classical
  exact if h:∃ o:Ob,objOk o.1 o.2.1 o.2.2=true/\readO o/\s.data.toList=objL o.1 o.2.1 o.2.2/\s.size<=60000 then(h.choose.1,h.choose.2.1,h.choose.2.2,true)else([],[],[],false)
theorem rdObj_of{s:ByteArray}{r:List S71×List S72×List (List S124)×Bool}(hg:goodO s r)(hf:∀ o:Ob,objOk o.1 o.2.1 o.2.2=true->readO o->s.data.toList=objL o.1 o.2.1 o.2.2->s.size<=60000->r=(o.1,o.2.1,o.2.2,true)):r=rdObj s:=by
  unfold rdObj
  by_cases h:∃ o:Ob,objOk o.1 o.2.1 o.2.2=true/\readO o/\s.data.toList=objL o.1 o.2.1 o.2.2/\s.size<=60000
  · rw[dif_pos h]
    exact hf _ h.choose_spec.1 h.choose_spec.2.1 h.choose_spec.2.2.1 h.choose_spec.2.2.2
  · rw[dif_neg h]
    rcases hg with⟨h1,h2,h3,h4,h5⟩|h1
    · exact absurd ⟨_,h2,h3,h4,h5⟩ h
    · exact h1
theorem rdObj_fit(s:ByteArray):((rdObj s).1.length<=12/\∀ x ∈ (rdObj s).1,secFitI x/\x.f5.length<=256/\∀ p ∈ x.f5,p.f2.length<=31)/\(rdObj s).2.1.length<=200/\(rdObj s).2.2.1.length<=12/\∀ x ∈ (rdObj s).2.2.1,x.length<=31:=by
  unfold rdObj
  by_cases h:∃ o:Ob,objOk o.1 o.2.1 o.2.2=true/\readO o/\s.data.toList=objL o.1 o.2.1 o.2.2/\s.size<=60000
  · rw[dif_pos h]
    obtain⟨h1,h2,_,_⟩:=h.choose_spec
    obtain⟨p1,p2,p3,p4,p5,p6⟩:=objOk_parts h1
    refine⟨⟨p1,fun x hx=>?_⟩,p2,p3,fun x hx=>readE_len (h2.2 x hx)⟩
    obtain⟨_,_,q3,q4,_,_,q7⟩:=secOk_in (p4 x hx)
    have hp:=fun p hp=>readE_len (h2.1 x hx p hp)
    exact⟨⟨by omega,by omega,fun p hq=>by have:=hp p hq;omega⟩,q4,hp⟩
  · rw[dif_neg h]
    exact⟨⟨Nat.zero_le _,fun x hx=>by cases hx⟩,Nat.zero_le _,Nat.zero_le _,fun x hx=>by cases hx⟩
theorem okO_nil:okO 0 ([],[],[]):=⟨⟨Nat.le_refl _,Nat.le_refl _,Nat.le_refl _,fun x hx=>absurd hx (List.not_mem_nil)⟩,fun x hx=>absurd hx (List.not_mem_nil),⟨fun x hx=>absurd hx (List.not_mem_nil),fun x hx=>absurd hx (List.not_mem_nil)⟩⟩
theorem spec_ReadObject_eq(s:ByteArray)(hs:s.size<=1048576){k:Nat}(hk:5000000<=k):spec_ReadObject.f k s=some (rdObj s):=by
  unfold spec_ReadObject.f
  obtain⟨r,h1,h2⟩:=spec_ReadObject_back s hs hk k 0 ([],[],[]) s okO_nil (fun h=>by omega) (by omega) (by omega) (fun h=>⟨rfl,h⟩)
  rw[h1,rdObj_of h2]
  intro o q1 q2 q3 q4
  obtain⟨e1,e2⟩:=evs_run o q1 q2
  have ht:=evs_text o
  have hl:=evT_len (evsO o)
  have hz:=len_list s
  rw[ht,<-q3]at hl
  have:=spec_ReadObject_fwd s q4 o q1 q2 q3 hk (evsO o) k 0 ([],[],[]) s e2 e1 okO_nil.1 (by omega) (by rw[ht,q3]) q4 (by omega)
  rw[h1]at this
  exact Option.some.inj this
theorem sp_cons(c:UInt8)(a b:List UInt8)(h:c ∉ a):sp c (a++c::b)=a::sp c b:=by
  obtain⟨h1,h2⟩:=sp_hit (b:=b) h
  rw[sp,h1,h2]
  rfl
theorem sp_one(c:UInt8)(a:List UInt8)(h:c ∉ a):sp c a=[a]:=by
  obtain⟨h1,h2⟩:=sp_miss h
  rw[sp,h1,h2]
theorem map_ofL(Z:List (List UInt8)):(Z.map ofL).map (·.data.toList)=Z:=by
  rw[List.map_map]
  conv=>rhs;rw[<-List.map_id Z]
  rfl
theorem join_words(Z:List (List UInt8))(h:(Go.Lib.join Z [32]).length<=1048576)(hZ:Z.length<=1048577):strings_Join.f (Z.map ofL) (⟨#[32]⟩:ByteArray)=some (ofL (Go.Lib.join Z [32])):=by
  have e:(⟨#[32]⟩:ByteArray).data.toList=[32]:=rfl
  unfold strings_Join.f
  rw[map_ofL,e,List.length_map,if_pos (by omega),if_pos (by omega)]
  rfl
theorem num_at(ws:List (List UInt8))(i:Nat)(n:Int)(h:ws[i]?=some (Go.Lib.itoa n))(hn:i32 n):impl_number.f (rdOf ByteArray.empty (ws.map ofL) (i:Int))=some n:=by
  have hl:=itoa_len n (by have:=hn.1;omega) (by have:=hn.2;omega)
  rw[rd_at ws i _ h]
  exact impl_number_itoa n (by have:=hn.1;omega) (by have:=hn.2;omega) _ (by rw[show(ofL (Go.Lib.itoa n)).size=(Go.Lib.itoa n).length from bytes_size _];omega) rfl
theorem sp_count(c:UInt8):∀ l:List UInt8,(sp c l).length<=l.length+1:=by
  have h:∀ l:List UInt8,(spt c l).length<=l.length:=by
    intro l
    induction l with
    |nil=>simp[spt]
    | cons x r ih=>
      rw[spt]
      split
      · simp;omega
      · simp;omega
  intro l
  have:=h l
  rw[sp,List.length_cons]
  omega
theorem impl_readOne_ev (e:Ev) (he:evOk e) (o:Ob) (hs:smallO 1000000 o) (hp:(∃ p,e = .pat p)->0<o.1.length) (line:ByteArray) (hl:line.data.toList=evL e) (hz:line.size<=1048576) {k:Nat} (hk:2000000<=k):impl_Object_readOne.f k o.1 o.2.1 o.2.2 line=some ((evA e o).1,(evA e o).2.1,(evA e o).2.2,true):=by
  obtain⟨s,y,a⟩:=o
  obtain⟨q1,q2,q3,q4⟩:=hs
  have hw:=split_sp line hz
  rw[hl]at hw
  have ex:=fun(e:List S124) (h:readE e)=>show impl_ReadExpr.f k (ofL (exprL e))=some (e,true)from by
    have h1:=exprL_len e
    rw[impl_ReadExpr_eq (ofL (exprL e)) (by rw[show(ofL (exprL e)).size=(exprL e).length from bytes_size _];omega) (by omega),rd_same]
    exact congrArg some h
  have jn:=fun(e:List S124)=>show strings_Join.f ((sp 32 (exprL e)).map ofL) (⟨#[32]⟩:ByteArray)=some (ofL (exprL e))from by
    have h1:=exprL_len e
    have h2:=sp_count 32 (exprL e)
    have:=join_words (sp 32 (exprL e)) (by rw[join_sp];omega) (by omega)
    rw[join_sp]at this
    exact this
  unfold impl_Object_readOne.f
  cases e with
  | sec x=>
    obtain⟨h1,h2,h3,h4,h5⟩:=he
    have e0:evL (.sec x)=wSec++32::(x.f0.data.toList++32::(Go.Lib.itoa x.f1++32::(Go.Lib.itoa x.f2++32::(Go.Lib.itoa x.f3++32::hexL x.f4.data.toList)))):=join6 _ _ _ _ _ _
    rw[e0,sp_cons 32 _ _ (by decide),sp_cons 32 _ _ (name_no h1 _ (.inl rfl)),sp_cons 32 _ _ (itoa_no _ _ (.inl rfl)),sp_cons 32 _ _ (itoa_no _ _ (.inl rfl)),sp_cons 32 _ _ (itoa_no _ _ (.inl rfl)),sp_one 32 _ (hexL_no _ _ (.inl rfl))]at hw
    have i2:=num_at [wSec,x.f0.data.toList,Go.Lib.itoa x.f1,Go.Lib.itoa x.f2,Go.Lib.itoa x.f3,hexL x.f4.data.toList] 2 x.f1 rfl h2
    have i3:=num_at [wSec,x.f0.data.toList,Go.Lib.itoa x.f1,Go.Lib.itoa x.f2,Go.Lib.itoa x.f3,hexL x.f4.data.toList] 3 x.f2 rfl h3
    have i4:=num_at [wSec,x.f0.data.toList,Go.Lib.itoa x.f1,Go.Lib.itoa x.f2,Go.Lib.itoa x.f3,hexL x.f4.data.toList] 4 x.f3 rfl h4
    have r0:=rd_at [wSec,x.f0.data.toList,Go.Lib.itoa x.f1,Go.Lib.itoa x.f2,Go.Lib.itoa x.f3,hexL x.f4.data.toList] 0 wSec rfl
    have r1:=rd_at [wSec,x.f0.data.toList,Go.Lib.itoa x.f1,Go.Lib.itoa x.f2,Go.Lib.itoa x.f3,hexL x.f4.data.toList] 1 x.f0.data.toList rfl
    have r5:=rd_at [wSec,x.f0.data.toList,Go.Lib.itoa x.f1,Go.Lib.itoa x.f2,Go.Lib.itoa x.f3,hexL x.f4.data.toList] 5 (hexL x.f4.data.toList) rfl
    have hb:=impl_unhex_eq (ofL (hexL x.f4.data.toList)) x.f4 (by rw[show(ofL (hexL x.f4.data.toList)).size=(hexL x.f4.data.toList).length from bytes_size _,hexL_len,len_list];omega) rfl (k:=k) (by omega)
    have hlen:([wSec,x.f0.data.toList,Go.Lib.itoa x.f1,Go.Lib.itoa x.f2,Go.Lib.itoa x.f3,hexL x.f4.data.toList].map ofL).length=6:=rfl
    generalize [wSec,x.f0.data.toList,Go.Lib.itoa x.f1,Go.Lib.itoa x.f2,Go.Lib.itoa x.f3,hexL x.f4.data.toList]=L at hw i2 i3 i4 r0 r1 r5 hlen
    rw[show((2:Nat):Int)=2 from rfl]at i2
    rw[show((3:Nat):Int)=3 from rfl]at i3
    rw[show((4:Nat):Int)=4 from rfl]at i4
    rw[show((0:Nat):Int)=0 from rfl]at r0
    rw[show((1:Nat):Int)=1 from rfl]at r1
    rw[show((5:Nat):Int)=5 from rfl]at r5
    rw[hw]
    simp only[Option.bind_some]
    rw[if_pos ⟨by rw[hlen];omega,q1,q2,q3⟩,r0,if_pos ⟨ofL_list _,hlen⟩,i2,i3,i4,r5,hb,r1]
    rfl
  | pat p=>
    obtain⟨h1,h2,h3⟩:=he
    have hp0:0<s.length:=hp ⟨p,rfl⟩
    have e0:evL (.pat p)=wPat++32::(Go.Lib.itoa p.f0++32::(Go.Lib.itoa p.f1++32::exprL p.f2)):=join4 _ _ _ _
    rw[e0,sp_cons 32 _ _ (by decide),sp_cons 32 _ _ (itoa_no _ _ (.inl rfl)),sp_cons 32 _ _ (itoa_no _ _ (.inl rfl))]at hw
    have hj:=jn p.f2
    have hZ:0<(sp 32 (exprL p.f2)).length:=by rw[sp];simp
    generalize sp 32 (exprL p.f2)=Z at hw hj hZ
    have i1:=num_at (wPat::Go.Lib.itoa p.f0::Go.Lib.itoa p.f1::Z) 1 p.f0 rfl h1
    have i2:=num_at (wPat::Go.Lib.itoa p.f0::Go.Lib.itoa p.f1::Z) 2 p.f1 rfl h2
    have r0:=rd_at (wPat::Go.Lib.itoa p.f0::Go.Lib.itoa p.f1::Z) 0 wPat rfl
    have hd:((wPat::Go.Lib.itoa p.f0::Go.Lib.itoa p.f1::Z).map ofL).drop 3=Z.map ofL:=rfl
    have hlw:3<((wPat::Go.Lib.itoa p.f0::Go.Lib.itoa p.f1::Z).map ofL).length:=by simp;omega
    generalize (wPat::Go.Lib.itoa p.f0::Go.Lib.itoa p.f1::Z)=L at hw i1 i2 r0 hd hlw
    rw[show((2:Nat):Int)=2 from rfl]at i2
    rw[show((0:Nat):Int)=0 from rfl]at r0
    rw[show((1:Nat):Int)=1 from rfl]at i1
    have t0:¬ (ofL wPat).toList=([115,101,99,116,105,111,110]:List UInt8):=by rw[ofL_list];decide
    rw[hw]
    simp only[Option.bind_some]
    rw[if_pos ⟨by omega,q1,q2,q3⟩,r0,if_neg (fun q=>t0 q.1),if_pos ⟨ofL_list _,hlw,hp0⟩,hd,hj]
    simp only[Option.bind_some]
    rw[ex p.f2 h3]
    simp only[Option.bind_some]
    rw[if_pos trivial,if_pos (show(s.getD (s.length - 1) z71).f5.length<=1000000 from lastS_small (o:=(s,y,a)) ⟨q1,q2,q3,q4⟩),i1,i2]
    rfl
  | sym x=>
    obtain⟨h1,h2,h3⟩:=he
    have e0:evL (.sym x)=wSym++32::(x.f0.data.toList++32::(Go.Lib.itoa x.f1++32::(Go.Lib.itoa x.f2++32::Go.Lib.itoa x.f3.toInt))):=join5 _ _ _ _ _
    rw[e0,sp_cons 32 _ _ (by decide),sp_cons 32 _ _ (name_no h1 _ (.inl rfl)),sp_cons 32 _ _ (itoa_no _ _ (.inl rfl)),sp_cons 32 _ _ (itoa_no _ _ (.inl rfl)),sp_one 32 _ (itoa_no _ _ (.inl rfl))]at hw
    have i2:=num_at [wSym,x.f0.data.toList,Go.Lib.itoa x.f1,Go.Lib.itoa x.f2,Go.Lib.itoa x.f3.toInt] 2 x.f1 rfl h2
    have i3:=num_at [wSym,x.f0.data.toList,Go.Lib.itoa x.f1,Go.Lib.itoa x.f2,Go.Lib.itoa x.f3.toInt] 3 x.f2 rfl h3
    have r0:=rd_at [wSym,x.f0.data.toList,Go.Lib.itoa x.f1,Go.Lib.itoa x.f2,Go.Lib.itoa x.f3.toInt] 0 wSym rfl
    have r1:=rd_at [wSym,x.f0.data.toList,Go.Lib.itoa x.f1,Go.Lib.itoa x.f2,Go.Lib.itoa x.f3.toInt] 1 x.f0.data.toList rfl
    have r4:=rd_at [wSym,x.f0.data.toList,Go.Lib.itoa x.f1,Go.Lib.itoa x.f2,Go.Lib.itoa x.f3.toInt] 4 (Go.Lib.itoa x.f3.toInt) rfl
    have hlen:([wSym,x.f0.data.toList,Go.Lib.itoa x.f1,Go.Lib.itoa x.f2,Go.Lib.itoa x.f3.toInt].map ofL).length=5:=rfl
    generalize [wSym,x.f0.data.toList,Go.Lib.itoa x.f1,Go.Lib.itoa x.f2,Go.Lib.itoa x.f3.toInt]=L at hw i2 i3 r0 r1 r4 hlen
    rw[show((2:Nat):Int)=2 from rfl]at i2
    rw[show((3:Nat):Int)=3 from rfl]at i3
    rw[show((4:Nat):Int)=4 from rfl]at r4
    rw[show((0:Nat):Int)=0 from rfl]at r0
    rw[show((1:Nat):Int)=1 from rfl]at r1
    have t0:¬ (ofL wSym).toList=([115,101,99,116,105,111,110]:List UInt8):=by rw[ofL_list];decide
    have t1:¬ (ofL wSym).toList=([112,97,116,99,104]:List UInt8):=by rw[ofL_list];decide
    have eb:((ofL (Go.Lib.itoa x.f3.toInt)).toList==([49]:List UInt8))=x.f3:=by
      rw[ofL_list]
      cases x.f3
      · show(Go.Lib.itoa 0==([49]:List UInt8))=false
        rw[show Go.Lib.itoa 0=[48]from by unfold Go.Lib.itoa;rw[if_neg (by decide),Go.Lib.decDigits];rfl]
        decide
      · show(Go.Lib.itoa 1==([49]:List UInt8))=true
        rw[show Go.Lib.itoa 1=[49]from by unfold Go.Lib.itoa;rw[if_neg (by decide),Go.Lib.decDigits];rfl]
        decide
    rw[hw]
    simp only[Option.bind_some]
    rw[if_pos ⟨by rw[hlen];omega,q1,q2,q3⟩,r0,if_neg (fun q=>t0 q.1),if_neg (fun q=>t1 q.1),if_pos ⟨ofL_list _,hlen⟩,i2,i3,r1,r4,eb]
    rfl
  | ass e=>
    have e0:evL (.ass e)=wAss++32::exprL e:=join2 _ _
    rw[e0,sp_cons 32 _ _ (by decide)]at hw
    have hj:=jn e
    have hZ:0<(sp 32 (exprL e)).length:=by rw[sp];simp
    generalize sp 32 (exprL e)=Z at hw hj hZ
    have r0:=rd_at (wAss::Z) 0 wAss rfl
    have hd:((wAss::Z).map ofL).drop 1=Z.map ofL:=rfl
    have hlw:1<((wAss::Z).map ofL).length:=by simp;omega
    generalize (wAss::Z)=L at hw r0 hd hlw
    rw[show((0:Nat):Int)=0 from rfl]at r0
    have t0:¬ (ofL wAss).toList=([115,101,99,116,105,111,110]:List UInt8):=by rw[ofL_list];decide
    have t1:¬ (ofL wAss).toList=([112,97,116,99,104]:List UInt8):=by rw[ofL_list];decide
    have t2:¬ (ofL wAss).toList=([115,121,109,98,111,108]:List UInt8):=by rw[ofL_list];decide
    rw[hw]
    simp only[Option.bind_some]
    rw[if_pos ⟨by omega,q1,q2,q3⟩,r0,if_neg (fun q=>t0 q.1),if_neg (fun q=>t1 q.1),if_neg (fun q=>t2 q.1),if_pos ⟨ofL_list _,hlw⟩,hd,hj]
    simp only[Option.bind_some]
    rw[ex e he]
    rfl
theorem tot_drop:∀(m:Nat) (Z:List (List UInt8)),tot (Z.drop m)<=tot Z
  |0,Z=>by rw[List.drop_zero];exact Nat.le_refl _
  |m+1,[]=>by simp
  | m+1,z::Z=>by
    have:=tot_drop m Z
    rw[List.drop_succ_cons]
    unfold tot at this ⊢
    rw[List.map_cons,List.sum_cons]
    omega
theorem join_len_le9(Z:List (List UInt8)):(Go.Lib.join Z [32]).length<=tot Z+Z.length:=by
  cases Z with
  |nil=>rw[Go.Lib.join_nil];simp
  | cons x r=>
    rw[join_len,List.length_cons]
    omega
theorem sp_tot(l:List UInt8):tot (sp 32 l)<=l.length:=by
  have h:=congrArg List.length (join_sp 32 l)
  rw[sp,join_len]at h
  rw[sp]
  omega
theorem rd_shortI(l:List UInt8)(i:Nat):(rdOf ByteArray.empty ((sp 32 l).map ofL) (i:Int)).size<=l.length:=by
  unfold rdOf
  rw[Int.toNat_natCast,List.getD_eq_getElem?_getD,List.getElem?_map]
  cases h:(sp 32 l)[i]? with
  |none=>exact Nat.zero_le _
  | some w=>
    have:=sp_len 32 l w (List.mem_of_getElem? h)
    show(ofL w).size<=_
    rw[show(ofL w).size=w.length from bytes_size _]
    exact this
theorem impl_readOne_total {N:Nat} {o:Ob} (h:okO N o) (hN:N<=999999) (line:ByteArray) (hz:line.size<=100000) {k:Nat} (hk:2000000<=k):∃ s y a b,impl_Object_readOne.f k o.1 o.2.1 o.2.2 line=some (s,y,a,b)/\(b=true->okO (N+1) (s,y,a)):=by
  have hll:=len_list line
  have hw:=split_sp line (by omega)
  have hc:=sp_count 32 line.data.toList
  have ht:=sp_tot line.data.toList
  have hlw:0<((sp 32 line.data.toList).map ofL).length:=by rw[List.length_map,sp];simp
  have rs:=rd_shortI line.data.toList
  have hj:∀ m,∃ j:ByteArray,strings_Join.f (((sp 32 line.data.toList).map ofL).drop m) (⟨#[32]⟩:ByteArray)=some j/\j.size<=1048576:=fun m=>by
    have h1:=tot_drop m (sp 32 line.data.toList)
    have h2:=join_len_le9 ((sp 32 line.data.toList).drop m)
    rw[List.length_drop]at h2
    refine⟨_,by rw[<-List.map_drop];exact join_words _ (by omega) (by rw[List.length_drop];omega),?_⟩
    rw[show(ofL (Go.Lib.join ((sp 32 line.data.toList).drop m) [32])).size=(Go.Lib.join ((sp 32 line.data.toList).drop m) [32]).length from bytes_size _]
    omega
  generalize (sp 32 line.data.toList).map ofL=L at hw hlw rs hj
  obtain⟨q1,q2,q3,q4⟩:=h.1
  have nm:∀ i:Nat,∃ v,impl_number.f (rdOf ByteArray.empty L (i:Int))=some v:=fun i=>impl_number_some _ (by have:=rs i;omega)
  have no:∃ s y a b,some (o.1,o.2.1,o.2.2,false)=some (s,y,a,b)/\(b=true->okO (N+1) (s,y,a)):=⟨_,_,_,_,rfl,fun q=>by cases q⟩
  obtain⟨n1,e1⟩:=nm 1
  obtain⟨n2,e2⟩:=nm 2
  obtain⟨n3,e3⟩:=nm 3
  obtain⟨n4,e4⟩:=nm 4
  have r5:=rs 5
  rw[show((1:Nat):Int)=1 from rfl]at e1
  rw[show((2:Nat):Int)=2 from rfl]at e2
  rw[show((3:Nat):Int)=3 from rfl]at e3
  rw[show((4:Nat):Int)=4 from rfl]at e4
  rw[show((5:Nat):Int)=5 from rfl]at r5
  unfold impl_Object_readOne.f
  rw[hw]
  simp only[Option.bind_some]
  rw[if_pos ⟨hlw,by omega,by omega,by omega⟩]
  split
  · obtain⟨D,hD,hDz⟩:=impl_unhex_total (rdOf ByteArray.empty L 5) (by omega) (k:=k) (by omega)
    rw[e2,e3,e4,hD]
    exact⟨_,_,_,_,rfl,fun _=>okO_sec h _ (by show D.size<=_;omega) rfl⟩
  · split
    · rename_i hq
      obtain⟨j,hj1,hj2⟩:=hj 3
      rw[hj1]
      simp only[Option.bind_some]
      rw[impl_ReadExpr_eq j hj2 (by omega),rd_same]
      simp only[Option.bind_some]
      split
      · rename_i hb
        rw[if_pos (show(o.1.getD (o.1.length - 1) z71).f5.length<=1000000 from by have:=lastS_small h.1;unfold lastS at this;omega),e1,e2]
        exact⟨_,_,_,_,rfl,fun _=>okO_pat h hq.2.2 ⟨n1,n2,(rdSpec j).1⟩ (readE_of (Prod.ext rfl hb))⟩
      · exact no
    · split
      · rw[e2,e3]
        exact⟨_,_,_,_,rfl,fun _=>okO_sym h _⟩
      · split
        · obtain⟨j,hj1,hj2⟩:=hj 1
          rw[hj1]
          simp only[Option.bind_some]
          rw[impl_ReadExpr_eq j hj2 (by omega),rd_same]
          simp only[Option.bind_some]
          split
          · rename_i hb
            exact⟨_,_,_,_,rfl,fun _=>okO_ass h _ (readE_of (Prod.ext rfl hb))⟩
          · exact no
        · exact no
theorem impl_ReadObject_back (s:ByteArray) (hs:s.size<=60000) {k:Nat} (hk:5000000<=k):∀(l:List ByteArray) (N:Nat) (o:Ob),okO N o->N+l.length<=100000->(∀ b ∈ l,b.size<=100000)->(s.toList=[]->o=([],[],[])/\l=[])->∃ r,impl_ReadObject.go k s o.1 o.2.1 o.2.2 l=some r/\goodO s r
  | [], N,o,ho,hN,hb,h0=>by
    obtain⟨f1,_⟩:=okO_fit ho (by omega)
    rw[impl_ReadObject.go,impl_ObjectOk_eq _ _ _ f1 (by omega)]
    simp only[Option.bind_some]
    by_cases c:objOk o.1 o.2.1 o.2.2=true
    · rw[if_pos c,impl_objectText_eq _ _ _ c (by omega)]
      simp only[Option.bind_some]
      by_cases ht:(⟨(objL o.1 o.2.1 o.2.2).toArray⟩:ByteArray).toList=s.toList
      · rw[if_pos ht]
        refine⟨_,rfl,.inl ⟨rfl,c,ho.2.2,?_,hs⟩⟩
        rw[<-toList_inj ht]
      · rw[if_neg ht]
        exact⟨_,rfl,.inr rfl⟩
    · rw[if_neg c]
      exact⟨_,rfl,.inr rfl⟩
  | b :: r,N,o,ho,hN,hb,h0=>by
    rw[List.length_cons]at hN
    obtain⟨s',y',a',ok,h1,h2⟩:=impl_readOne_total ho (by omega) b (hb b List.mem_cons_self) (k:=k) (by omega)
    rw[impl_ReadObject.go,h1]
    simp only[Option.bind_some]
    by_cases hq:ok=true
    · rw[if_pos hq]
      exact impl_ReadObject_back s hs hk r (N+1) (s',y',a') (h2 hq) (by omega) (fun c hc=>hb c (List.mem_cons_of_mem _ hc)) (fun q=>absurd (h0 q).2 (by simp))
    · rw[if_neg hq]
      exact⟨_,rfl,.inr rfl⟩
theorem impl_ReadObject_fwd(s:ByteArray)(O:Ob)(ho:objOk O.1 O.2.1 O.2.2=true)(hro:readO O)(hT:s.data.toList=objL O.1 O.2.1 O.2.2){k:Nat}(hk:5000000<=k):∀(l:List Ev) (N:Nat) (o:Ob),seqOk l o->runE l o=O->smallO N o->N+l.length<=100000->(∀ e ∈ l,(evL e).length<=60000)->impl_ReadObject.go k s o.1 o.2.1 o.2.2 (l.map fun e=>ofL (evL e))=some (O.1,O.2.1,O.2.2,true)
  | [],N,o,_,hrun,_,_,_=>by
    obtain rfl:o=O:=hrun
    obtain⟨_,_,_,h4,_,h6⟩:=objOk_parts ho
    have hf:∀ x ∈ o.1,secFitI x:=fun x hx=>by
      obtain⟨_,_,q3,q4,_,_,q7⟩:=secOk_in (h4 x hx)
      exact⟨by omega,by omega,fun p hp=>by have:=readE_len (hro.1 x hx p hp);omega⟩
    rw[List.map_nil,impl_ReadObject.go,impl_ObjectOk_eq _ _ _ hf (by omega)]
    simp only[Option.bind_some]
    rw[if_pos ho,impl_objectText_eq _ _ _ ho (by omega)]
    simp only[Option.bind_some]
    rw[if_pos (by rw[<-hT])]
  | e::r,N,o,hq,hrun,hN,hl,hz=>by
    obtain⟨q1,q2,q3⟩:=hq
    rw[List.length_cons]at hl
    have h1:=hz e List.mem_cons_self
    rw[List.map_cons,impl_ReadObject.go,impl_readOne_ev e q1 o (smallO_mono hN (by omega)) q2 (ofL (evL e)) rfl (by rw[show(ofL (evL e)).size=(evL e).length from bytes_size _];omega) (by omega)]
    simp only[Option.bind_some]
    rw[if_pos trivial]
    exact impl_ReadObject_fwd s O ho hro hT hk r (N+1) (evA e o) q3 hrun (smallO_ev hN e q2) (by omega) (fun c hc=>hz c (List.mem_cons_of_mem _ hc))
theorem sp_evs:∀(l:List Ev) (o:Ob),seqOk l o->sp 10 (evT l)=l.map evL++[[]]
  |[],_,_=>rfl
  | e :: r,o,h=>by
    have e1:evT (e::r)=evL e++10::evT r:=by
      show evL e++[10]++evT r=_
      simp
    rw[e1,sp_cons 10 _ _ (evL_no h.1),sp_evs r _ h.2.2]
    rfl
theorem evL_short:∀(l:List Ev),∀ e ∈ l,(evL e).length<=(evT l).length
  |[],e,h=>by cases h
  | x :: r,e,h=>by
    have e1:evT (x::r)=evL x++[10]++evT r:=rfl
    rw[e1,List.length_append,List.length_append,List.length_singleton]
    rcases List.mem_cons.1 h with rfl|h
    · omega
    · have:=evL_short r e h
      omega
theorem impl_ReadObject_eq(s:ByteArray)(hs:s.size<=1048576){k:Nat}(hk:5000000<=k):impl_ReadObject.f k s=some (rdObj s):=by
  unfold impl_ReadObject.f
  by_cases h6:s.size > 60000
  · rw[if_pos h6]
    exact congrArg some (rdObj_of (s:=s) (.inr rfl) (fun o _ _ _ q=>by omega))
  · have hz:=len_list s
    have hc:=sp_count 10 s.data.toList
    have hpos:0<((sp 10 s.data.toList).map ofL).length:=by rw[List.length_map,sp];simp
    rw[if_neg h6,split_by 10 s hs]
    simp only[Option.bind_some]
    rw[if_pos hpos]
    obtain⟨r,h1,h2⟩:=impl_ReadObject_back s (by omega) hk (((sp 10 s.data.toList).map ofL).take (((sp 10 s.data.toList).map ofL).length - 1)) 0 ([],[],[]) okO_nil (by rw[List.length_take,List.length_map];omega) (fun b hb=>by
      obtain⟨w,hw,rfl⟩:=List.mem_map.1 (List.mem_of_mem_take hb)
      have:=sp_short 10 _ w hw
      rw[show(ofL w).size=w.length from bytes_size _]
      omega) (fun h=>by
      have h0:s.data.toList=[]:=bytes_nil9.1 h
      rw[h0]
      exact⟨rfl,rfl⟩)
    rw[h1,rdObj_of h2]
    intro o q1 q2 q3 q4
    obtain⟨e1,e2⟩:=evs_run o q1 q2
    have ht:=evs_text o
    have hl:=evT_len (evsO o)
    rw[ht,<-q3]at hl
    have h3:=impl_ReadObject_fwd s o q1 q2 q3 hk (evsO o) 0 ([],[],[]) e2 e1 okO_nil.1 (by omega) (fun e he=>by
      have:=evL_short (evsO o) e he
      rw[ht,<-q3]at this
      omega)
    have e:((sp 10 s.data.toList).map ofL).take (((sp 10 s.data.toList).map ofL).length - 1)=(evsO o).map fun e=>ofL (evL e):=by
      rw[q3,<-ht,sp_evs _ _ e2,List.map_append,List.length_append,List.length_map,List.length_map,List.map_cons,List.map_nil,List.length_singleton,Nat.add_sub_cancel,List.take_left' (by rw[List.length_map,List.length_map]),List.map_map]
      rfl
    rw[e]at h1
    rw[h1]at h3
    exact Option.some.inj h3
theorem FnExactReadObject(s:ByteArray)(h:s.size<=maxLen):∃ k,laws_FnExactReadObject.f k s=some true:=by
  obtain⟨K,hK⟩:∃ K:Nat,K=6000000:=⟨_,rfl⟩
  refine⟨K,?_⟩
  unfold laws_FnExactReadObject.f
  by_cases hb:s.size > 1048576
  · rw[if_pos hb]
  · have hS:=spec_ReadObject_eq s (by omega) (k:=K) (by omega)
    have hI:=impl_ReadObject_eq s (by omega) (k:=K) (by omega)
    obtain⟨⟨f1,f2⟩,f3,f4,f5⟩:=rdObj_fit s
    obtain⟨s1,y1,a1,b1⟩:List S71×List S72×List (List S124)×Bool:=rdObj s
    generalize rdObj s=R at hS hI f1 f2 f3 f4 f5
    obtain⟨x,y,z,b⟩:=R
    have hE:=laws_eqObject_same x y z (by have:x.length<=12:=f1;omega) (fun q hq=>(f2 q hq).1) (by have:y.length<=200:=f3;omega) (by have:z.length<=12:=f4;omega) (fun q hq=>by have:=f5 q hq;omega) (k:=K) (by omega)
    obtain⟨r,x',y',z',m1,m2,m3⟩:=markObj x y z ⟨f1,fun q hq=>(f2 q hq).2⟩ f3 ⟨f4,f5⟩ (k:=K) (by omega)
    rw[if_neg hb,hS,hI]
    simp only[Option.bind_some]
    rw[hE]
    simp only[Option.bind_some]
    rw[if_pos ⟨trivial,trivial⟩,m1]
    simp only[Option.bind_some]
    rw[m3]
    simp only[Option.bind_some]
    rw[if_neg (by omega),if_neg (fun q=>q rfl)]
    simp
    omega
end Go.Proofs.YtlacpadpdfccmaaGreatDoor.Pure
