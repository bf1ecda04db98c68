/-
Rows of rows that a call owns,no two of which lie in one place;with no program in sight.
-/
import Derived.Test.YtlacpadpdfccmaaGreatDoorAidA
import Derived.Test.YtlacpadpdfccmaaGreatDoorWLast
import Derived.Test.YtlacpadpdfccmaaGreatDoorWApart
import Derived.Test.YtlacpadpdfccmaaGreatDoorWKept
namespace Go.Proofs.YtlacpadpdfccmaaGreatDoor.Aid
open Go.RowKit Go.Proofs.YtlacpadpdfccmaaGreatDoorW.PrintWords
set_option linter.unusedVariables false
def sliceS {α:Type} (e:Nat) (d:Kd α):Kd (List α) where
  sz:=1
  E:=e::d.E
  K:=fun w xs cs=>∃ A c,cs=[.slice A xs.length c]/\xs.length<=c/\d.C w A xs.length xs
  M:=fun w base ok xs cs=>∃ v,cs=[v]/\Kd.S d e w base ok v xs
  K_len:=by
    rintro w x cs ⟨A,c,rfl,_⟩
    rfl
  K_one:=by
    rintro w x cs ⟨A,c,rfl,_⟩ u hu
    rw[List.mem_singleton.1 hu]
    rfl
  K_below:=by
    rintro w w1 x cs hb ⟨A,c,rfl,hl,hr⟩
    exact⟨A,c,rfl,hl,Kd.C_below hr hb⟩
  K_of_M:=by
    rintro w base ok x cs ⟨v,rfl,h⟩
    obtain⟨A,c,rfl,hl,hr⟩:=Kd.S_reads h
    exact⟨A,c,rfl,hl,hr⟩
  M_mono:=by
    rintro w base ok ok' x cs hok ⟨v,rfl,h⟩
    exact⟨v,rfl,Kd.S_mono h hok⟩
  M_bound:=by
    rintro w base ok x cs ⟨v,rfl,h⟩
    exact⟨v,rfl,Kd.S_bound h⟩
  M_move:=by
    rintro w w1 base ok x cs hm ⟨v,rfl,h⟩
    exact⟨v,rfl,Kd.S_move h hm⟩
  M_lower:=by
    rintro w base base' ok x cs hb ⟨v,rfl,h⟩
    exact⟨v,rfl,Kd.S_lower h hb⟩
theorem S_cell{α:Type}{d:Kd α}{e g n cap:Nat}{W:World}{base:Nat}{ok:Nat->Prop}{xs:List α}(h:Kd.S d e W base ok (.slice (some ⟨g,0,none⟩) n cap) xs)(z:α)(i:Nat)(hi:i<n)(j:Nat)(x:Value)(hj:j<d.sz)(hx:x.oneCell'=true)(x':α)
    (hM:∀(w1:World) (okp:Nat->Prop) (c:List Value),d.M w1 base okp (xs.getD i z) c->d.M w1 base okp x' (c.set j x)) :
    Kd.S d e (W.setCell ⟨g,i*d.sz+j,none⟩ x) base ok (.slice (some ⟨g,0,none⟩) n cap) (xs.set i x')/\W.grownBy (W.setCell ⟨g,i*d.sz+j,none⟩ x) (some g):=by
  obtain⟨f,hR⟩:=h
  have hn:=(Kd.R_reads' hR).1
  rw[List.length_zipIdx]at hn
  obtain⟨c,hc1,hc2,hc3,_⟩:=Kd.R_elem hR (z,0) (i:Int) (by omega) (by omega)
  rw[Int.toNat_natCast]at hc2 hc3
  have hz:xs.zipIdx.getD i (z,0)=(xs.getD i z,i):=by
    rw[List.getD_eq_getElem?_getD,List.getD_eq_getElem?_getD,Kd.zip_at (List.getElem?_eq_getElem (by omega:i<xs.length)),List.getElem?_eq_getElem (by omega:i<xs.length)]
    rfl
  rw[hz]at hc2
  have hset:c.take j++[x]++c.drop (j+[x].length)=c.set j x:=by
    have hjc:j<c.length:=by rw[hc1];exact hj
    rw[List.set_eq_take_append_cons_drop,if_pos hjc]
    simp
  have hp:=Kd.R_seg (seg:=[x]) (j:=j) hR (i:Int) (by omega) (by omega) hc1 (by rw[Int.toNat_natCast];exact hc3) (show j+1<=d.sz from hj) (x':=(x',i)) (okp:=fun k=>ok k/\k≠g) (by
    rw[hset]
    exact hM W _ c hc2) (fun k hk=>hk)
  rw[Int.toNat_natCast]at hp
  refine⟨⟨f,?_⟩,hp.2⟩
  have e1:xs.zipIdx.set i (x',i)=(xs.set i x').zipIdx:=by
    apply List.ext_getElem?
    intro m
    rw[List.getElem?_zipIdx,Nat.zero_add]
    by_cases hm:m=i
    · subst hm
      rw[List.getElem?_set_self (by rw[List.length_zipIdx];omega),List.getElem?_set_self (by omega)]
      rfl
    · rw[List.getElem?_set_ne (Ne.symm hm),List.getElem?_set_ne (Ne.symm hm),List.getElem?_zipIdx,Nat.zero_add]
  rw[<-e1]
  exact hp.1
theorem set_drop{α:Type}(xs:List α)(i:Nat)(x:α):(xs.set i x).drop (i+1)=xs.drop (i+1):=by
  apply List.ext_getElem?
  intro m
  rw[List.getElem?_drop,List.getElem?_drop,List.getElem?_set_ne (by omega)]
theorem set_take{α:Type}(xs:List α)(i:Nat)(x:α)(h:i<xs.length):(xs.set i x).take (i+1)=xs.take i++[x]:=by
  rw[List.take_add_one,List.getElem?_set_self h,List.take_set_of_le (Nat.le_refl _)]
  rfl
theorem getD_set{α:Type}(xs:List α)(i:Nat)(x z:α)(h:i<xs.length):(xs.set i x).getD i z=x:=by
  rw[List.getD_eq_getElem?_getD,List.getElem?_set_self h]
  rfl
theorem drop_getD{α:Type}(z:α)(xs:List α)(i:Nat)(h:i<xs.length):xs.drop i=xs.getD i z::xs.drop (i+1):=by
  rw[List.drop_eq_getElem_cons h,List.getD_eq_getElem?_getD,List.getElem?_eq_getElem h]
  rfl
theorem S_put{α:Type}{d:Kd α}{e g n cap:Nat}{W:World}{base:Nat}{ok:Nat->Prop}{xs:List α}(h:Kd.S d e W base ok (.slice (some ⟨g,0,none⟩) n cap) xs){z p:α}{i:Nat}(hp:xs.getD i z=p)(hi:i<n)(j:Nat)(x:Value)(hj:j<d.sz)(hx:x.oneCell'=true)(x':α)
    (hM:∀(w1:World) (okp:Nat->Prop) (c:List Value),d.M w1 base okp p c->d.M w1 base okp x' (c.set j x)) :
    ∃ y,W.cell? ⟨g,i*d.sz+j,none⟩=some y/\W.frozen? ⟨g,i*d.sz+j,none⟩=false/\Kd.S d e (W.setCell ⟨g,i*d.sz+j,none⟩ x) base ok (.slice (some ⟨g,0,none⟩) n cap) (xs.set i x')/\W.grownBy (W.setCell ⟨g,i*d.sz+j,none⟩ x) (some g)/\(xs.set i x').getD i z=x':=by
  have hn:n=xs.length:=(Kd.S_reads' h).1
  obtain⟨_,cs,hcl,hM0,hce,hfr,_,_⟩:=Kd.S_elem h z (i:Int) (by omega) (by omega)
  rw[Int.toNat_natCast]at hce hfr
  have hjc:j<cs.length:=by rw[hcl];exact hj
  obtain⟨h1,h2⟩:=S_cell h z i hi j x hj hx x' (fun w1 okp c hm=>hM w1 okp c (by rw[hp]at hm;exact hm))
  exact⟨_,hce j _ (List.getElem?_eq_getElem hjc),hfr j,h1,h2,getD_set xs i x' z (by omega)⟩
end Go.Proofs.YtlacpadpdfccmaaGreatDoor.Aid
