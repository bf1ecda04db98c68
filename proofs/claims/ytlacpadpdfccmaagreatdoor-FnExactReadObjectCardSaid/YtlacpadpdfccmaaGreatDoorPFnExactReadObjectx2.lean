/- What the Go functions that the law FnExactReadObject reaches compute, function by function, and that Go comes to just that. -/
import Derived.Test.YtlacpadpdfccmaaGreatDoorPFnExactReadObjectx0
import Derived.Test.YtlacpadpdfccmaaGreatDoorAidZ2
import Derived.Test.YtlacpadpdfccmaaGreatDoorPFnExactReadObjectx1
namespace Go.Proofs.YtlacpadpdfccmaaGreatDoor.PFnExactReadObject
open Go.RowKit Go.Proofs.YtlacpadpdfccmaaGreatDoor.Z Go.Proofs.YtlacpadpdfccmaaGreatDoorW.PrintWords Go.Proofs.YtlacpadpdfccmaaGreatDoorW.PrintLast Go.Proofs.YtlacpadpdfccmaaGreatDoorW.PrintMore
attribute [local go_sem] max2_int min2_int max_two min_two max_three min_three max_four min_four
set_option linter.unusedVariables false
set_option linter.unusedSimpArgs false
mutual
def impl_SectionOk.j0:Nat->Int->Bool->ByteArray->Int->Int->Int->ByteArray->List (S79)->Option (Bool)
  |0,_,_,_,_,_,_,_,_=>none
  |k+1,x3,x27,x303000,x303001,x303002,x303003,x303004,x303005=>if x27=true then(some false)else(if x303001=2 then((impl_noughts.f (x303004.size:Int)).bind fun t305=>(if x303004.toList=t305.toList then(impl_SectionOk.j1 k x3 (decide ((x303005.length:Int) > 0)) x303000 x303001 x303002 x303003 x303004 x303005)else(impl_SectionOk.j1 k x3 true x303000 x303001 x303002 x303003 x303004 x303005)))else(impl_SectionOk.j1 k x3 false x303000 x303001 x303002 x303003 x303004 x303005))
def impl_SectionOk.j1:Nat->Int->Bool->ByteArray->Int->Int->Int->ByteArray->List (S79)->Option (Bool)
  |0,_,_,_,_,_,_,_,_=>none
  |k+1,x3,x45,x303000,x303001,x303002,x303003,x303004,x303005=>if x45=true then(some false)else((impl_baseOf.f x303001).bind fun t306=>(if x303003=(-1)then(if x303002=(-1)then((impl_Patch.f k x303005 x303000 x303001 x303002 x303003 x303004 x303005).bind fun t307=>(some (!t307)))else(if x303001=1 then((impl_within.f x303002 1 15).bind fun t308=>(if t308=true then((impl_Patch.f k x303005 x303000 x303001 x303002 x303003 x303004 x303005).bind fun t309=>(some (!t309)))else(some false)))else(some false)))else((impl_within.f x303003 t306 (wrap64 ((wrap64 (t306+256)) - x3))).bind fun t310=>(if t310=true then(if x303002=(-1)then((impl_Patch.f k x303005 x303000 x303001 x303002 x303003 x303004 x303005).bind fun t311=>(some (!t311)))else(if x303001=1 then((impl_within.f x303002 1 15).bind fun t312=>(if t312=true then((impl_Patch.f k x303005 x303000 x303001 x303002 x303003 x303004 x303005).bind fun t313=>(some (!t313)))else(some false)))else(some false)))else(some false)))))
end
def impl_SectionOk.f(k:Nat)(a0_0:ByteArray)(a0_1:Int)(a0_2:Int)(a0_3:Int)(a0_4:ByteArray)(l0_5:List (S79)):Option (Bool):=(impl_NameOk.f k a0_0).bind fun t303=>(if t303=true then((impl_within.f a0_1 0 2).bind fun t304=>(if t304=true then(if(a0_4.size:Int) > 256 then(impl_SectionOk.j0 k (a0_4.size:Int) true a0_0 a0_1 a0_2 a0_3 a0_4 l0_5)else(impl_SectionOk.j0 k (a0_4.size:Int) (decide ((l0_5.length:Int) > 256)) a0_0 a0_1 a0_2 a0_3 a0_4 l0_5))else(impl_SectionOk.j0 k (a0_4.size:Int) true a0_0 a0_1 a0_2 a0_3 a0_4 l0_5)))else(impl_SectionOk.j0 k (a0_4.size:Int) true a0_0 a0_1 a0_2 a0_3 a0_4 l0_5))
def impl_SectionOk.T4:Bool×List (List Nat×List Nat):=(true,[([],[]),([0],[0]),([1],[1]),([2],[2]),([3],[3]),([4,3],[3,4]),([3],[3]),([6,3],[3,6]),([7,3],[3,7]),([8,3,3],[3,8]),([5,9,3],[3,5,9]),([10,9,3],[3,10]),([11],[11]),([12,11],[11,12]),([13,11],[11,13]),([14,11],[11,14]),([11,15,3],[3,11,15]),([3,16],[3,16])])
def impl_SectionOk.B4:List Nat:=[0,1,3,7,15,31,15,79,207,463,1023,2047,4095,8191,16383,32767,65535,131071]
theorem impl_SectionOk.tab4:rtab .any (opsOf Tryz.f54 4)=impl_SectionOk.T4:=by kernel_rfl
theorem impl_SectionOk.bits4:waitsOk impl_SectionOk.T4.2 impl_SectionOk.B4=true:=by kernel_rfl
set_option maxHeartbeats 8000000 in
set_option maxRecDepth 100000 in
theorem impl_SectionOk.calls (k:Nat) (a0_0:ByteArray) (a0_1:Int) (a0_2:Int) (a0_3:Int) (a0_4:ByteArray) (A0_5:Option Addr) (c0_5:Nat) (l0_5:List (S79)) (r:Bool) (w:World) (hr0_5:Kd.C k79 w A0_5 l0_5.length l0_5) (hc0_5:l0_5.length<=c0_5) (h:impl_SectionOk.f k a0_0 a0_1 a0_2 a0_3 a0_4 l0_5=some r) :
 Calls Tryz.prog 54 #[.agg #[.string a0_0,.int .i64 a0_1,.int .i64 a0_2,.int .i64 a0_3,.string a0_4,.slice A0_5 l0_5.length c0_5]] w fun e w'=>e = .returned (.bool r)/\Below w.heap.size w w':=by
 have hu71:=Tryz.underlying71
 have HR0_5:=Aside0.mk hr0_5
 have HC0_5:=Aside0.mk hc0_5
 clear hr0_5 hc0_5
 have HB:=Aside0.mk (Below.refl w.heap.size w)
 have H:((impl_NameOk.f k a0_0).bind fun t303=>(if t303=true then((impl_within.f a0_1 0 2).bind fun t304=>(if t304=true then(if(a0_4.size:Int) > 256 then(impl_SectionOk.j0 k (a0_4.size:Int) true a0_0 a0_1 a0_2 a0_3 a0_4 l0_5)else(impl_SectionOk.j0 k (a0_4.size:Int) (decide ((l0_5.length:Int) > 256)) a0_0 a0_1 a0_2 a0_3 a0_4 l0_5))else(impl_SectionOk.j0 k (a0_4.size:Int) true a0_0 a0_1 a0_2 a0_3 a0_4 l0_5)))else(impl_SectionOk.j0 k (a0_4.size:Int) true a0_0 a0_1 a0_2 a0_3 a0_4 l0_5)))=some r:=h
 clear h
 have HC2:=Aside0.mk H
 clear H
 go_enter Tryz.func54,Tryz.ntmps54
 go_upto_region 2 with(first|((with_reducible refine gate_dst (N:=1) rfl ?_);(try(refine gate_guard (by rfl) ?_;dsimp only));refine zbx 1 #[.string a0_0,.int .i64 a0_1,.int .i64 a0_2,.int .i64 a0_3,.string a0_4,.slice A0_5 l0_5.length c0_5] 71 ?_;intro gb302 hg w3 hbox hb;have BK302:=Aside0.mk (hbox);have GW302:=zs w hg;have GE302:=GW302;replace HB:=zt w hb;clear hb hbox hg;have hcz4_0:=zc0 BK302;have hcz4_1:=zc1 BK302;have hcz4_2:=zc2 BK302;have hcz4_3:=zc3 BK302;have hcz4_4:=zc4 BK302;have hcz4_5:=zc5 BK302;have hfz4_0:=blk_frozen BK302.out 0;have hfz4_1:=blk_frozen BK302.out 1;have hfz4_2:=blk_frozen BK302.out 2;have hfz4_3:=blk_frozen BK302.out 3;have hfz4_4:=blk_frozen BK302.out 4;have hfz4_5:=blk_frozen BK302.out 5))
 (try simp only[Act.put,List.setIfInBounds_toArray,List.set_cons_zero,List.set_cons_succ])
 go_cut [27] (fun v27 wc=>∃(kq:Nat) (x27_1:Bool),v27 = .bool x27_1/\Aside0 (impl_SectionOk.j0 kq (a0_4.size:Int) x27_1 a0_0 a0_1 a0_2 a0_3 a0_4 l0_5=some r)/\Aside0 (kq<=k)/\Aside0 (wc.heap[gb302]?=some (.cells #[.string a0_0,.int .i64 a0_1,.int .i64 a0_2,.int .i64 a0_3,.string a0_4,(.slice A0_5 l0_5.length c0_5)] 71 (0,0)))/\Aside0 (Below w.heap.size w wc))
 case first=>
  have H:=HC2.out
  clear HC2
  obtain⟨t303,A50,H⟩:=Option.bind_eq_some_iff.mp H
  have A5:=Aside0.mk A50
  clear A50
  by_cases c6:t303=true
  ·subst c6
   rw[if_pos rfl]at H
   obtain⟨t304,A70,H⟩:=Option.bind_eq_some_iff.mp H
   have A7:=Aside0.mk A70
   clear A70
   by_cases c8:t304=true
   ·subst c8
    rw[if_pos rfl]at H
    by_cases c9:(a0_4.size:Int) > 256
    ·rw[if_pos c9]at H
     have c9b0:decide (256<(a0_4.size:Int))=true:=decide_eq_true c9
     have c9b1:decide (256<a0_4.size)=true:=decide_eq_true (by omega)
     clear c9
     (first|rw[c9b0]|(simp only[i64_w,i32_w];rw[c9b0])|skip)
     have H':=Aside0.mk H
     clear H
     obtain⟨hcz10_0,hcz10_1,hcz10_2,hcz10_3,hcz10_4,hcz10_5,hfz10_0,hfz10_1,hfz10_2,hfz10_3,hfz10_4,hfz10_5⟩:=zF6 BK302
     go_wp2_with (first|((with_reducible refine gate_callee (f:=92) rfl ?_);refine zc (some 10) Tryz.func92 #[.string a0_0] ?_;(with_reducible refine(impl_NameOk.calls k a0_0 true _ A5.out).mono ?_);rintro e w' ⟨rfl,⟨nd,rfl⟩⟩;refine⟨_,rfl,?_⟩)|(go_at_call 93;(with_reducible refine(impl_within.calls a0_1 0 2 true _ A7.out).mono ?_);rintro e w' ⟨rfl,⟨nd,rfl⟩⟩))
     go_meet
     case rel=>exact⟨_,(true),(zE _),H',⟨by first|omega|exact Nat.le_refl _⟩,⟨zr BK302⟩,⟨zb _⟩⟩
    ·rw[if_neg c9]at H
     have c9b0:decide (256<(a0_4.size:Int))=false:=decide_eq_false c9
     have c9b1:decide (256<a0_4.size)=false:=decide_eq_false (by omega)
     clear c9
     (first|rw[c9b0]|(simp only[i64_w,i32_w];rw[c9b0])|skip)
     have H':=Aside0.mk H
     clear H
     obtain⟨hcz11_0,hcz11_1,hcz11_2,hcz11_3,hcz11_4,hcz11_5,hfz11_0,hfz11_1,hfz11_2,hfz11_3,hfz11_4,hfz11_5⟩:=zF6 BK302
     go_wp2_with (first|((with_reducible refine gate_callee (f:=92) rfl ?_);refine zc (some 10) Tryz.func92 #[.string a0_0] ?_;(with_reducible refine(impl_NameOk.calls k a0_0 true _ A5.out).mono ?_);rintro e w' ⟨rfl,⟨nd,rfl⟩⟩;refine⟨_,rfl,?_⟩)|(go_at_call 93;(with_reducible refine(impl_within.calls a0_1 0 2 true _ A7.out).mono ?_);rintro e w' ⟨rfl,⟨nd,rfl⟩⟩))
     go_meet
     case rel=>exact⟨_,(decide ((l0_5.length:Int) > 256)),(zE _),H',⟨by first|omega|exact Nat.le_refl _⟩,⟨zr BK302⟩,⟨zb _⟩⟩
   ·replace c8:=Bool.eq_false_iff.mpr c8
    subst c8
    rw[if_neg (show¬ (false=true)by decide)]at H
    have H':=Aside0.mk H
    clear H
    obtain⟨hcz12_0,hcz12_1,hcz12_2,hcz12_3,hcz12_4,hcz12_5,hfz12_0,hfz12_1,hfz12_2,hfz12_3,hfz12_4,hfz12_5⟩:=zF6 BK302
    go_wp2_with (first|((with_reducible refine gate_callee (f:=92) rfl ?_);refine zc (some 10) Tryz.func92 #[.string a0_0] ?_;(with_reducible refine(impl_NameOk.calls k a0_0 true _ A5.out).mono ?_);rintro e w' ⟨rfl,⟨nd,rfl⟩⟩;refine⟨_,rfl,?_⟩)|(go_at_call 93;(with_reducible refine(impl_within.calls a0_1 0 2 false _ A7.out).mono ?_);rintro e w' ⟨rfl,⟨nd,rfl⟩⟩))
    go_meet
    case rel=>exact⟨_,(true),(zE _),H',⟨by first|omega|exact Nat.le_refl _⟩,⟨zr BK302⟩,⟨zb _⟩⟩
  ·replace c6:=Bool.eq_false_iff.mpr c6
   subst c6
   rw[if_neg (show¬ (false=true)by decide)]at H
   have H':=Aside0.mk H
   clear H
   obtain⟨hcz13_0,hcz13_1,hcz13_2,hcz13_3,hcz13_4,hcz13_5,hfz13_0,hfz13_1,hfz13_2,hfz13_3,hfz13_4,hfz13_5⟩:=zF6 BK302
   go_wp2_with (first|((with_reducible refine gate_callee (f:=92) rfl ?_);refine zc (some 10) Tryz.func92 #[.string a0_0] ?_;(with_reducible refine(impl_NameOk.calls k a0_0 false _ A5.out).mono ?_);rintro e w' ⟨rfl,⟨nd,rfl⟩⟩;refine⟨_,rfl,?_⟩))
   go_meet
   case rel=>exact⟨_,(true),(zE _),H',⟨by first|omega|exact Nat.le_refl _⟩,⟨zr BK302⟩,⟨zb _⟩⟩
 case rest =>
  clear HC2
  obtain⟨kq,x27_1,rfl,HA,HJ1,BK302,HB⟩:=hcut
  cases kq with
  |zero=>exact absurd HA.out (by simp[impl_SectionOk.j0])
  | succ kj1=>
   have H:=HA.out
   clear HA
   simp only[impl_SectionOk.j0]at H
   by_cases c14:x27_1=true
   ·subst c14
    rw[if_pos rfl]at H
    obtain rfl:=Option.some.inj H
    go_wp2
    go_ret
    exact⟨ze _,zb _⟩
   ·replace c14:=Bool.eq_false_iff.mpr c14
    subst c14
    rw[if_neg (show¬ (false=true)by decide)]at H
    have HC15:=Aside0.mk H
    clear H
    go_upto_region 4 with(fail)
    go_cut [45] (fun v45 wc=>∃(kq:Nat) (x45_14:Bool),v45 = .bool x45_14/\Aside0 (impl_SectionOk.j1 kq (a0_4.size:Int) x45_14 a0_0 a0_1 a0_2 a0_3 a0_4 l0_5=some r)/\Aside0 (kq<=kj1)/\Aside0 (wc.heap[gb302]?=some (.cells #[.string a0_0,.int .i64 a0_1,.int .i64 a0_2,.int .i64 a0_3,.string a0_4,(.slice A0_5 l0_5.length c0_5)] 71 (0,0)))/\Aside0 (Below w.heap.size w wc))
    case first=>
     have H:=HC15.out
     clear HC15
     by_cases c16:a0_1=2
     ·rw[if_pos c16]at H
      have c16b0:(a0_1==2)=true:=beq_iff_eq.mpr c16
      have c16b1:(a0_1 !=2)=false:=bne_eq_false_iff_eq.mpr c16
      clear c16
      (first|rw[c16b0]|(simp only[i64_w,i32_w];rw[c16b0])|skip)
      obtain⟨t305,A170,H⟩:=Option.bind_eq_some_iff.mp H
      have A17:=Aside0.mk A170
      clear A170
      by_cases c18:a0_4.toList=t305.toList
      ·rw[if_pos c18]at H
       have c18b0:(a0_4.toList==t305.toList)=true:=beq_iff_eq.mpr c18
       have c18b1:(a0_4.toList !=t305.toList)=false:=bne_eq_false_iff_eq.mpr c18
       clear c18
       have H':=Aside0.mk H
       clear H
       try go_wp2
       have n0_:=Aside0.mk (blk_drew BK302.out)
       have n1_:=Aside0.mk (below_drew1 HB.out)
       clear BK302
       clear HB
       have BK302:=n0_
       have HB:=n1_
       clear n0_ n1_
       refine start_ (n:=18) (S:=fun w'=>w'.cell? ⟨gb302,0,none⟩=some (.string a0_0)/\w'.cell? ⟨gb302,1,none⟩=some (.int .i64 a0_1)/\w'.cell? ⟨gb302,2,none⟩=some (.int .i64 a0_2)/\w'.cell? ⟨gb302,3,none⟩=some (.int .i64 a0_3)/\w'.cell? ⟨gb302,4,none⟩=some (.string a0_4)/\w'.cell? ⟨gb302,5,none⟩=some (.slice A0_5 l0_5.length c0_5)) (ds:=[]) (zm 18 0) (by kernel_rfl) rfl rfl ⟨zc0 BK302,zc1 BK302,zc2 BK302,zc3 BK302,zc4 BK302,zc5 BK302⟩ (fun hHeld=>?_);refine with_tabW impl_SectionOk.tab4 impl_SectionOk.bits4 (fun HT_ HW_=>?_)
       generalize wc.drew=w19 at BK302 HB hHeld ⊢
       refine zp 0 28 (zm 18 1) ?_
       refine zy 1 29 (zm 18 3) hHeld ?_
       refine zp 2 30 (zm 18 7) ?_
       refine zp 3 31 (zm 18 15) ?_
       refine zp 4 32 (zm 18 31) ?_
       refine zp 6 34 (zm 18 95) ?_
       refine zy 5 33 (zm 18 127) hHeld ?_
       refine zy 7 35 (zm 18 255) hHeld ?_
       refine zp 8 36 (zm 18 511) ?_
       refine one_ (i:=9) (N:=some 37) (zm 18 1023) rfl rfl (one_of HT_.out (by kernel_rfl)) (by decide) (fun K hK=>?_)
       refine zi Tryz.func95 #[.int .i64 (a0_4.size:Int)] ?_
       with_reducible refine(impl_noughts.calls (a0_4.size:Int) t305 _ A17.out).mono ?_
       rintro e w20 ⟨rfl,hb⟩
       refine⟨_,rfl,?_⟩
       have n0_:=zk BK302 hb
       have n1_:=zt w hb
       clear BK302
       clear HB
       have BK302:=n0_
       have HB:=n1_
       clear n0_ n1_
       (try clear hb)
       (try clear hb2)
       (try clear hk)
       (try clear hi)
       refine hK.out _ _ ⟨zc0 BK302,zc1 BK302,zc2 BK302,zc3 BK302,zc4 BK302,zc5 BK302⟩ (fun hHeld=>?_)
       clear hK K
       refine zq ?_
       refine zp 10 38 (zm 18 2047) ?_
       refine zp 11 39 (zm 18 4095) ?_
       refine zp 12 40 (zm 18 8191) ?_
       refine zy 13 41 (zm 18 16383) hHeld ?_
       refine zp 14 42 (zm 18 32767) ?_
       refine zp 15 43 (zm 18 65535) ?_
       refine zp 16 44 (zm 18 131071) ?_
       refine zp 17 45 (zm 18 262143) ?_
       refine done_ (done_of HT_.out (by kernel_rfl)) ?_
       try go_wp2
       go_meet
       case rel=>exact⟨_,(decide ((l0_5.length:Int) > 0)),(zE _),H',⟨by have:=HJ1.out;first|omega|exact Nat.le_refl _⟩,⟨zr BK302⟩,⟨zb _⟩⟩
      ·rw[if_neg c18]at H
       have c18b0:(a0_4.toList==t305.toList)=false:=beq_eq_false_iff_ne.mpr c18
       have c18b1:(a0_4.toList !=t305.toList)=true:=bne_iff_ne.mpr c18
       have H':=Aside0.mk H
       clear H
       try go_wp2
       have n0_:=Aside0.mk (blk_drew BK302.out)
       have n1_:=Aside0.mk (below_drew1 HB.out)
       clear BK302
       clear HB
       have BK302:=n0_
       have HB:=n1_
       clear n0_ n1_
       refine start_ (n:=18) (S:=fun w'=>w'.cell? ⟨gb302,0,none⟩=some (.string a0_0)/\w'.cell? ⟨gb302,1,none⟩=some (.int .i64 a0_1)/\w'.cell? ⟨gb302,2,none⟩=some (.int .i64 a0_2)/\w'.cell? ⟨gb302,3,none⟩=some (.int .i64 a0_3)/\w'.cell? ⟨gb302,4,none⟩=some (.string a0_4)/\w'.cell? ⟨gb302,5,none⟩=some (.slice A0_5 l0_5.length c0_5)) (ds:=[]) (zm 18 0) (by kernel_rfl) rfl rfl ⟨zc0 BK302,zc1 BK302,zc2 BK302,zc3 BK302,zc4 BK302,zc5 BK302⟩ (fun hHeld=>?_);refine with_tabW impl_SectionOk.tab4 impl_SectionOk.bits4 (fun HT_ HW_=>?_)
       generalize wc.drew=w21 at BK302 HB hHeld ⊢
       refine zp 0 28 (zm 18 1) ?_
       refine zy 1 29 (zm 18 3) hHeld ?_
       refine zp 2 30 (zm 18 7) ?_
       refine zp 3 31 (zm 18 15) ?_
       refine zp 4 32 (zm 18 31) ?_
       refine zp 6 34 (zm 18 95) ?_
       refine zy 5 33 (zm 18 127) hHeld ?_
       refine zy 7 35 (zm 18 255) hHeld ?_
       refine zp 8 36 (zm 18 511) ?_
       refine one_ (i:=9) (N:=some 37) (zm 18 1023) rfl rfl (one_of HT_.out (by kernel_rfl)) (by decide) (fun K hK=>?_)
       refine zi Tryz.func95 #[.int .i64 (a0_4.size:Int)] ?_
       with_reducible refine(impl_noughts.calls (a0_4.size:Int) t305 _ A17.out).mono ?_
       rintro e w22 ⟨rfl,hb⟩
       refine⟨_,rfl,?_⟩
       have n0_:=zk BK302 hb
       have n1_:=zt w hb
       clear BK302
       clear HB
       have BK302:=n0_
       have HB:=n1_
       clear n0_ n1_
       (try clear hb)
       (try clear hb2)
       (try clear hk)
       (try clear hi)
       refine hK.out _ _ ⟨zc0 BK302,zc1 BK302,zc2 BK302,zc3 BK302,zc4 BK302,zc5 BK302⟩ (fun hHeld=>?_)
       clear hK K
       refine zq ?_
       refine zp 10 38 (zm 18 2047) ?_
       refine zp 11 39 (zm 18 4095) ?_
       refine zu 12 40 (zm 18 8191) ?_
       refine zu 13 41 (zm 18 16383) ?_
       refine zu 14 42 (zm 18 32767) ?_
       refine zu 15 43 (zm 18 65535) ?_
       refine zp 16 44 (zm 18 131071) ?_
       refine zp 17 45 (zm 18 262143) ?_
       refine done_ (done_of HT_.out (by kernel_rfl)) ?_
       try go_wp2
       go_meet
       case rel=>exact⟨_,(true),(zE _),H',⟨by have:=HJ1.out;first|omega|exact Nat.le_refl _⟩,⟨zr BK302⟩,⟨zb _⟩⟩
     ·rw[if_neg c16]at H
      have c16b0:(a0_1==2)=false:=beq_eq_false_iff_ne.mpr c16
      have c16b1:(a0_1 !=2)=true:=bne_iff_ne.mpr c16
      (first|rw[c16b0]|(simp only[i64_w,i32_w];rw[c16b0])|skip)
      have H':=Aside0.mk H
      clear H
      try go_wp2
      have n0_:=Aside0.mk (blk_drew BK302.out)
      have n1_:=Aside0.mk (below_drew1 HB.out)
      clear BK302
      clear HB
      have BK302:=n0_
      have HB:=n1_
      clear n0_ n1_
      refine start_ (n:=18) (S:=fun w'=>w'.cell? ⟨gb302,0,none⟩=some (.string a0_0)/\w'.cell? ⟨gb302,1,none⟩=some (.int .i64 a0_1)/\w'.cell? ⟨gb302,2,none⟩=some (.int .i64 a0_2)/\w'.cell? ⟨gb302,3,none⟩=some (.int .i64 a0_3)/\w'.cell? ⟨gb302,4,none⟩=some (.string a0_4)/\w'.cell? ⟨gb302,5,none⟩=some (.slice A0_5 l0_5.length c0_5)) (ds:=[]) (zm 18 0) (by kernel_rfl) rfl rfl ⟨zc0 BK302,zc1 BK302,zc2 BK302,zc3 BK302,zc4 BK302,zc5 BK302⟩ (fun hHeld=>?_);refine with_tabW impl_SectionOk.tab4 impl_SectionOk.bits4 (fun HT_ HW_=>?_)
      generalize wc.drew=w23 at BK302 HB hHeld ⊢
      refine zp 0 28 (zm 18 1) ?_
      refine zy 1 29 (zm 18 3) hHeld ?_
      refine zp 2 30 (zm 18 7) ?_
      refine zp 3 31 (zm 18 15) ?_
      refine zu 4 32 (zm 18 31) ?_
      refine zu 5 33 (zm 18 63) ?_
      refine zu 6 34 (zm 18 127) ?_
      refine zu 7 35 (zm 18 255) ?_
      refine zu 8 36 (zm 18 511) ?_
      refine zu 9 37 (zm 18 1023) ?_
      refine zu 10 38 (zm 18 2047) ?_
      refine zu 11 39 (zm 18 4095) ?_
      refine zu 12 40 (zm 18 8191) ?_
      refine zu 13 41 (zm 18 16383) ?_
      refine zu 14 42 (zm 18 32767) ?_
      refine zu 15 43 (zm 18 65535) ?_
      refine zu 16 44 (zm 18 131071) ?_
      refine zp 17 45 (zm 18 262143) ?_
      refine done_ (done_of HT_.out (by kernel_rfl)) ?_
      try go_wp2
      go_meet
      case rel=>exact⟨_,(false),(zE _),H',⟨by have:=HJ1.out;first|omega|exact Nat.le_refl _⟩,⟨zr BK302⟩,⟨zb _⟩⟩
    case rest=>
     clear HC15
     obtain⟨kq,x45_14,rfl,HA,HJ14,BK302,HB⟩:=hcut
     cases kq with
     |zero=>exact absurd HA.out (by simp[impl_SectionOk.j1])
     | succ kj14=>
      have H:=HA.out
      clear HA
      simp only[impl_SectionOk.j1]at H
      by_cases c24:x45_14=true
      ·subst c24
       rw[if_pos rfl]at H
       obtain rfl:=Option.some.inj H
       go_wp2
       go_ret
       exact⟨ze _,zb _⟩
      ·replace c24:=Bool.eq_false_iff.mpr c24
       subst c24
       rw[if_neg (show¬ (false=true)by decide)]at H
       obtain⟨t306,A250,H⟩:=Option.bind_eq_some_iff.mp H
       have A25:=Aside0.mk A250
       clear A250
       by_cases c26:a0_3=(-1)
       ·rw [if_pos c26]at H
        have c26b0:(a0_3==(-1))=true:=beq_iff_eq.mpr c26
        have c26b1:(a0_3 !=(-1))=false:=bne_eq_false_iff_eq.mpr c26
        clear c26
        by_cases c27:a0_2=(-1)
        ·rw[if_pos c27]at H
         have c27b0:(a0_2==(-1))=true:=beq_iff_eq.mpr c27
         have c27b1:(a0_2 !=(-1))=false:=bne_eq_false_iff_eq.mpr c27
         clear c27
         obtain⟨t307,A280,H⟩:=Option.bind_eq_some_iff.mp H
         have A28:=Aside0.mk A280
         clear A280
         obtain rfl:=Option.some.inj H
         obtain⟨hcz29_0,hcz29_1,hcz29_2,hcz29_3,hcz29_4,hcz29_5,hfz29_0,hfz29_1,hfz29_2,hfz29_3,hfz29_4,hfz29_5⟩:=zF6 BK302
         go_wp2_with (first|((with_reducible refine gate_callee (f:=96) rfl ?_);refine zc (some 48) Tryz.func96 #[.int .i64 a0_1] ?_;(with_reducible refine(impl_baseOf.calls a0_1 t306 _ A25.out).mono ?_);rintro e w' ⟨rfl,⟨nd,rfl⟩⟩;refine⟨_,rfl,?_⟩)|((with_reducible refine gate_callee (f:=97) rfl ?_);refine zc (some 82) Tryz.func97 #[.slice A0_5 l0_5.length c0_5,.func (.func 98) #[] #[.pointer (some ⟨gb302,0,none⟩)]] ?_;(with_reducible refine(impl_Patch.calls kj14 _ _ l0_5 gb302 a0_0 a0_1 a0_2 a0_3 a0_4 l0_5 t307 _ ?side1 ?side2 ?side3 A28.out).mono ?_);(case side1=>repeat(first|exact(Kd.C_below HR0_5.out (zb _))|(with_reducible refine Kd.C_alloc ?_ _)|(with_reducible refine Kd.C_drewN ?_ _)|(with_reducible refine Kd.C_drew ?_)));(case side2=>exact HC0_5.out);(case side3=>exact(zr BK302));rintro e w30 ⟨rfl,hb⟩;refine⟨_,rfl,?_⟩;replace BK302:=zk BK302 hb;replace HB:=zt w hb;(try clear hb);(try clear hb2);(try clear hk);(try clear hi)))
         go_ret
         exact⟨ze _,zb _⟩
        ·rw[if_neg c27]at H
         have c27b0:(a0_2==(-1))=false:=beq_eq_false_iff_ne.mpr c27
         have c27b1:(a0_2 !=(-1))=true:=bne_iff_ne.mpr c27
         by_cases c31:a0_1=1
         ·rw[if_pos c31]at H
          have c31b0:(a0_1==1)=true:=beq_iff_eq.mpr c31
          have c31b1:(a0_1 !=1)=false:=bne_eq_false_iff_eq.mpr c31
          clear c31
          obtain⟨t308,A320,H⟩:=Option.bind_eq_some_iff.mp H
          have A32:=Aside0.mk A320
          clear A320
          by_cases c33:t308=true
          ·subst c33
           rw[if_pos rfl]at H
           obtain⟨t309,A340,H⟩:=Option.bind_eq_some_iff.mp H
           have A34:=Aside0.mk A340
           clear A340
           obtain rfl:=Option.some.inj H
           obtain⟨hcz35_0,hcz35_1,hcz35_2,hcz35_3,hcz35_4,hcz35_5,hfz35_0,hfz35_1,hfz35_2,hfz35_3,hfz35_4,hfz35_5⟩:=zF6 BK302
           go_wp2_with (first|((with_reducible refine gate_callee (f:=96) rfl ?_);refine zc (some 48) Tryz.func96 #[.int .i64 a0_1] ?_;(with_reducible refine(impl_baseOf.calls a0_1 t306 _ A25.out).mono ?_);rintro e w' ⟨rfl,⟨nd,rfl⟩⟩;refine⟨_,rfl,?_⟩)|(go_at_call 93;(with_reducible refine(impl_within.calls a0_2 1 15 true _ A32.out).mono ?_);rintro e w' ⟨rfl,⟨nd,rfl⟩⟩)|((with_reducible refine gate_callee (f:=97) rfl ?_);refine zc (some 82) Tryz.func97 #[.slice A0_5 l0_5.length c0_5,.func (.func 98) #[] #[.pointer (some ⟨gb302,0,none⟩)]] ?_;(with_reducible refine(impl_Patch.calls kj14 _ _ l0_5 gb302 a0_0 a0_1 a0_2 a0_3 a0_4 l0_5 t309 _ ?side1 ?side2 ?side3 A34.out).mono ?_);(case side1=>repeat(first|exact(Kd.C_below HR0_5.out (zb _))|(with_reducible refine Kd.C_alloc ?_ _)|(with_reducible refine Kd.C_drewN ?_ _)|(with_reducible refine Kd.C_drew ?_)));(case side2=>exact HC0_5.out);(case side3=>exact(zr BK302));rintro e w36 ⟨rfl,hb⟩;refine⟨_,rfl,?_⟩;replace BK302:=zk BK302 hb;replace HB:=zt w hb;(try clear hb);(try clear hb2);(try clear hk);(try clear hi)))
           go_ret
           exact⟨ze _,zb _⟩
          ·replace c33:=Bool.eq_false_iff.mpr c33
           subst c33
           rw[if_neg (show¬ (false=true)by decide)]at H
           obtain rfl:=Option.some.inj H
           obtain⟨hcz37_0,hcz37_1,hcz37_2,hcz37_3,hcz37_4,hcz37_5,hfz37_0,hfz37_1,hfz37_2,hfz37_3,hfz37_4,hfz37_5⟩:=zF6 BK302
           go_wp2_with (first|((with_reducible refine gate_callee (f:=96) rfl ?_);refine zc (some 48) Tryz.func96 #[.int .i64 a0_1] ?_;(with_reducible refine(impl_baseOf.calls a0_1 t306 _ A25.out).mono ?_);rintro e w' ⟨rfl,⟨nd,rfl⟩⟩;refine⟨_,rfl,?_⟩)|(go_at_call 93;(with_reducible refine(impl_within.calls a0_2 1 15 false _ A32.out).mono ?_);rintro e w' ⟨rfl,⟨nd,rfl⟩⟩))
           go_ret
           exact⟨ze _,zb _⟩
         ·rw[if_neg c31]at H
          have c31b0:(a0_1==1)=false:=beq_eq_false_iff_ne.mpr c31
          have c31b1:(a0_1 !=1)=true:=bne_iff_ne.mpr c31
          obtain rfl:=Option.some.inj H
          obtain⟨hcz38_0,hcz38_1,hcz38_2,hcz38_3,hcz38_4,hcz38_5,hfz38_0,hfz38_1,hfz38_2,hfz38_3,hfz38_4,hfz38_5⟩:=zF6 BK302
          go_wp2_with (first|((with_reducible refine gate_callee (f:=96) rfl ?_);refine zc (some 48) Tryz.func96 #[.int .i64 a0_1] ?_;(with_reducible refine(impl_baseOf.calls a0_1 t306 _ A25.out).mono ?_);rintro e w' ⟨rfl,⟨nd,rfl⟩⟩;refine⟨_,rfl,?_⟩))
          go_ret
          exact⟨ze _,zb _⟩
       ·rw [if_neg c26]at H
        have c26b0:(a0_3==(-1))=false:=beq_eq_false_iff_ne.mpr c26
        have c26b1:(a0_3 !=(-1))=true:=bne_iff_ne.mpr c26
        obtain⟨t310,A390,H⟩:=Option.bind_eq_some_iff.mp H
        have A39:=Aside0.mk A390
        clear A390
        by_cases c40:t310=true
        ·subst c40
         rw[if_pos rfl]at H
         by_cases c41:a0_2=(-1)
         ·rw[if_pos c41]at H
          have c41b0:(a0_2==(-1))=true:=beq_iff_eq.mpr c41
          have c41b1:(a0_2 !=(-1))=false:=bne_eq_false_iff_eq.mpr c41
          clear c41
          obtain⟨t311,A420,H⟩:=Option.bind_eq_some_iff.mp H
          have A42:=Aside0.mk A420
          clear A420
          obtain rfl:=Option.some.inj H
          obtain⟨hcz43_0,hcz43_1,hcz43_2,hcz43_3,hcz43_4,hcz43_5,hfz43_0,hfz43_1,hfz43_2,hfz43_3,hfz43_4,hfz43_5⟩:=zF6 BK302
          go_wp2_with (first|((with_reducible refine gate_callee (f:=96) rfl ?_);refine zc (some 48) Tryz.func96 #[.int .i64 a0_1] ?_;(with_reducible refine(impl_baseOf.calls a0_1 t306 _ A25.out).mono ?_);rintro e w' ⟨rfl,⟨nd,rfl⟩⟩;refine⟨_,rfl,?_⟩)|(go_at_call 93;(with_reducible refine(impl_within.calls a0_3 t306 (wrap64 ((wrap64 (t306+256)) - (a0_4.size:Int))) true _ A39.out).mono ?_);rintro e w' ⟨rfl,⟨nd,rfl⟩⟩)|((with_reducible refine gate_callee (f:=97) rfl ?_);refine zc (some 82) Tryz.func97 #[.slice A0_5 l0_5.length c0_5,.func (.func 98) #[] #[.pointer (some ⟨gb302,0,none⟩)]] ?_;(with_reducible refine(impl_Patch.calls kj14 _ _ l0_5 gb302 a0_0 a0_1 a0_2 a0_3 a0_4 l0_5 t311 _ ?side1 ?side2 ?side3 A42.out).mono ?_);(case side1=>repeat(first|exact(Kd.C_below HR0_5.out (zb _))|(with_reducible refine Kd.C_alloc ?_ _)|(with_reducible refine Kd.C_drewN ?_ _)|(with_reducible refine Kd.C_drew ?_)));(case side2=>exact HC0_5.out);(case side3=>exact(zr BK302));rintro e w44 ⟨rfl,hb⟩;refine⟨_,rfl,?_⟩;replace BK302:=zk BK302 hb;replace HB:=zt w hb;(try clear hb);(try clear hb2);(try clear hk);(try clear hi)))
          go_ret
          exact⟨ze _,zb _⟩
         ·rw[if_neg c41]at H
          have c41b0:(a0_2==(-1))=false:=beq_eq_false_iff_ne.mpr c41
          have c41b1:(a0_2 !=(-1))=true:=bne_iff_ne.mpr c41
          by_cases c45:a0_1=1
          ·rw[if_pos c45]at H
           have c45b0:(a0_1==1)=true:=beq_iff_eq.mpr c45
           have c45b1:(a0_1 !=1)=false:=bne_eq_false_iff_eq.mpr c45
           clear c45
           obtain⟨t312,A460,H⟩:=Option.bind_eq_some_iff.mp H
           have A46:=Aside0.mk A460
           clear A460
           by_cases c47:t312=true
           ·subst c47
            rw[if_pos rfl]at H
            obtain⟨t313,A480,H⟩:=Option.bind_eq_some_iff.mp H
            have A48:=Aside0.mk A480
            clear A480
            obtain rfl:=Option.some.inj H
            obtain⟨hcz49_0,hcz49_1,hcz49_2,hcz49_3,hcz49_4,hcz49_5,hfz49_0,hfz49_1,hfz49_2,hfz49_3,hfz49_4,hfz49_5⟩:=zF6 BK302
            go_wp2_with (first|((with_reducible refine gate_callee (f:=96) rfl ?_);refine zc (some 48) Tryz.func96 #[.int .i64 a0_1] ?_;(with_reducible refine(impl_baseOf.calls a0_1 t306 _ A25.out).mono ?_);rintro e w' ⟨rfl,⟨nd,rfl⟩⟩;refine⟨_,rfl,?_⟩)|(go_at_call 93;(with_reducible refine(impl_within.calls a0_3 t306 (wrap64 ((wrap64 (t306+256)) - (a0_4.size:Int))) true _ A39.out).mono ?_);rintro e w' ⟨rfl,⟨nd,rfl⟩⟩)|(go_at_call 93;(with_reducible refine(impl_within.calls a0_2 1 15 true _ A46.out).mono ?_);rintro e w' ⟨rfl,⟨nd,rfl⟩⟩)|((with_reducible refine gate_callee (f:=97) rfl ?_);refine zc (some 82) Tryz.func97 #[.slice A0_5 l0_5.length c0_5,.func (.func 98) #[] #[.pointer (some ⟨gb302,0,none⟩)]] ?_;(with_reducible refine(impl_Patch.calls kj14 _ _ l0_5 gb302 a0_0 a0_1 a0_2 a0_3 a0_4 l0_5 t313 _ ?side1 ?side2 ?side3 A48.out).mono ?_);(case side1=>repeat(first|exact(Kd.C_below HR0_5.out (zb _))|(with_reducible refine Kd.C_alloc ?_ _)|(with_reducible refine Kd.C_drewN ?_ _)|(with_reducible refine Kd.C_drew ?_)));(case side2=>exact HC0_5.out);(case side3=>exact(zr BK302));rintro e w50 ⟨rfl,hb⟩;refine⟨_,rfl,?_⟩;replace BK302:=zk BK302 hb;replace HB:=zt w hb;(try clear hb);(try clear hb2);(try clear hk);(try clear hi)))
            go_ret
            exact⟨ze _,zb _⟩
           ·replace c47:=Bool.eq_false_iff.mpr c47
            subst c47
            rw[if_neg (show¬ (false=true)by decide)]at H
            obtain rfl:=Option.some.inj H
            obtain⟨hcz51_0,hcz51_1,hcz51_2,hcz51_3,hcz51_4,hcz51_5,hfz51_0,hfz51_1,hfz51_2,hfz51_3,hfz51_4,hfz51_5⟩:=zF6 BK302
            go_wp2_with (first|((with_reducible refine gate_callee (f:=96) rfl ?_);refine zc (some 48) Tryz.func96 #[.int .i64 a0_1] ?_;(with_reducible refine(impl_baseOf.calls a0_1 t306 _ A25.out).mono ?_);rintro e w' ⟨rfl,⟨nd,rfl⟩⟩;refine⟨_,rfl,?_⟩)|(go_at_call 93;(with_reducible refine(impl_within.calls a0_3 t306 (wrap64 ((wrap64 (t306+256)) - (a0_4.size:Int))) true _ A39.out).mono ?_);rintro e w' ⟨rfl,⟨nd,rfl⟩⟩)|(go_at_call 93;(with_reducible refine(impl_within.calls a0_2 1 15 false _ A46.out).mono ?_);rintro e w' ⟨rfl,⟨nd,rfl⟩⟩))
            go_ret
            exact⟨ze _,zb _⟩
          ·rw[if_neg c45]at H
           have c45b0:(a0_1==1)=false:=beq_eq_false_iff_ne.mpr c45
           have c45b1:(a0_1 !=1)=true:=bne_iff_ne.mpr c45
           obtain rfl:=Option.some.inj H
           obtain⟨hcz52_0,hcz52_1,hcz52_2,hcz52_3,hcz52_4,hcz52_5,hfz52_0,hfz52_1,hfz52_2,hfz52_3,hfz52_4,hfz52_5⟩:=zF6 BK302
           go_wp2_with (first|((with_reducible refine gate_callee (f:=96) rfl ?_);refine zc (some 48) Tryz.func96 #[.int .i64 a0_1] ?_;(with_reducible refine(impl_baseOf.calls a0_1 t306 _ A25.out).mono ?_);rintro e w' ⟨rfl,⟨nd,rfl⟩⟩;refine⟨_,rfl,?_⟩)|(go_at_call 93;(with_reducible refine(impl_within.calls a0_3 t306 (wrap64 ((wrap64 (t306+256)) - (a0_4.size:Int))) true _ A39.out).mono ?_);rintro e w' ⟨rfl,⟨nd,rfl⟩⟩))
           go_ret
           exact⟨ze _,zb _⟩
        ·replace c40:=Bool.eq_false_iff.mpr c40
         subst c40
         rw[if_neg (show¬ (false=true)by decide)]at H
         obtain rfl:=Option.some.inj H
         obtain⟨hcz53_0,hcz53_1,hcz53_2,hcz53_3,hcz53_4,hcz53_5,hfz53_0,hfz53_1,hfz53_2,hfz53_3,hfz53_4,hfz53_5⟩:=zF6 BK302
         go_wp2_with (first|((with_reducible refine gate_callee (f:=96) rfl ?_);refine zc (some 48) Tryz.func96 #[.int .i64 a0_1] ?_;(with_reducible refine(impl_baseOf.calls a0_1 t306 _ A25.out).mono ?_);rintro e w' ⟨rfl,⟨nd,rfl⟩⟩;refine⟨_,rfl,?_⟩)|(go_at_call 93;(with_reducible refine(impl_within.calls a0_3 t306 (wrap64 ((wrap64 (t306+256)) - (a0_4.size:Int))) false _ A39.out).mono ?_);rintro e w' ⟨rfl,⟨nd,rfl⟩⟩))
         go_ret
         exact⟨ze _,zb _⟩
end Go.Proofs.YtlacpadpdfccmaaGreatDoor.PFnExactReadObject
namespace Go.Proofs.YtlacpadpdfccmaaGreatDoor.PFnExactReadObject
open Go.RowKit Go.Proofs.YtlacpadpdfccmaaGreatDoor.Z Go.Proofs.YtlacpadpdfccmaaGreatDoorW.PrintWords Go.Proofs.YtlacpadpdfccmaaGreatDoorW.PrintLast Go.Proofs.YtlacpadpdfccmaaGreatDoorW.PrintMore
attribute [local go_sem] max2_int min2_int max_two min_two max_three min_three max_four min_four
set_option linter.unusedVariables false
set_option linter.unusedSimpArgs false
set_option maxHeartbeats 2000000 in
theorem impl_Section.pred(k:Nat)(y:S71)(A2:Option Addr)(c2:Nat)(b:Bool)(w:World)(hr2:Kd.C k79 w A2 y.f5.length y.f5)(hc2:y.f5.length<=c2)(h:impl_SectionOk.f k y.f0 y.f1 y.f2 y.f3 y.f4 y.f5=some b) :
    Calls Tryz.prog 53 #[.agg #[.string y.f0,.int .i64 y.f1,.int .i64 y.f2,.int .i64 y.f3,.string y.f4,.slice A2 y.f5.length c2]] w fun e w'=>e = .returned (.bool (!b))/\Below w.heap.size w w':=by
 have hu_0:=Tryz.underlying71;have HR2:=Aside0.mk hr2;have HC2:=Aside0.mk hc2;have H:=Aside0.mk h;clear hr2 hc2 h;go_enter Tryz.func53,Tryz.ntmps53;go_wp2_with (go_at_call 54;refine(impl_SectionOk.calls k y.f0 y.f1 y.f2 y.f3 y.f4 A2 c2 y.f5 b _ ?h3 HC2.out H.out).mono ?_;(case h3=>exact Kd.C_below HR2.out (by repeat(first|exact Below.refl _ _|apply below_alloc|apply pw_below_drewN|apply below_drew)));rintro e w9 ⟨rfl,hb9⟩;have HB:=Aside0.mk (below_step (show Below w.heap.size w _ from by repeat(first|exact Below.refl _ _|apply below_alloc|apply pw_below_drewN|apply below_drew)) hb9);clear hb9);(try go_wp2);go_ret;exact⟨rfl,by repeat(first|exact HB.out|apply below_alloc|apply pw_below_drewN|apply below_drew1)⟩
def impl_Section.go(k:Nat):List S71->Int->Option Int
  |[],_=>some (-1)
  |y::r,i=>(impl_SectionOk.f k y.f0 y.f1 y.f2 y.f3 y.f4 y.f5).bind fun b=>if b=true then impl_Section.go k r (i+1)else some i
def impl_Section.f(k:Nat)(l0:List S71)(_:Unit):Option Bool:=(impl_Section.go k l0 0).bind fun i=>some (decide (0<=i))
open Go.Shelf in
set_option maxHeartbeats 4000000 in
set_option maxRecDepth 100000 in
theorem impl_Section.walk(k:Nat)(A0:Option Addr)(c0:Nat)(l0:List S71)(r:Int)(w:World)(hr0:Kd.C k71 w A0 l0.length l0)(hc0:l0.length<=c0)(h:impl_Section.go k l0 0=some r) :
    Calls Tryz.prog 94 #[.slice A0 l0.length c0,.func (.func 53) #[] #[]] w fun e w'=>e = .returned (.int .i64 r)/\Below w.heap.size w w':=by
 have hu_0:=Tryz.underlying71;have eg:=enters_of Tryz.func53 (by kernel_rfl) rfl;have hbig:l0.length<=9223372036854775807:=hr0.2.1;have HR:=Aside0.mk hr0;have HF:=Aside0.mk h;clear hr0 h hc0;go_enter Tryz.func94,Tryz.ntmps94;go_wp2;go_loopg [5,8] l0.length (fun gg _ s8 wr=>∃ kk:Nat,kk<=l0.length/\l0.length - kk<=gg/\s8 = .int .i64 kk/\Aside0 (Below w.heap.size w wr)/\Aside0 (impl_Section.go k (l0.drop kk) kk=some r));case atStart=>exact⟨0,Nat.zero_le _,by omega,rfl,⟨by repeat(first|exact Below.refl _ _|apply pw_below_drewN|apply below_drew)⟩,HF⟩
 case round=>
  clear HF;obtain⟨kk,hkk,hg,rfl,HW,HA⟩:=hrel;by_cases hlt:kk<l0.length
  ·(have hltz:(kk:Int)<(l0.length:Int):=by omega);obtain⟨ad,A2,c2,eA,hcell,hcell1,hcell2,hcell3,hcell4,hcell5,hl2,hi2⟩:=at_T71 HR.out (kk:Int) (by omega) (by omega)
   have hd:l0.drop kk=rd_T71 l0 kk::l0.drop (kk+1):=by
    rw[List.drop_eq_getElem_cons hlt,rd_T71,Int.toNat_natCast,List.getD_eq_getElem?_getD,List.getElem?_eq_getElem hlt];rfl
   have HA1:=HA.out;rw[hd,impl_Section.go]at HA1;rw[Int.toNat_natCast]at hcell hcell1 hcell2 hcell3 hcell4 hcell5;replace hcell:=pw_cell_below HW.out hcell;replace hcell1:=pw_cell_below HW.out hcell1;replace hcell2:=pw_cell_below HW.out hcell2;replace hcell3:=pw_cell_below HW.out hcell3;replace hcell4:=pw_cell_below HW.out hcell4;replace hcell5:=pw_cell_below HW.out hcell5;have HI2:=Aside0.mk hi2;have HL2:=Aside0.mk hl2;generalize rd_T71 l0 kk=y at hcell hcell1 hcell2 hcell3 hcell4 hcell5 HA1 HI2 HL2;clear hd HA hi2 hl2;obtain⟨b,hp,HA2⟩:=Option.bind_eq_some_iff.1 HA1;have HP:=Aside0.mk hp;clear HA1 hp;subst eA
   cases b with
   |true=>
    rw[if_pos rfl]at HA2;have HA3:=Aside0.mk HA2;clear HA2;go_wp2_with (go_at_call 53;refine(impl_Section.pred k y A2 c2 true _ ?hr2 HL2.out HP.out).mono ?_;(case hr2=>exact Kd.C_below HI2.out (by repeat(first|exact HW.out|apply below_alloc|apply pw_below_drewN|apply below_drew1)));rintro e w9 ⟨rfl,hb9⟩;have HWn:=Aside0.mk (below_step (by repeat(first|exact HW.out|apply below_alloc|apply pw_below_drewN|apply below_drew1)) hb9);clear HW hb9;have HW:=HWn;clear HWn);go_wp2;go_roundg (l0.length - (kk+1));(case measure=>omega);case rel=>exact⟨kk+1,by omega,by omega,by go_num,⟨by repeat(first|exact HW.out|apply below_alloc|apply pw_below_drewN|apply below_drew1)⟩,⟨by have:=HA3.out;rw[show((kk:Int)+1)=((kk+1:Nat):Int)by omega]at this;exact this⟩⟩
   |false=>
    rw[if_neg (by decide)]at HA2;obtain rfl:=Option.some.inj HA2;clear HA2;go_wp2_with (go_at_call 53;refine(impl_Section.pred k y A2 c2 false _ ?hr2 HL2.out HP.out).mono ?_;(case hr2=>exact Kd.C_below HI2.out (by repeat(first|exact HW.out|apply below_alloc|apply pw_below_drewN|apply below_drew1)));rintro e w9 ⟨rfl,hb9⟩;have HWn:=Aside0.mk (below_step (by repeat(first|exact HW.out|apply below_alloc|apply pw_below_drewN|apply below_drew1)) hb9);clear HW hb9;have HW:=HWn;clear HWn);go_wp2;go_ret;exact⟨rfl,by repeat(first|exact HW.out|apply below_alloc|apply pw_below_drewN|apply below_drew1)⟩
  (have hltz:¬ (kk:Int)<(l0.length:Int):=by omega);have HA1:=HA.out;rw[List.drop_eq_nil_of_le (by omega),impl_Section.go]at HA1;obtain rfl:=Option.some.inj HA1;clear HA HA1;go_wp2;go_ret;exact⟨rfl,by repeat(first|exact HW.out|apply below_alloc|apply pw_below_drewN|apply below_drew1)⟩
set_option maxHeartbeats 4000000 in
theorem impl_Section.calls(k:Nat)(A0:Option Addr)(c0:Nat)(l0:List S71)(a1:Unit)(r:Bool)(w:World)(hr0:Kd.C k71 w A0 l0.length l0)(hc0:l0.length<=c0)(h:impl_Section.f k l0 a1=some r) :
 Calls Tryz.prog 52 #[.slice A0 l0.length c0,.func (.func 53) #[] #[]] w fun e w'=>e = .returned (.bool r)/\Below w.heap.size w w':=by
 unfold impl_Section.f at h;obtain⟨i,hi,h⟩:=Option.bind_eq_some_iff.1 h;obtain rfl:=Option.some.inj h;have HR:=Aside0.mk hr0;have HF:=Aside0.mk hi;have HC:=Aside0.mk hc0;clear hr0 hi h hc0;go_enter Tryz.func52,Tryz.ntmps52;go_wp2_with (go_at_call 94;refine(impl_Section.walk k A0 c0 l0 i _ ?hr HC.out HF.out).mono ?_;(case hr=>exact Kd.C_below HR.out (by repeat(first|exact Below.refl _ _|apply below_alloc|apply pw_below_drewN|apply below_drew)));rintro e w9 ⟨rfl,hb9⟩;have HW:=Aside0.mk (below_step (show Below w.heap.size w _ from by repeat(first|exact Below.refl _ _|apply below_alloc|apply pw_below_drewN|apply below_drew)) hb9);clear hb9);go_wp2;go_ret;exact⟨rfl,by repeat(first|exact HW.out|apply below_alloc|apply pw_below_drewN|apply below_drew1)⟩
set_option maxHeartbeats 2000000 in
theorem impl_ENode.pred(k:Nat)(y:(List S124))(A2:Option Addr)(c2:Nat)(b:Bool)(w:World)(hr2:Kd.C k124 w A2 y.length y)(hc2:y.length<=c2)(h:impl_ExprOk.f k y=some b) :
    Calls Tryz.prog 56 #[.slice A2 y.length c2] w fun e w'=>e = .returned (.bool (!b))/\Below w.heap.size w w':=by
 have hu_0:=Tryz.underlying75;have HR2:=Aside0.mk hr2;have HC2:=Aside0.mk hc2;have H:=Aside0.mk h;clear hr2 hc2 h;go_enter Tryz.func56,Tryz.ntmps56;go_wp2_with (go_at_call 57;refine(impl_ExprOk.calls k A2 c2 y b _ ?h3 HC2.out H.out).mono ?_;(case h3=>exact Kd.C_below HR2.out (by repeat(first|exact Below.refl _ _|apply below_alloc|apply pw_below_drewN|apply below_drew)));rintro e w9 ⟨rfl,hb9⟩;have HB:=Aside0.mk (below_step (show Below w.heap.size w _ from by repeat(first|exact Below.refl _ _|apply below_alloc|apply pw_below_drewN|apply below_drew)) hb9);clear hb9);(first|go_ret|(go_wp2;go_ret));exact⟨rfl,by repeat(first|exact HB.out|apply below_alloc|apply pw_below_drewN|apply below_drew1)⟩
def impl_ENode.go(k:Nat):List (List S124)->Int->Option Int
  |[],_=>some (-1)
  |y::r,i=>(impl_ExprOk.f k y).bind fun b=>if b=true then impl_ENode.go k r (i+1)else some i
def impl_ENode.f(k:Nat)(l0:List (List S124))(_:Unit):Option Bool:=(impl_ENode.go k l0 0).bind fun i=>some (decide (0<=i))
def impl_ENode.rd_(xs:List (List S124))(i:Int):List S124:=xs.getD i.toNat []
theorem impl_ENode.at_{w:World}{A:Option Addr}{n:Nat}{xs:List (List S124)}(h:Kd.C (Kd.slice 124 k124) w A n xs)(i:Int)(h0:0<=i)(h1:i<n):∃ ad A0 c0,A=some ad/\w.cell? (ad.add i.toNat)=some (.slice A0 (impl_ENode.rd_ xs i).length c0)/\(impl_ENode.rd_ xs i).length<=c0/\Kd.C k124 w A0 (impl_ENode.rd_ xs i).length (impl_ENode.rd_ xs i):=by
 obtain⟨ad,c,e,_,hK,hc0⟩:=Kd.C_get h ([]:List S124) i h0 h1;have hc:∀ j u,c[j]?=some u->w.cell? (ad.add (i.toNat*1+j))=some u:=hc0;obtain⟨A0,c0,rfl,l0,g0⟩:=hK;exact⟨ad,A0,c0,e,by have hq:=hc 0 _ rfl;rwa [Nat.mul_one,Nat.add_zero]at hq,l0,g0⟩
open Go.Shelf in
set_option maxHeartbeats 4000000 in
set_option maxRecDepth 100000 in
theorem impl_ENode.walk(k:Nat)(A0:Option Addr)(c0:Nat)(l0:List (List S124))(r:Int)(w:World)(hr0:Kd.C (Kd.slice 124 k124) w A0 l0.length l0)(hc0:l0.length<=c0)(h:impl_ENode.go k l0 0=some r) :
    Calls Tryz.prog 100 #[.slice A0 l0.length c0,.func (.func 56) #[] #[]] w fun e w'=>e = .returned (.int .i64 r)/\Below w.heap.size w w':=by
 have hu_0:=Tryz.underlying75;have eg:=enters_of Tryz.func56 (by kernel_rfl) rfl;have hbig:l0.length<=9223372036854775807:=hr0.2.1;have HR:=Aside0.mk hr0;have HF:=Aside0.mk h;clear hr0 h hc0;go_enter Tryz.func100,Tryz.ntmps100;go_wp2;go_loopg [5,8] l0.length (fun gg _ s8 wr=>∃ kk:Nat,kk<=l0.length/\l0.length - kk<=gg/\s8 = .int .i64 kk/\Aside0 (Below w.heap.size w wr)/\Aside0 (impl_ENode.go k (l0.drop kk) kk=some r));case atStart=>exact⟨0,Nat.zero_le _,by omega,rfl,⟨by repeat(first|exact Below.refl _ _|apply pw_below_drewN|apply below_drew)⟩,HF⟩
 case round=>
  clear HF;obtain⟨kk,hkk,hg,rfl,HW,HA⟩:=hrel;by_cases hlt:kk<l0.length
  ·(have hltz:(kk:Int)<(l0.length:Int):=by omega);obtain⟨ad,A2,c2,eA,hcell,hl2,hi2⟩:=impl_ENode.at_ HR.out (kk:Int) (by omega) (by omega)
   have hd:l0.drop kk=impl_ENode.rd_ l0 kk::l0.drop (kk+1):=by
    rw[List.drop_eq_getElem_cons hlt,impl_ENode.rd_,Int.toNat_natCast,List.getD_eq_getElem?_getD,List.getElem?_eq_getElem hlt];rfl
   have HA1:=HA.out;rw[hd,impl_ENode.go]at HA1;rw[Int.toNat_natCast]at hcell;replace hcell:=pw_cell_below HW.out hcell;have HI2:=Aside0.mk hi2;have HL2:=Aside0.mk hl2;generalize impl_ENode.rd_ l0 kk=y at hcell HA1 HI2 HL2;clear hd HA hi2 hl2;obtain⟨b,hp,HA2⟩:=Option.bind_eq_some_iff.1 HA1;have HP:=Aside0.mk hp;clear HA1 hp;subst eA
   cases b with
   |true=>
    rw[if_pos rfl]at HA2;have HA3:=Aside0.mk HA2;clear HA2;go_wp2_with (go_at_call 56;refine(impl_ENode.pred k y A2 c2 true _ ?hr2 HL2.out HP.out).mono ?_;(case hr2=>exact Kd.C_below HI2.out (by repeat(first|exact HW.out|apply below_alloc|apply pw_below_drewN|apply below_drew1)));rintro e w9 ⟨rfl,hb9⟩;have HWn:=Aside0.mk (below_step (by repeat(first|exact HW.out|apply below_alloc|apply pw_below_drewN|apply below_drew1)) hb9);clear HW hb9;have HW:=HWn;clear HWn);go_wp2;go_roundg (l0.length - (kk+1));(case measure=>omega);case rel=>exact⟨kk+1,by omega,by omega,by go_num,⟨by repeat(first|exact HW.out|apply below_alloc|apply pw_below_drewN|apply below_drew1)⟩,⟨by have:=HA3.out;rw[show((kk:Int)+1)=((kk+1:Nat):Int)by omega]at this;exact this⟩⟩
   |false=>
    rw[if_neg (by decide)]at HA2;obtain rfl:=Option.some.inj HA2;clear HA2;go_wp2_with (go_at_call 56;refine(impl_ENode.pred k y A2 c2 false _ ?hr2 HL2.out HP.out).mono ?_;(case hr2=>exact Kd.C_below HI2.out (by repeat(first|exact HW.out|apply below_alloc|apply pw_below_drewN|apply below_drew1)));rintro e w9 ⟨rfl,hb9⟩;have HWn:=Aside0.mk (below_step (by repeat(first|exact HW.out|apply below_alloc|apply pw_below_drewN|apply below_drew1)) hb9);clear HW hb9;have HW:=HWn;clear HWn);go_wp2;go_ret;exact⟨rfl,by repeat(first|exact HW.out|apply below_alloc|apply pw_below_drewN|apply below_drew1)⟩
  (have hltz:¬ (kk:Int)<(l0.length:Int):=by omega);have HA1:=HA.out;rw[List.drop_eq_nil_of_le (by omega),impl_ENode.go]at HA1;obtain rfl:=Option.some.inj HA1;clear HA HA1;go_wp2;go_ret;exact⟨rfl,by repeat(first|exact HW.out|apply below_alloc|apply pw_below_drewN|apply below_drew1)⟩
set_option maxHeartbeats 4000000 in
theorem impl_ENode.calls(k:Nat)(A0:Option Addr)(c0:Nat)(l0:List (List S124))(a1:Unit)(r:Bool)(w:World)(hr0:Kd.C (Kd.slice 124 k124) w A0 l0.length l0)(hc0:l0.length<=c0)(h:impl_ENode.f k l0 a1=some r) :
 Calls Tryz.prog 55 #[.slice A0 l0.length c0,.func (.func 56) #[] #[]] w fun e w'=>e = .returned (.bool r)/\Below w.heap.size w w':=by
 unfold impl_ENode.f at h;obtain⟨i,hi,h⟩:=Option.bind_eq_some_iff.1 h;obtain rfl:=Option.some.inj h;have HR:=Aside0.mk hr0;have HF:=Aside0.mk hi;have HC:=Aside0.mk hc0;clear hr0 hi h hc0;go_enter Tryz.func55,Tryz.ntmps55;go_wp2_with (go_at_call 100;refine(impl_ENode.walk k A0 c0 l0 i _ ?hr HC.out HF.out).mono ?_;(case hr=>exact Kd.C_below HR.out (by repeat(first|exact Below.refl _ _|apply below_alloc|apply pw_below_drewN|apply below_drew)));rintro e w9 ⟨rfl,hb9⟩;have HW:=Aside0.mk (below_step (show Below w.heap.size w _ from by repeat(first|exact Below.refl _ _|apply below_alloc|apply pw_below_drewN|apply below_drew)) hb9);clear hb9);go_wp2;go_ret;exact⟨rfl,by repeat(first|exact HW.out|apply below_alloc|apply pw_below_drewN|apply below_drew1)⟩
end Go.Proofs.YtlacpadpdfccmaaGreatDoor.PFnExactReadObject
namespace Go.Proofs.YtlacpadpdfccmaaGreatDoor.PFnExactReadObject
open Go.RowKit Go.Proofs.YtlacpadpdfccmaaGreatDoor.Z Go.Proofs.YtlacpadpdfccmaaGreatDoorW.PrintWords Go.Proofs.YtlacpadpdfccmaaGreatDoorW.PrintLast Go.Proofs.YtlacpadpdfccmaaGreatDoorW.PrintMore
attribute [local go_sem] max2_int min2_int max_two min_two max_three min_three max_four min_four
set_option linter.unusedVariables false
set_option linter.unusedSimpArgs false
mutual
def impl_ObjectOk.j0:Nat->Bool->List (S71)->List (S72)->List (List (S124))->Option (Bool)
  |0,_,_,_,_=>none
  |k+1,x20,x315000,x315001,x315002=>if x20=true then(some false)else(impl_ObjectOk.l0 k x315001 (x315001.length:Int) 0 x315000 x315001 x315002)
def impl_ObjectOk.l0:Nat->List (S72)->Int->Int->List (S71)->List (S72)->List (List (S124))->Option (Bool)
  |0,_,_,_,_,_,_=>none
  |k+1,x22,x23,x24,x315000,x315001,x315002=>if x24<x23 then(if 0<=x24 then(if x24<(x22.length:Int)then((impl_isSymbol.f k x315000 x315001 x315002 ((rd_T72 x22 x24).f0) ((rd_T72 x22 x24).f1) ((rd_T72 x22 x24).f2) ((rd_T72 x22 x24).f3)).bind fun t317=>(if t317=true then(if x24 > 0 then(if 0<=(wrap64 (x24 - 1))then(if(wrap64 (x24 - 1))<(x315001.length:Int)then(if((Op.bytesLess (((rd_T72 x315001 (wrap64 (x24 - 1))).f0).toList) (((rd_T72 x22 x24).f0).toList))=true)then(impl_ObjectOk.l0 k x22 x23 (wrap64 (x24+1)) x315000 x315001 x315002)else(some false))else(none))else(none))else(impl_ObjectOk.l0 k x22 x23 (wrap64 (x24+1)) x315000 x315001 x315002))else(some false)))else(none))else(none))else((impl_Section.f k x315000 ()).bind fun t319=>(if t319=true then(some false)else((impl_ENode.f k x315002 ()).bind fun t320=>(some (!t320)))))
end
def impl_ObjectOk.f(k:Nat)(l0_0:List (S71))(l0_1:List (S72))(l0_2:List (List (S124))):Option (Bool):=if(l0_0.length:Int) > 12 then(impl_ObjectOk.j0 k true l0_0 l0_1 l0_2)else(if(l0_1.length:Int) > 200 then(impl_ObjectOk.j0 k true l0_0 l0_1 l0_2)else(impl_ObjectOk.j0 k (decide ((l0_2.length:Int) > 12)) l0_0 l0_1 l0_2))
def impl_ObjectOk.T6:Bool×List (List Nat×List Nat):=(true,[([],[]),([],[]),([0,1],[0,1]),([2],[2]),([3,2],[3]),([4],[4]),([5,4],[4,5]),([6,4,4],[4,6]),([7],[7]),([8,7],[7,8]),([7],[7]),([10,7],[7,10]),([7],[7]),([12,7],[7,12]),([11,13,7],[7,11,13]),([14,7],[7,14]),([15,7],[7,15]),([9,16,7],[7,9,16]),([7,17,4],[4,7,17]),([4,18],[4,18])])
def impl_ObjectOk.B6:List Nat:=[0,0,3,7,15,31,63,127,255,511,255,1279,255,4351,15615,31999,64767,131071,262143,524287]
theorem impl_ObjectOk.tab6:rtab .any (opsOf Tryz.f22 6)=impl_ObjectOk.T6:=by kernel_rfl
theorem impl_ObjectOk.bits6:waitsOk impl_ObjectOk.T6.2 impl_ObjectOk.B6=true:=by kernel_rfl
set_option maxHeartbeats 8000000 in
set_option maxRecDepth 100000 in
theorem impl_ObjectOk.calls(k:Nat)(A0_0:Option Addr)(c0_0:Nat)(l0_0:List (S71))(A0_1:Option Addr)(c0_1:Nat)(l0_1:List (S72))(A0_2:Option Addr)(c0_2:Nat)(l0_2:List (List (S124)))(r:Bool)(w:World)(hr0_0:Kd.C k71 w A0_0 l0_0.length l0_0)(hc0_0:l0_0.length<=c0_0)(hr0_1:Kd.C k72 w A0_1 l0_1.length l0_1)(hc0_1:l0_1.length<=c0_1)(hr0_2:Kd.C (Kd.slice 124 k124) w A0_2 l0_2.length l0_2)(hc0_2:l0_2.length<=c0_2)(h:impl_ObjectOk.f k l0_0 l0_1 l0_2=some r) :
 Calls Tryz.prog 22 #[.agg #[.slice A0_0 l0_0.length c0_0,.slice A0_1 l0_1.length c0_1,.slice A0_2 l0_2.length c0_2]] w fun e w'=>e = .returned (.bool r)/\Below w.heap.size w w':=by
 have hu33:=Tryz.underlying33;have hu72:=Tryz.underlying72;have HR0_0:=Aside0.mk hr0_0;have HC0_0:=Aside0.mk hc0_0;clear hr0_0 hc0_0;have HR0_1:=Aside0.mk hr0_1;have HC0_1:=Aside0.mk hc0_1;clear hr0_1 hc0_1;have HR0_2:=Aside0.mk hr0_2;have HC0_2:=Aside0.mk hc0_2;clear hr0_2 hc0_2;have HB:=Aside0.mk (Below.refl w.heap.size w);have H:(if(l0_0.length:Int) > 12 then(impl_ObjectOk.j0 k true l0_0 l0_1 l0_2)else(if(l0_1.length:Int) > 200 then(impl_ObjectOk.j0 k true l0_0 l0_1 l0_2)else(impl_ObjectOk.j0 k (decide ((l0_2.length:Int) > 12)) l0_0 l0_1 l0_2)))=some r:=h;clear h;have HC2:=Aside0.mk H;clear H;go_enter Tryz.func22,Tryz.ntmps22;go_upto_region 1 with(first|(refine zbg w 1 rfl #[.slice A0_0 l0_0.length c0_0,.slice A0_1 l0_1.length c0_1,.slice A0_2 l0_2.length c0_2] 33 ?_;rintro gb314 - w3 - BK314 GW314 HB));(try simp only[Act.put,List.setIfInBounds_toArray,List.set_cons_zero,List.set_cons_succ]);go_cut [20] (fun v20 wc=>∃(kq:Nat) (x20_1:Bool),v20 = .bool x20_1/\Aside0 (impl_ObjectOk.j0 kq x20_1 l0_0 l0_1 l0_2=some r)/\Aside0 (kq<=k)/\Aside0 (wc.heap[gb314]?=some (.cells #[(.slice A0_0 l0_0.length c0_0),(.slice A0_1 l0_1.length c0_1),(.slice A0_2 l0_2.length c0_2)] 33 (0,0)))/\Aside0 (Below w.heap.size w wc))
 case first=>
  have H:=HC2.out;clear HC2;revert H;refine zIg (fun c4b0 H=>?_) fun c4b0 H=>?_
  ·have c4b1:decide (12<l0_0.length)=true:=decide_eq_true (by have:=of_decide_eq_true c4b0;omega);(first|rw[c4b0]|(simp only[i64_w,i32_w];rw[c4b0])|skip);replace H:=Aside0.mk H;obtain⟨_,_,_,_,_,_⟩:=zF3 BK314;go_wp2;go_meet;case rel=>exact⟨_,(true),(zE _),H,⟨by first|omega|exact Nat.le_refl _⟩,⟨zr BK314⟩,⟨zb _⟩⟩
  have c4b1:decide (12<l0_0.length)=false:=decide_eq_false (by have:=of_decide_eq_false c4b0;omega);(first|rw[c4b0]|(simp only[i64_w,i32_w];rw[c4b0])|skip);revert H;refine zIg (fun c6b0 H=>?_) fun c6b0 H=>?_
  ·have c6b1:decide (200<l0_1.length)=true:=decide_eq_true (by have:=of_decide_eq_true c6b0;omega);replace H:=Aside0.mk H;obtain⟨_,_,_,_,_,_⟩:=zF3 BK314;go_wp2;go_meet;case rel=>exact⟨_,(true),(zE _),H,⟨by first|omega|exact Nat.le_refl _⟩,⟨zr BK314⟩,⟨zb _⟩⟩
  have c6b1:decide (200<l0_1.length)=false:=decide_eq_false (by have:=of_decide_eq_false c6b0;omega);replace H:=Aside0.mk H;obtain⟨_,_,_,_,_,_⟩:=zF3 BK314;go_wp2;go_meet;case rel=>exact⟨_,(decide ((l0_2.length:Int) > 12)),(zE _),H,⟨by first|omega|exact Nat.le_refl _⟩,⟨zr BK314⟩,⟨zb _⟩⟩
 case rest=>
  clear HC2;obtain⟨kq,x20_1,rfl,HA,HJ1,BK314,HB⟩:=hcut;rcases kq with _|kj1
  ·exact absurd HA.out (by simp[impl_ObjectOk.j0])
  have H:=HA.out;clear HA;simp only[impl_ObjectOk.j0]at H;cases x20_1
  ·replace H:=zB0 H;replace H:=Aside0.mk H;obtain⟨_,_,_,_,_,_⟩:=zF3 BK314;go_wp2;go_loopg [24] kj1 (fun kq v24 w'=>∃(x24_2:Int),v24 = .int .i64 x24_2/\Aside0 (impl_ObjectOk.l0 kq l0_1 (l0_1.length:Int) x24_2 l0_0 l0_1 l0_2=some r)/\Aside0 (kq<=kj1)/\Aside0 (w'.heap[gb314]?=some (.cells #[(.slice A0_0 l0_0.length c0_0),(.slice A0_1 l0_1.length c0_1),(.slice A0_2 l0_2.length c0_2)] 33 (0,0)))/\Aside0 (Below w.heap.size w w'));case atStart=>exact⟨(0),(zE _),H,⟨Nat.le_refl _⟩,⟨zr BK314⟩,⟨zb _⟩⟩
   case round=>
    clear H;obtain⟨x24_2,rfl,HA,HK2,BK314,HB⟩:=hrel;rcases gk with _|k2
    ·exact absurd HA.out (by simp[impl_ObjectOk.l0])
    have H:=HA.out;clear HA;simp only[impl_ObjectOk.l0]at H;revert H;refine zI (fun _ H=>?_) fun _ H=>?_
    ·revert H;refine zJ fun _ H=>?_;revert H;refine zJ fun _ H=>?_;revert H;refine zM fun t317 A14 H=>?_;cases t317
     ·replace H:=zB0 H;obtain rfl:=Option.some.inj H;have p315:0<=(x24_2:Int):=of_decide_eq_true (za _);have q315:x24_2<(l0_1.length:Int):=of_decide_eq_true (za _);obtain⟨ad315,e315,hx315_0,hx315_1,hx315_2,hx315_3⟩:=at_T72 HR0_1.out x24_2 p315 q315;cases e315;replace hx315_0:=zx HB hx315_0;replace hx315_1:=zx HB hx315_1;replace hx315_2:=zx HB hx315_2;replace hx315_3:=zx HB hx315_3;replace p315:=eq_true p315;replace q315:=eq_true q315;(try go_wp2_with (first|(refine zbg w 4 rfl #[.string (⟨#[]⟩:ByteArray),.int .i64 0,.int .i64 0,.bool false] 72 ?_;intro gb316 hg w39 hb BK316 GW316 HB;have NB314_316:=zlt BK314 hg;have NB316_314:=zgt (zlt BK314 hg);replace BK314:=zk BK314 hb;clear hb hg;have hnb40:=NB316_314.out;have hnc40:=NB314_316.out;obtain⟨_,_,_,_,_,_,_,_⟩:=zF4 BK316)));have n0_:Aside0 (((((w39.setCell ⟨gb316,0,none⟩ (.string ((rd_T72 l0_1 x24_2).f0))).setCell ⟨gb316,1,none⟩ (.int .i64 ((rd_T72 l0_1 x24_2).f1))).setCell ⟨gb316,2,none⟩ (.int .i64 ((rd_T72 l0_1 x24_2).f2))).setCell ⟨gb316,3,none⟩ (.bool ((rd_T72 l0_1 x24_2).f3))).heap[gb314]?=some (.cells #[.slice A0_0 l0_0.length c0_0,.slice (some ad315) l0_1.length c0_1,.slice A0_2 l0_2.length c0_2] 33 (0,0))):=⟨zw _⟩;have n1_:Aside0 (((((w39.setCell ⟨gb316,0,none⟩ (.string ((rd_T72 l0_1 x24_2).f0))).setCell ⟨gb316,1,none⟩ (.int .i64 ((rd_T72 l0_1 x24_2).f1))).setCell ⟨gb316,2,none⟩ (.int .i64 ((rd_T72 l0_1 x24_2).f2))).setCell ⟨gb316,3,none⟩ (.bool ((rd_T72 l0_1 x24_2).f3))).heap[gb316]?=some (.cells #[.string ((rd_T72 l0_1 x24_2).f0),.int .i64 ((rd_T72 l0_1 x24_2).f1),.int .i64 ((rd_T72 l0_1 x24_2).f2),.bool ((rd_T72 l0_1 x24_2).f3)] 72 (0,0))):=⟨by(with_reducible repeat(first|refine blk_drewN ?_ _|refine blk_drew ?_|refine blk_alloc ?_ _));refine blk_put (cs:=#[.string ((rd_T72 l0_1 x24_2).f0),.int .i64 ((rd_T72 l0_1 x24_2).f1),.int .i64 ((rd_T72 l0_1 x24_2).f2),.bool false]) ?_ 3 _ rfl;(with_reducible repeat(first|refine blk_drewN ?_ _|refine blk_drew ?_|refine blk_alloc ?_ _));refine blk_put (cs:=#[.string ((rd_T72 l0_1 x24_2).f0),.int .i64 ((rd_T72 l0_1 x24_2).f1),.int .i64 0,.bool false]) ?_ 2 _ rfl;(with_reducible repeat(first|refine blk_drewN ?_ _|refine blk_drew ?_|refine blk_alloc ?_ _));refine blk_put (cs:=#[.string ((rd_T72 l0_1 x24_2).f0),.int .i64 0,.int .i64 0,.bool false]) ?_ 1 _ rfl;(with_reducible repeat(first|refine blk_drewN ?_ _|refine blk_drew ?_|refine blk_alloc ?_ _));refine blk_put (cs:=#[.string (⟨#[]⟩:ByteArray),.int .i64 0,.int .i64 0,.bool false]) ?_ 0 _ rfl;(with_reducible repeat(first|refine blk_drewN ?_ _|refine blk_drew ?_|refine blk_alloc ?_ _));exact BK316.out⟩;have n2_:Aside0 (Below w.heap.size w ((((w39.setCell ⟨gb316,0,none⟩ (.string ((rd_T72 l0_1 x24_2).f0))).setCell ⟨gb316,1,none⟩ (.int .i64 ((rd_T72 l0_1 x24_2).f1))).setCell ⟨gb316,2,none⟩ (.int .i64 ((rd_T72 l0_1 x24_2).f2))).setCell ⟨gb316,3,none⟩ (.bool ((rd_T72 l0_1 x24_2).f3)))):=⟨zb _⟩;(try clear BK314);(try clear BK316);(try clear HB);generalize ((((w39.setCell ⟨gb316,0,none⟩ (.string ((rd_T72 l0_1 x24_2).f0))).setCell ⟨gb316,1,none⟩ (.int .i64 ((rd_T72 l0_1 x24_2).f1))).setCell ⟨gb316,2,none⟩ (.int .i64 ((rd_T72 l0_1 x24_2).f2))).setCell ⟨gb316,3,none⟩ (.bool ((rd_T72 l0_1 x24_2).f3)))=w42 at n0_ n1_ n2_ ⊢;have BK314:=n0_;have BK316:=n1_;have HB:=n2_;clear n0_ n1_ n2_;have n0_:=Aside0.mk (blk_drew BK314.out);have n1_:=Aside0.mk (blk_drew BK316.out);have n2_:=Aside0.mk (below_drew1 HB.out);clear BK314;clear BK316;clear HB;have BK314:=n0_;have BK316:=n1_;have HB:=n2_;clear n0_ n1_ n2_;refine start_ (n:=20) (S:=fun w'=>w'.cell? ⟨gb314,0,none⟩=some (.slice A0_0 l0_0.length c0_0)/\w'.cell? ⟨gb314,1,none⟩=some (.slice (some ad315) l0_1.length c0_1)/\w'.cell? ⟨gb314,2,none⟩=some (.slice A0_2 l0_2.length c0_2)/\w'.cell? ⟨gb316,0,none⟩=some (.string ((rd_T72 l0_1 x24_2).f0))/\w'.cell? ⟨gb316,1,none⟩=some (.int .i64 ((rd_T72 l0_1 x24_2).f1))/\w'.cell? ⟨gb316,2,none⟩=some (.int .i64 ((rd_T72 l0_1 x24_2).f2))/\w'.cell? ⟨gb316,3,none⟩=some (.bool ((rd_T72 l0_1 x24_2).f3))) (ds:=[]) (zm 20 0) (by kernel_rfl) rfl rfl ⟨zc0 BK314,zc1 BK314,zc2 BK314,zc0 BK316,zc1 BK316,zc2 BK316,zc3 BK316⟩ (fun hHeld=>?_);refine with_tabW impl_ObjectOk.tab6 impl_ObjectOk.bits6 (fun HT_ HW_=>?_);generalize w42.drew=w43 at BK314 BK316 HB hHeld ⊢;refine zy 0 29 (zm 20 1) hHeld ?_;refine zy 1 30 (zm 20 3) hHeld ?_;refine one_ (i:=2) (N:=some 31) (zm 20 7) rfl rfl (one_of HT_.out (by kernel_rfl)) (by decide) (fun K hK=>?_);refine zi Tryz.func51 #[.agg #[.slice A0_0 l0_0.length c0_0,.slice (some ad315) l0_1.length c0_1,.slice A0_2 l0_2.length c0_2],.agg #[.string ((rd_T72 l0_1 x24_2).f0),.int .i64 ((rd_T72 l0_1 x24_2).f1),.int .i64 ((rd_T72 l0_1 x24_2).f2),.bool ((rd_T72 l0_1 x24_2).f3)]] ?_;(with_reducible refine(impl_isSymbol.calls k2 _ _ l0_0 _ _ l0_1 _ _ l0_2 ((rd_T72 l0_1 x24_2).f0) ((rd_T72 l0_1 x24_2).f1) ((rd_T72 l0_1 x24_2).f2) ((rd_T72 l0_1 x24_2).f3) false _ ?side1 ?side2 ?side3 ?side4 ?side5 ?side6 A14.out).mono ?_);(case side1=>repeat(first|exact(Kd.C_below HR0_0.out HB.out)|(with_reducible refine Kd.C_alloc ?_ _)|(with_reducible refine Kd.C_drewN ?_ _)|(with_reducible refine Kd.C_drew ?_)));(case side2=>exact HC0_0.out);(case side3=>repeat(first|exact(Kd.C_below HR0_1.out HB.out)|(with_reducible refine Kd.C_alloc ?_ _)|(with_reducible refine Kd.C_drewN ?_ _)|(with_reducible refine Kd.C_drew ?_)));(case side4=>exact HC0_1.out);(case side5=>repeat(first|exact(Kd.C_below HR0_2.out HB.out)|(with_reducible refine Kd.C_alloc ?_ _)|(with_reducible refine Kd.C_drewN ?_ _)|(with_reducible refine Kd.C_drew ?_)));(case side6=>exact HC0_2.out);rintro e w44 ⟨rfl,hb⟩;refine⟨_,rfl,?_⟩;have n0_:=zk BK314 hb;have n1_:=zk BK316 hb;have n2_:=zt w hb;clear BK314;clear BK316;clear HB;have BK314:=n0_;have BK316:=n1_;have HB:=n2_;clear n0_ n1_ n2_;(try clear hb);(try clear hb2);(try clear hk);(try clear hi);refine hK.out _ _ ⟨zc0 BK314,zc1 BK314,zc2 BK314,zc0 BK316,zc1 BK316,zc2 BK316,zc3 BK316⟩ (fun hHeld=>?_);clear hK K;refine zq ?_;refine zp 3 32 (zm 20 15) ?_;refine zp 4 33 (zm 20 31) ?_;refine zu 5 34 (zm 20 63) ?_;refine zu 6 35 (zm 20 127) ?_;refine zu 7 36 (zm 20 255) ?_;refine zu 8 37 (zm 20 511) ?_;refine zu 9 38 (zm 20 1023) ?_;refine zu 10 39 (zm 20 2047) ?_;refine zu 11 40 (zm 20 4095) ?_;refine zu 12 41 (zm 20 8191) ?_;refine zu 13 42 (zm 20 16383) ?_;refine zu 14 43 (zm 20 32767) ?_;refine zu 15 44 (zm 20 65535) ?_;refine zu 16 45 (zm 20 131071) ?_;refine zu 17 46 (zm 20 262143) ?_;refine zu 18 47 (zm 20 524287) ?_;refine zp 19 48 (zm 20 1048575) ?_;refine done_ (done_of HT_.out (by kernel_rfl)) ?_;(try go_wp2);go_ret;exact⟨ze _,zb _⟩
     replace H:=zB1 H;revert H;refine zIg (fun _ H=>?_) fun _ H=>?_
     ·obtain⟨ji17,hji17⟩:∃ j_:Int,(wrap64 (x24_2 - 1))=j_:=⟨_,rfl⟩;(replace H:(if 0<=(ji17)then(if(ji17)<(l0_1.length:Int)then(if((Op.bytesLess (((rd_T72 l0_1 (ji17)).f0).toList) (((rd_T72 l0_1 x24_2).f0).toList))=true)then(impl_ObjectOk.l0 k2 l0_1 (l0_1.length:Int) (wrap64 (x24_2+1)) l0_0 l0_1 l0_2)else(some false))else(none))else(none))=some r:=by first|(rw[hji17]at H;exact H)|(simp only[hji17]at H ⊢;exact H));(try rw[hji17]at A14);have hji17w:(IntKind.i64.wrap (x24_2 - 1))=ji17:=(i64_w _).trans hji17;revert H;refine zJ fun _ H=>?_;revert H;refine zJ fun _ H=>?_;by_cases c20:((Op.bytesLess (((rd_T72 l0_1 (ji17)).f0).toList) (((rd_T72 l0_1 x24_2).f0).toList))=true)
      ·rw[if_pos c20]at H;have c20b0:(Op.bytesLess (((rd_T72 l0_1 (ji17)).f0).toList) (((rd_T72 l0_1 x24_2).f0).toList))=true:=c20;(have hleq_:∀ W_:World,(binOp BinOp.leq 9 (.string ((rd_T72 l0_1 x24_2).f0)) (.string ((rd_T72 l0_1 (ji17)).f0))).run Tryz.prog W_ = .ok (.bool (!true)) W_:=fun W_=>by rw[impl_isSymbol.leqS,c20b0]);clear c20;replace H:=Aside0.mk H;have p315:0<=(x24_2:Int):=of_decide_eq_true (za _);have q315:x24_2<(l0_1.length:Int):=of_decide_eq_true (za _);obtain⟨ad315,e315,hx315_0,hx315_1,hx315_2,hx315_3⟩:=at_T72 HR0_1.out x24_2 p315 q315;cases e315;replace hx315_0:=zx HB hx315_0;replace hx315_1:=zx HB hx315_1;replace hx315_2:=zx HB hx315_2;replace hx315_3:=zx HB hx315_3;replace p315:=eq_true p315;replace q315:=eq_true q315;(try go_wp2_with (first|(refine zbg w 4 rfl #[.string (⟨#[]⟩:ByteArray),.int .i64 0,.int .i64 0,.bool false] 72 ?_;intro gb316 hg w21 hb BK316 GW316 HB;have NB314_316:=zlt BK314 hg;have NB316_314:=zgt (zlt BK314 hg);replace BK314:=zk BK314 hb;clear hb hg;have hnb22:=NB316_314.out;have hnc22:=NB314_316.out;obtain⟨_,_,_,_,_,_,_,_⟩:=zF4 BK316)));have n0_:Aside0 (((((w21.setCell ⟨gb316,0,none⟩ (.string ((rd_T72 l0_1 x24_2).f0))).setCell ⟨gb316,1,none⟩ (.int .i64 ((rd_T72 l0_1 x24_2).f1))).setCell ⟨gb316,2,none⟩ (.int .i64 ((rd_T72 l0_1 x24_2).f2))).setCell ⟨gb316,3,none⟩ (.bool ((rd_T72 l0_1 x24_2).f3))).heap[gb314]?=some (.cells #[.slice A0_0 l0_0.length c0_0,.slice (some ad315) l0_1.length c0_1,.slice A0_2 l0_2.length c0_2] 33 (0,0))):=⟨zw _⟩;have n1_:Aside0 (((((w21.setCell ⟨gb316,0,none⟩ (.string ((rd_T72 l0_1 x24_2).f0))).setCell ⟨gb316,1,none⟩ (.int .i64 ((rd_T72 l0_1 x24_2).f1))).setCell ⟨gb316,2,none⟩ (.int .i64 ((rd_T72 l0_1 x24_2).f2))).setCell ⟨gb316,3,none⟩ (.bool ((rd_T72 l0_1 x24_2).f3))).heap[gb316]?=some (.cells #[.string ((rd_T72 l0_1 x24_2).f0),.int .i64 ((rd_T72 l0_1 x24_2).f1),.int .i64 ((rd_T72 l0_1 x24_2).f2),.bool ((rd_T72 l0_1 x24_2).f3)] 72 (0,0))):=⟨by(with_reducible repeat(first|refine blk_drewN ?_ _|refine blk_drew ?_|refine blk_alloc ?_ _));refine blk_put (cs:=#[.string ((rd_T72 l0_1 x24_2).f0),.int .i64 ((rd_T72 l0_1 x24_2).f1),.int .i64 ((rd_T72 l0_1 x24_2).f2),.bool false]) ?_ 3 _ rfl;(with_reducible repeat(first|refine blk_drewN ?_ _|refine blk_drew ?_|refine blk_alloc ?_ _));refine blk_put (cs:=#[.string ((rd_T72 l0_1 x24_2).f0),.int .i64 ((rd_T72 l0_1 x24_2).f1),.int .i64 0,.bool false]) ?_ 2 _ rfl;(with_reducible repeat(first|refine blk_drewN ?_ _|refine blk_drew ?_|refine blk_alloc ?_ _));refine blk_put (cs:=#[.string ((rd_T72 l0_1 x24_2).f0),.int .i64 0,.int .i64 0,.bool false]) ?_ 1 _ rfl;(with_reducible repeat(first|refine blk_drewN ?_ _|refine blk_drew ?_|refine blk_alloc ?_ _));refine blk_put (cs:=#[.string (⟨#[]⟩:ByteArray),.int .i64 0,.int .i64 0,.bool false]) ?_ 0 _ rfl;(with_reducible repeat(first|refine blk_drewN ?_ _|refine blk_drew ?_|refine blk_alloc ?_ _));exact BK316.out⟩;have n2_:Aside0 (Below w.heap.size w ((((w21.setCell ⟨gb316,0,none⟩ (.string ((rd_T72 l0_1 x24_2).f0))).setCell ⟨gb316,1,none⟩ (.int .i64 ((rd_T72 l0_1 x24_2).f1))).setCell ⟨gb316,2,none⟩ (.int .i64 ((rd_T72 l0_1 x24_2).f2))).setCell ⟨gb316,3,none⟩ (.bool ((rd_T72 l0_1 x24_2).f3)))):=⟨zb _⟩;(try clear BK314);(try clear BK316);(try clear HB);generalize ((((w21.setCell ⟨gb316,0,none⟩ (.string ((rd_T72 l0_1 x24_2).f0))).setCell ⟨gb316,1,none⟩ (.int .i64 ((rd_T72 l0_1 x24_2).f1))).setCell ⟨gb316,2,none⟩ (.int .i64 ((rd_T72 l0_1 x24_2).f2))).setCell ⟨gb316,3,none⟩ (.bool ((rd_T72 l0_1 x24_2).f3)))=w24 at n0_ n1_ n2_ ⊢;have BK314:=n0_;have BK316:=n1_;have HB:=n2_;clear n0_ n1_ n2_;have n0_:=Aside0.mk (blk_drew BK314.out);have n1_:=Aside0.mk (blk_drew BK316.out);have n2_:=Aside0.mk (below_drew1 HB.out);clear BK314;clear BK316;clear HB;have BK314:=n0_;have BK316:=n1_;have HB:=n2_;clear n0_ n1_ n2_;have p318:0<=((ji17):Int):=of_decide_eq_true (za _);have q318:(ji17)<(l0_1.length:Int):=of_decide_eq_true (za _);obtain⟨ad318,e318,hx318_0,hx318_1,hx318_2,hx318_3⟩:=at_T72 HR0_1.out (ji17) p318 q318;have hw318_3:=hx318_3;have hw318_2:=hx318_2;have hw318_1:=hx318_1;have hw318_0:=hx318_0;obtain rfl:ad315=ad318:=(by injection e318);replace hx318_0:=zx HB hx318_0;replace hx318_1:=zx HB hx318_1;replace hx318_2:=zx HB hx318_2;replace hx318_3:=zx HB hx318_3;replace p318:=eq_true p318;replace q318:=eq_true q318;refine start_ (n:=20) (S:=fun w'=>w'.cell? ⟨gb314,0,none⟩=some (.slice A0_0 l0_0.length c0_0)/\w'.cell? ⟨gb314,1,none⟩=some (.slice (some ad315) l0_1.length c0_1)/\w'.cell? ⟨gb314,2,none⟩=some (.slice A0_2 l0_2.length c0_2)/\w'.cell? ⟨gb316,0,none⟩=some (.string ((rd_T72 l0_1 x24_2).f0))/\w'.cell? ⟨gb316,1,none⟩=some (.int .i64 ((rd_T72 l0_1 x24_2).f1))/\w'.cell? ⟨gb316,2,none⟩=some (.int .i64 ((rd_T72 l0_1 x24_2).f2))/\w'.cell? ⟨gb316,3,none⟩=some (.bool ((rd_T72 l0_1 x24_2).f3))/\w'.cell? (ad315.add (((ji17)).toNat*4))=some (.string ((rd_T72 l0_1 (ji17)).f0))/\w'.cell? ⟨(ad315.add (((ji17)).toNat*4)).block,(ad315.add (((ji17)).toNat*4)).off+1,none⟩=some (.int .i64 ((rd_T72 l0_1 (ji17)).f1))/\w'.cell? ⟨(ad315.add (((ji17)).toNat*4)).block,(ad315.add (((ji17)).toNat*4)).off+2,none⟩=some (.int .i64 ((rd_T72 l0_1 (ji17)).f2))/\w'.cell? ⟨(ad315.add (((ji17)).toNat*4)).block,(ad315.add (((ji17)).toNat*4)).off+3,none⟩=some (.bool ((rd_T72 l0_1 (ji17)).f3))) (ds:=[]) (zm 20 0) (by kernel_rfl) rfl rfl ⟨zc0 BK314,zc1 BK314,zc2 BK314,zc0 BK316,zc1 BK316,zc2 BK316,zc3 BK316,(zx HB hw318_0),(zx HB hw318_1),(zx HB hw318_2),(zx HB hw318_3)⟩ (fun hHeld=>?_);refine with_tabW impl_ObjectOk.tab6 impl_ObjectOk.bits6 (fun HT_ HW_=>?_);generalize w24.drew=w25 at BK314 BK316 HB hx318_0 hx318_1 hx318_2 hx318_3 hHeld ⊢;refine zy 0 29 (zm 20 1) hHeld ?_;refine zy 1 30 (zm 20 3) hHeld ?_;refine one_ (i:=2) (N:=some 31) (zm 20 7) rfl rfl (one_of HT_.out (by kernel_rfl)) (by decide) (fun K hK=>?_);refine zi Tryz.func51 #[.agg #[.slice A0_0 l0_0.length c0_0,.slice (some ad315) l0_1.length c0_1,.slice A0_2 l0_2.length c0_2],.agg #[.string ((rd_T72 l0_1 x24_2).f0),.int .i64 ((rd_T72 l0_1 x24_2).f1),.int .i64 ((rd_T72 l0_1 x24_2).f2),.bool ((rd_T72 l0_1 x24_2).f3)]] ?_;(with_reducible refine(impl_isSymbol.calls k2 _ _ l0_0 _ _ l0_1 _ _ l0_2 ((rd_T72 l0_1 x24_2).f0) ((rd_T72 l0_1 x24_2).f1) ((rd_T72 l0_1 x24_2).f2) ((rd_T72 l0_1 x24_2).f3) true _ ?side1 ?side2 ?side3 ?side4 ?side5 ?side6 A14.out).mono ?_);(case side1=>repeat(first|exact(Kd.C_below HR0_0.out HB.out)|(with_reducible refine Kd.C_alloc ?_ _)|(with_reducible refine Kd.C_drewN ?_ _)|(with_reducible refine Kd.C_drew ?_)));(case side2=>exact HC0_0.out);(case side3=>repeat(first|exact(Kd.C_below HR0_1.out HB.out)|(with_reducible refine Kd.C_alloc ?_ _)|(with_reducible refine Kd.C_drewN ?_ _)|(with_reducible refine Kd.C_drew ?_)));(case side4=>exact HC0_1.out);(case side5=>repeat(first|exact(Kd.C_below HR0_2.out HB.out)|(with_reducible refine Kd.C_alloc ?_ _)|(with_reducible refine Kd.C_drewN ?_ _)|(with_reducible refine Kd.C_drew ?_)));(case side6=>exact HC0_2.out);rintro e w26 ⟨rfl,hb⟩;refine⟨_,rfl,?_⟩;have n0_:=zk BK314 hb;have n1_:=zk BK316 hb;have n2_:=zt w hb;clear BK314;clear BK316;clear HB;have BK314:=n0_;have BK316:=n1_;have HB:=n2_;clear n0_ n1_ n2_;(try clear hb);(try clear hb2);(try clear hk);(try clear hi);refine hK.out _ _ ⟨zc0 BK314,zc1 BK314,zc2 BK314,zc0 BK316,zc1 BK316,zc2 BK316,zc3 BK316,(zx HB hw318_0),(zx HB hw318_1),(zx HB hw318_2),(zx HB hw318_3)⟩ (fun hHeld=>?_);clear hK K;refine zq ?_;refine zp 3 32 (zm 20 15) ?_;refine zp 4 33 (zm 20 31) ?_;refine zp 5 34 (zm 20 63) ?_;refine zp 6 35 (zm 20 127) ?_;refine zp 7 36 (zm 20 255) ?_;refine zp 8 37 (zm 20 511) ?_;refine zp 10 39 (zm 20 1535) ?_;refine zp 12 41 (zm 20 5631) ?_;refine zp 13 42 (zm 20 13823) ?_;refine zy 9 38 (zm 20 14335) hHeld ?_;refine zy 11 40 (zm 20 16383) hHeld ?_;refine zp 14 43 (zm 20 32767) ?_;refine zp 15 44 (zm 20 65535) ?_;refine zy 16 45 (zm 20 131071) hHeld ?_;refine zp 17 46 (zm 20 262143) ?_;refine zp 18 47 (zm 20 524287) ?_;refine zp 19 48 (zm 20 1048575) ?_;refine done_ (done_of HT_.out (by kernel_rfl)) ?_;(try go_wp2);go_roundg k2;(case measure=>have:=HJ1.out;have:=HK2.out;omega);case rel=>exact⟨(wrap64 (x24_2+1)),(zE _),H,⟨by have:=HJ1.out;have:=HK2.out;omega⟩,⟨zr BK314⟩,⟨zb _⟩⟩
      rw[if_neg c20]at H;(have c20b0:(Op.bytesLess (((rd_T72 l0_1 (ji17)).f0).toList) (((rd_T72 l0_1 x24_2).f0).toList))=false:=by simpa using c20);(have hleq_:∀ W_:World,(binOp BinOp.leq 9 (.string ((rd_T72 l0_1 x24_2).f0)) (.string ((rd_T72 l0_1 (ji17)).f0))).run Tryz.prog W_ = .ok (.bool (!false)) W_:=fun W_=>by rw[impl_isSymbol.leqS,c20b0]);clear c20;obtain rfl:=Option.some.inj H;have p315:0<=(x24_2:Int):=of_decide_eq_true (za _);have q315:x24_2<(l0_1.length:Int):=of_decide_eq_true (za _);obtain⟨ad315,e315,hx315_0,hx315_1,hx315_2,hx315_3⟩:=at_T72 HR0_1.out x24_2 p315 q315;cases e315;replace hx315_0:=zx HB hx315_0;replace hx315_1:=zx HB hx315_1;replace hx315_2:=zx HB hx315_2;replace hx315_3:=zx HB hx315_3;replace p315:=eq_true p315;replace q315:=eq_true q315;(try go_wp2_with (first|(refine zbg w 4 rfl #[.string (⟨#[]⟩:ByteArray),.int .i64 0,.int .i64 0,.bool false] 72 ?_;intro gb316 hg w27 hb BK316 GW316 HB;have NB314_316:=zlt BK314 hg;have NB316_314:=zgt (zlt BK314 hg);replace BK314:=zk BK314 hb;clear hb hg;have hnb28:=NB316_314.out;have hnc28:=NB314_316.out;obtain⟨_,_,_,_,_,_,_,_⟩:=zF4 BK316)));have n0_:Aside0 (((((w27.setCell ⟨gb316,0,none⟩ (.string ((rd_T72 l0_1 x24_2).f0))).setCell ⟨gb316,1,none⟩ (.int .i64 ((rd_T72 l0_1 x24_2).f1))).setCell ⟨gb316,2,none⟩ (.int .i64 ((rd_T72 l0_1 x24_2).f2))).setCell ⟨gb316,3,none⟩ (.bool ((rd_T72 l0_1 x24_2).f3))).heap[gb314]?=some (.cells #[.slice A0_0 l0_0.length c0_0,.slice (some ad315) l0_1.length c0_1,.slice A0_2 l0_2.length c0_2] 33 (0,0))):=⟨zw _⟩;have n1_:Aside0 (((((w27.setCell ⟨gb316,0,none⟩ (.string ((rd_T72 l0_1 x24_2).f0))).setCell ⟨gb316,1,none⟩ (.int .i64 ((rd_T72 l0_1 x24_2).f1))).setCell ⟨gb316,2,none⟩ (.int .i64 ((rd_T72 l0_1 x24_2).f2))).setCell ⟨gb316,3,none⟩ (.bool ((rd_T72 l0_1 x24_2).f3))).heap[gb316]?=some (.cells #[.string ((rd_T72 l0_1 x24_2).f0),.int .i64 ((rd_T72 l0_1 x24_2).f1),.int .i64 ((rd_T72 l0_1 x24_2).f2),.bool ((rd_T72 l0_1 x24_2).f3)] 72 (0,0))):=⟨by(with_reducible repeat(first|refine blk_drewN ?_ _|refine blk_drew ?_|refine blk_alloc ?_ _));refine blk_put (cs:=#[.string ((rd_T72 l0_1 x24_2).f0),.int .i64 ((rd_T72 l0_1 x24_2).f1),.int .i64 ((rd_T72 l0_1 x24_2).f2),.bool false]) ?_ 3 _ rfl;(with_reducible repeat(first|refine blk_drewN ?_ _|refine blk_drew ?_|refine blk_alloc ?_ _));refine blk_put (cs:=#[.string ((rd_T72 l0_1 x24_2).f0),.int .i64 ((rd_T72 l0_1 x24_2).f1),.int .i64 0,.bool false]) ?_ 2 _ rfl;(with_reducible repeat(first|refine blk_drewN ?_ _|refine blk_drew ?_|refine blk_alloc ?_ _));refine blk_put (cs:=#[.string ((rd_T72 l0_1 x24_2).f0),.int .i64 0,.int .i64 0,.bool false]) ?_ 1 _ rfl;(with_reducible repeat(first|refine blk_drewN ?_ _|refine blk_drew ?_|refine blk_alloc ?_ _));refine blk_put (cs:=#[.string (⟨#[]⟩:ByteArray),.int .i64 0,.int .i64 0,.bool false]) ?_ 0 _ rfl;(with_reducible repeat(first|refine blk_drewN ?_ _|refine blk_drew ?_|refine blk_alloc ?_ _));exact BK316.out⟩;have n2_:Aside0 (Below w.heap.size w ((((w27.setCell ⟨gb316,0,none⟩ (.string ((rd_T72 l0_1 x24_2).f0))).setCell ⟨gb316,1,none⟩ (.int .i64 ((rd_T72 l0_1 x24_2).f1))).setCell ⟨gb316,2,none⟩ (.int .i64 ((rd_T72 l0_1 x24_2).f2))).setCell ⟨gb316,3,none⟩ (.bool ((rd_T72 l0_1 x24_2).f3)))):=⟨zb _⟩;(try clear BK314);(try clear BK316);(try clear HB);generalize ((((w27.setCell ⟨gb316,0,none⟩ (.string ((rd_T72 l0_1 x24_2).f0))).setCell ⟨gb316,1,none⟩ (.int .i64 ((rd_T72 l0_1 x24_2).f1))).setCell ⟨gb316,2,none⟩ (.int .i64 ((rd_T72 l0_1 x24_2).f2))).setCell ⟨gb316,3,none⟩ (.bool ((rd_T72 l0_1 x24_2).f3)))=w30 at n0_ n1_ n2_ ⊢;have BK314:=n0_;have BK316:=n1_;have HB:=n2_;clear n0_ n1_ n2_;have n0_:=Aside0.mk (blk_drew BK314.out);have n1_:=Aside0.mk (blk_drew BK316.out);have n2_:=Aside0.mk (below_drew1 HB.out);clear BK314;clear BK316;clear HB;have BK314:=n0_;have BK316:=n1_;have HB:=n2_;clear n0_ n1_ n2_;have p318:0<=((ji17):Int):=of_decide_eq_true (za _);have q318:(ji17)<(l0_1.length:Int):=of_decide_eq_true (za _);obtain⟨ad318,e318,hx318_0,hx318_1,hx318_2,hx318_3⟩:=at_T72 HR0_1.out (ji17) p318 q318;have hw318_3:=hx318_3;have hw318_2:=hx318_2;have hw318_1:=hx318_1;have hw318_0:=hx318_0;obtain rfl:ad315=ad318:=(by injection e318);replace hx318_0:=zx HB hx318_0;replace hx318_1:=zx HB hx318_1;replace hx318_2:=zx HB hx318_2;replace hx318_3:=zx HB hx318_3;replace p318:=eq_true p318;replace q318:=eq_true q318;refine start_ (n:=20) (S:=fun w'=>w'.cell? ⟨gb314,0,none⟩=some (.slice A0_0 l0_0.length c0_0)/\w'.cell? ⟨gb314,1,none⟩=some (.slice (some ad315) l0_1.length c0_1)/\w'.cell? ⟨gb314,2,none⟩=some (.slice A0_2 l0_2.length c0_2)/\w'.cell? ⟨gb316,0,none⟩=some (.string ((rd_T72 l0_1 x24_2).f0))/\w'.cell? ⟨gb316,1,none⟩=some (.int .i64 ((rd_T72 l0_1 x24_2).f1))/\w'.cell? ⟨gb316,2,none⟩=some (.int .i64 ((rd_T72 l0_1 x24_2).f2))/\w'.cell? ⟨gb316,3,none⟩=some (.bool ((rd_T72 l0_1 x24_2).f3))/\w'.cell? (ad315.add (((ji17)).toNat*4))=some (.string ((rd_T72 l0_1 (ji17)).f0))/\w'.cell? ⟨(ad315.add (((ji17)).toNat*4)).block,(ad315.add (((ji17)).toNat*4)).off+1,none⟩=some (.int .i64 ((rd_T72 l0_1 (ji17)).f1))/\w'.cell? ⟨(ad315.add (((ji17)).toNat*4)).block,(ad315.add (((ji17)).toNat*4)).off+2,none⟩=some (.int .i64 ((rd_T72 l0_1 (ji17)).f2))/\w'.cell? ⟨(ad315.add (((ji17)).toNat*4)).block,(ad315.add (((ji17)).toNat*4)).off+3,none⟩=some (.bool ((rd_T72 l0_1 (ji17)).f3))) (ds:=[]) (zm 20 0) (by kernel_rfl) rfl rfl ⟨zc0 BK314,zc1 BK314,zc2 BK314,zc0 BK316,zc1 BK316,zc2 BK316,zc3 BK316,(zx HB hw318_0),(zx HB hw318_1),(zx HB hw318_2),(zx HB hw318_3)⟩ (fun hHeld=>?_);refine with_tabW impl_ObjectOk.tab6 impl_ObjectOk.bits6 (fun HT_ HW_=>?_);generalize w30.drew=w31 at BK314 BK316 HB hx318_0 hx318_1 hx318_2 hx318_3 hHeld ⊢;refine zy 0 29 (zm 20 1) hHeld ?_;refine zy 1 30 (zm 20 3) hHeld ?_;refine one_ (i:=2) (N:=some 31) (zm 20 7) rfl rfl (one_of HT_.out (by kernel_rfl)) (by decide) (fun K hK=>?_);refine zi Tryz.func51 #[.agg #[.slice A0_0 l0_0.length c0_0,.slice (some ad315) l0_1.length c0_1,.slice A0_2 l0_2.length c0_2],.agg #[.string ((rd_T72 l0_1 x24_2).f0),.int .i64 ((rd_T72 l0_1 x24_2).f1),.int .i64 ((rd_T72 l0_1 x24_2).f2),.bool ((rd_T72 l0_1 x24_2).f3)]] ?_;(with_reducible refine(impl_isSymbol.calls k2 _ _ l0_0 _ _ l0_1 _ _ l0_2 ((rd_T72 l0_1 x24_2).f0) ((rd_T72 l0_1 x24_2).f1) ((rd_T72 l0_1 x24_2).f2) ((rd_T72 l0_1 x24_2).f3) true _ ?side1 ?side2 ?side3 ?side4 ?side5 ?side6 A14.out).mono ?_);(case side1=>repeat(first|exact(Kd.C_below HR0_0.out HB.out)|(with_reducible refine Kd.C_alloc ?_ _)|(with_reducible refine Kd.C_drewN ?_ _)|(with_reducible refine Kd.C_drew ?_)));(case side2=>exact HC0_0.out);(case side3=>repeat(first|exact(Kd.C_below HR0_1.out HB.out)|(with_reducible refine Kd.C_alloc ?_ _)|(with_reducible refine Kd.C_drewN ?_ _)|(with_reducible refine Kd.C_drew ?_)));(case side4=>exact HC0_1.out);(case side5=>repeat(first|exact(Kd.C_below HR0_2.out HB.out)|(with_reducible refine Kd.C_alloc ?_ _)|(with_reducible refine Kd.C_drewN ?_ _)|(with_reducible refine Kd.C_drew ?_)));(case side6=>exact HC0_2.out);rintro e w32 ⟨rfl,hb⟩;refine⟨_,rfl,?_⟩;have n0_:=zk BK314 hb;have n1_:=zk BK316 hb;have n2_:=zt w hb;clear BK314;clear BK316;clear HB;have BK314:=n0_;have BK316:=n1_;have HB:=n2_;clear n0_ n1_ n2_;(try clear hb);(try clear hb2);(try clear hk);(try clear hi);refine hK.out _ _ ⟨zc0 BK314,zc1 BK314,zc2 BK314,zc0 BK316,zc1 BK316,zc2 BK316,zc3 BK316,(zx HB hw318_0),(zx HB hw318_1),(zx HB hw318_2),(zx HB hw318_3)⟩ (fun hHeld=>?_);clear hK K;refine zq ?_;refine zp 3 32 (zm 20 15) ?_;refine zp 4 33 (zm 20 31) ?_;refine zp 5 34 (zm 20 63) ?_;refine zp 6 35 (zm 20 127) ?_;refine zp 7 36 (zm 20 255) ?_;refine zp 8 37 (zm 20 511) ?_;refine zp 10 39 (zm 20 1535) ?_;refine zp 12 41 (zm 20 5631) ?_;refine zp 13 42 (zm 20 13823) ?_;refine zy 9 38 (zm 20 14335) hHeld ?_;refine zy 11 40 (zm 20 16383) hHeld ?_;refine zp 14 43 (zm 20 32767) ?_;refine zp 15 44 (zm 20 65535) ?_;refine zy 16 45 (zm 20 131071) hHeld ?_;refine zp 17 46 (zm 20 262143) ?_;refine zp 18 47 (zm 20 524287) ?_;refine zp 19 48 (zm 20 1048575) ?_;refine done_ (done_of HT_.out (by kernel_rfl)) ?_;(try go_wp2);go_ret;exact⟨by first|rfl|(simp[errW_none,errW_some] <;> rfl)|(simp only[<-hji17];first|rfl|(simp[errW_none,errW_some] <;> rfl))|(simp[*,errW_none,errW_some] <;> rfl),zb _⟩
     replace H:=Aside0.mk H;have p315:0<=(x24_2:Int):=of_decide_eq_true (za _);have q315:x24_2<(l0_1.length:Int):=of_decide_eq_true (za _);obtain⟨ad315,e315,hx315_0,hx315_1,hx315_2,hx315_3⟩:=at_T72 HR0_1.out x24_2 p315 q315;cases e315;replace hx315_0:=zx HB hx315_0;replace hx315_1:=zx HB hx315_1;replace hx315_2:=zx HB hx315_2;replace hx315_3:=zx HB hx315_3;replace p315:=eq_true p315;replace q315:=eq_true q315;(try go_wp2_with (first|(refine zbg w 4 rfl #[.string (⟨#[]⟩:ByteArray),.int .i64 0,.int .i64 0,.bool false] 72 ?_;intro gb316 hg w33 hb BK316 GW316 HB;have NB314_316:=zlt BK314 hg;have NB316_314:=zgt (zlt BK314 hg);replace BK314:=zk BK314 hb;clear hb hg;have hnb34:=NB316_314.out;have hnc34:=NB314_316.out;obtain⟨_,_,_,_,_,_,_,_⟩:=zF4 BK316)));have n0_:Aside0 (((((w33.setCell ⟨gb316,0,none⟩ (.string ((rd_T72 l0_1 x24_2).f0))).setCell ⟨gb316,1,none⟩ (.int .i64 ((rd_T72 l0_1 x24_2).f1))).setCell ⟨gb316,2,none⟩ (.int .i64 ((rd_T72 l0_1 x24_2).f2))).setCell ⟨gb316,3,none⟩ (.bool ((rd_T72 l0_1 x24_2).f3))).heap[gb314]?=some (.cells #[.slice A0_0 l0_0.length c0_0,.slice (some ad315) l0_1.length c0_1,.slice A0_2 l0_2.length c0_2] 33 (0,0))):=⟨zw _⟩;have n1_:Aside0 (((((w33.setCell ⟨gb316,0,none⟩ (.string ((rd_T72 l0_1 x24_2).f0))).setCell ⟨gb316,1,none⟩ (.int .i64 ((rd_T72 l0_1 x24_2).f1))).setCell ⟨gb316,2,none⟩ (.int .i64 ((rd_T72 l0_1 x24_2).f2))).setCell ⟨gb316,3,none⟩ (.bool ((rd_T72 l0_1 x24_2).f3))).heap[gb316]?=some (.cells #[.string ((rd_T72 l0_1 x24_2).f0),.int .i64 ((rd_T72 l0_1 x24_2).f1),.int .i64 ((rd_T72 l0_1 x24_2).f2),.bool ((rd_T72 l0_1 x24_2).f3)] 72 (0,0))):=⟨by(with_reducible repeat(first|refine blk_drewN ?_ _|refine blk_drew ?_|refine blk_alloc ?_ _));refine blk_put (cs:=#[.string ((rd_T72 l0_1 x24_2).f0),.int .i64 ((rd_T72 l0_1 x24_2).f1),.int .i64 ((rd_T72 l0_1 x24_2).f2),.bool false]) ?_ 3 _ rfl;(with_reducible repeat(first|refine blk_drewN ?_ _|refine blk_drew ?_|refine blk_alloc ?_ _));refine blk_put (cs:=#[.string ((rd_T72 l0_1 x24_2).f0),.int .i64 ((rd_T72 l0_1 x24_2).f1),.int .i64 0,.bool false]) ?_ 2 _ rfl;(with_reducible repeat(first|refine blk_drewN ?_ _|refine blk_drew ?_|refine blk_alloc ?_ _));refine blk_put (cs:=#[.string ((rd_T72 l0_1 x24_2).f0),.int .i64 0,.int .i64 0,.bool false]) ?_ 1 _ rfl;(with_reducible repeat(first|refine blk_drewN ?_ _|refine blk_drew ?_|refine blk_alloc ?_ _));refine blk_put (cs:=#[.string (⟨#[]⟩:ByteArray),.int .i64 0,.int .i64 0,.bool false]) ?_ 0 _ rfl;(with_reducible repeat(first|refine blk_drewN ?_ _|refine blk_drew ?_|refine blk_alloc ?_ _));exact BK316.out⟩;have n2_:Aside0 (Below w.heap.size w ((((w33.setCell ⟨gb316,0,none⟩ (.string ((rd_T72 l0_1 x24_2).f0))).setCell ⟨gb316,1,none⟩ (.int .i64 ((rd_T72 l0_1 x24_2).f1))).setCell ⟨gb316,2,none⟩ (.int .i64 ((rd_T72 l0_1 x24_2).f2))).setCell ⟨gb316,3,none⟩ (.bool ((rd_T72 l0_1 x24_2).f3)))):=⟨zb _⟩;(try clear BK314);(try clear BK316);(try clear HB);generalize ((((w33.setCell ⟨gb316,0,none⟩ (.string ((rd_T72 l0_1 x24_2).f0))).setCell ⟨gb316,1,none⟩ (.int .i64 ((rd_T72 l0_1 x24_2).f1))).setCell ⟨gb316,2,none⟩ (.int .i64 ((rd_T72 l0_1 x24_2).f2))).setCell ⟨gb316,3,none⟩ (.bool ((rd_T72 l0_1 x24_2).f3)))=w36 at n0_ n1_ n2_ ⊢;have BK314:=n0_;have BK316:=n1_;have HB:=n2_;clear n0_ n1_ n2_;have n0_:=Aside0.mk (blk_drew BK314.out);have n1_:=Aside0.mk (blk_drew BK316.out);have n2_:=Aside0.mk (below_drew1 HB.out);clear BK314;clear BK316;clear HB;have BK314:=n0_;have BK316:=n1_;have HB:=n2_;clear n0_ n1_ n2_;refine start_ (n:=20) (S:=fun w'=>w'.cell? ⟨gb314,0,none⟩=some (.slice A0_0 l0_0.length c0_0)/\w'.cell? ⟨gb314,1,none⟩=some (.slice (some ad315) l0_1.length c0_1)/\w'.cell? ⟨gb314,2,none⟩=some (.slice A0_2 l0_2.length c0_2)/\w'.cell? ⟨gb316,0,none⟩=some (.string ((rd_T72 l0_1 x24_2).f0))/\w'.cell? ⟨gb316,1,none⟩=some (.int .i64 ((rd_T72 l0_1 x24_2).f1))/\w'.cell? ⟨gb316,2,none⟩=some (.int .i64 ((rd_T72 l0_1 x24_2).f2))/\w'.cell? ⟨gb316,3,none⟩=some (.bool ((rd_T72 l0_1 x24_2).f3))) (ds:=[]) (zm 20 0) (by kernel_rfl) rfl rfl ⟨zc0 BK314,zc1 BK314,zc2 BK314,zc0 BK316,zc1 BK316,zc2 BK316,zc3 BK316⟩ (fun hHeld=>?_);refine with_tabW impl_ObjectOk.tab6 impl_ObjectOk.bits6 (fun HT_ HW_=>?_);generalize w36.drew=w37 at BK314 BK316 HB hHeld ⊢;refine zy 0 29 (zm 20 1) hHeld ?_;refine zy 1 30 (zm 20 3) hHeld ?_;refine one_ (i:=2) (N:=some 31) (zm 20 7) rfl rfl (one_of HT_.out (by kernel_rfl)) (by decide) (fun K hK=>?_);refine zi Tryz.func51 #[.agg #[.slice A0_0 l0_0.length c0_0,.slice (some ad315) l0_1.length c0_1,.slice A0_2 l0_2.length c0_2],.agg #[.string ((rd_T72 l0_1 x24_2).f0),.int .i64 ((rd_T72 l0_1 x24_2).f1),.int .i64 ((rd_T72 l0_1 x24_2).f2),.bool ((rd_T72 l0_1 x24_2).f3)]] ?_;(with_reducible refine(impl_isSymbol.calls k2 _ _ l0_0 _ _ l0_1 _ _ l0_2 ((rd_T72 l0_1 x24_2).f0) ((rd_T72 l0_1 x24_2).f1) ((rd_T72 l0_1 x24_2).f2) ((rd_T72 l0_1 x24_2).f3) true _ ?side1 ?side2 ?side3 ?side4 ?side5 ?side6 A14.out).mono ?_);(case side1=>repeat(first|exact(Kd.C_below HR0_0.out HB.out)|(with_reducible refine Kd.C_alloc ?_ _)|(with_reducible refine Kd.C_drewN ?_ _)|(with_reducible refine Kd.C_drew ?_)));(case side2=>exact HC0_0.out);(case side3=>repeat(first|exact(Kd.C_below HR0_1.out HB.out)|(with_reducible refine Kd.C_alloc ?_ _)|(with_reducible refine Kd.C_drewN ?_ _)|(with_reducible refine Kd.C_drew ?_)));(case side4=>exact HC0_1.out);(case side5=>repeat(first|exact(Kd.C_below HR0_2.out HB.out)|(with_reducible refine Kd.C_alloc ?_ _)|(with_reducible refine Kd.C_drewN ?_ _)|(with_reducible refine Kd.C_drew ?_)));(case side6=>exact HC0_2.out);rintro e w38 ⟨rfl,hb⟩;refine⟨_,rfl,?_⟩;have n0_:=zk BK314 hb;have n1_:=zk BK316 hb;have n2_:=zt w hb;clear BK314;clear BK316;clear HB;have BK314:=n0_;have BK316:=n1_;have HB:=n2_;clear n0_ n1_ n2_;(try clear hb);(try clear hb2);(try clear hk);(try clear hi);refine hK.out _ _ ⟨zc0 BK314,zc1 BK314,zc2 BK314,zc0 BK316,zc1 BK316,zc2 BK316,zc3 BK316⟩ (fun hHeld=>?_);clear hK K;refine zq ?_;refine zp 3 32 (zm 20 15) ?_;refine zp 4 33 (zm 20 31) ?_;refine zp 5 34 (zm 20 63) ?_;refine zp 6 35 (zm 20 127) ?_;refine zp 7 36 (zm 20 255) ?_;refine zu 8 37 (zm 20 511) ?_;refine zu 9 38 (zm 20 1023) ?_;refine zu 10 39 (zm 20 2047) ?_;refine zu 11 40 (zm 20 4095) ?_;refine zu 12 41 (zm 20 8191) ?_;refine zu 13 42 (zm 20 16383) ?_;refine zu 14 43 (zm 20 32767) ?_;refine zu 15 44 (zm 20 65535) ?_;refine zu 16 45 (zm 20 131071) ?_;refine zu 17 46 (zm 20 262143) ?_;refine zp 18 47 (zm 20 524287) ?_;refine zp 19 48 (zm 20 1048575) ?_;refine done_ (done_of HT_.out (by kernel_rfl)) ?_;(try go_wp2);go_roundg k2;(case measure=>have:=HJ1.out;have:=HK2.out;omega);case rel=>exact⟨(wrap64 (x24_2+1)),(zE _),H,⟨by have:=HJ1.out;have:=HK2.out;omega⟩,⟨zr BK314⟩,⟨zb _⟩⟩
    revert H;refine zM fun t319 A45 H=>?_;cases t319
    ·replace H:=zB0 H;revert H;refine zM fun t320 A49 H=>?_;obtain rfl:=Option.some.inj H;obtain⟨_,_,_,_,_,_⟩:=zF3 BK314;go_wp2_with (first|(refine zcg (f:=52) rfl Tryz.func52 (impl_Section.calls k2 _ _ l0_0 () false _ (zCb HR0_0 HB) HC0_0.out A45.out) (fun w51 hb=>?_);replace BK314:=zk BK314 hb;replace HB:=zt w hb;clear hb;obtain⟨_,_,_,_,_,_⟩:=zF3 BK314)|(go_at_call 55;(with_reducible refine(impl_ENode.calls k2 _ _ l0_2 () t320 _ (zCb HR0_2 HB) HC0_2.out A49.out).mono ?_);rintro e w53 ⟨rfl,hb⟩;replace BK314:=zk BK314 hb;replace HB:=zt w hb;(try clear hb);(try clear hb2);(try clear hk);(try clear hi)));go_ret;exact⟨ze _,zb _⟩
    replace H:=zB1 H;obtain rfl:=Option.some.inj H;obtain⟨_,_,_,_,_,_⟩:=zF3 BK314;go_wp2_with (first|(refine zcg (f:=52) rfl Tryz.func52 (impl_Section.calls k2 _ _ l0_0 () true _ (zCb HR0_0 HB) HC0_0.out A45.out) (fun w48 hb=>?_);replace BK314:=zk BK314 hb;replace HB:=zt w hb;clear hb));go_ret;exact⟨ze _,zb _⟩
  replace H:=zB1 H;obtain rfl:=Option.some.inj H;go_wp2;go_ret;exact⟨ze _,zb _⟩
end Go.Proofs.YtlacpadpdfccmaaGreatDoor.PFnExactReadObject
namespace Go.Proofs.YtlacpadpdfccmaaGreatDoor.PFnExactReadObject
open Go.RowKit Go.Proofs.YtlacpadpdfccmaaGreatDoor.Z Go.Proofs.YtlacpadpdfccmaaGreatDoorW.PrintWords Go.Proofs.YtlacpadpdfccmaaGreatDoorW.PrintLast Go.Proofs.YtlacpadpdfccmaaGreatDoorW.PrintMore
attribute [local go_sem] max2_int min2_int max_two min_two max_three min_three max_four min_four
set_option linter.unusedVariables false
set_option linter.unusedSimpArgs false
def strings_Join.f(l0:List ByteArray)(a1:ByteArray):Option ByteArray:=if l0.length<=140737488355328 then(if(Go.Lib.join (l0.map (·.data.toList)) a1.data.toList).length<=140737488355328 then some ⟨(Go.Lib.join (l0.map (·.data.toList)) a1.data.toList).toArray⟩else none)else none
theorem strings_Join.plain{w:World}{ad:Addr}{v:Value}(h:w.cell? ad=some v):ad=⟨ad.block,ad.off,none⟩/\ad.block<w.heap.size:=by
 unfold World.cell? at h;split at h
 ·rename_i hb
  obtain⟨b,o,s⟩:=ad
  cases s with
  |none=>
   refine⟨rfl,?_⟩;rcases Nat.lt_or_ge b w.heap.size with hlt|hge
   ·exact hlt
   ·rw[Array.getElem?_eq_none hge]at hb;cases hb
  |some q=>simp at h
 ·cases h
theorem strings_Join.calls(A0:Option Addr)(c0:Nat)(l0:List ByteArray)(a1:ByteArray)(r:ByteArray)(w:World)(hr0:Kd.C Kd.string w A0 l0.length l0)(hc0:l0.length<=c0)(h:strings_Join.f l0 a1=some r) :
 Calls Tryz.prog 75 #[.slice A0 l0.length c0,.string a1] w fun e w'=>e = .returned (.string r)/\Below w.heap.size w w':=by
 unfold strings_Join.f at h;by_cases h0:l0.length<=140737488355328
 ·by_cases h1:(Go.Lib.join (l0.map (·.data.toList)) a1.data.toList).length<=140737488355328
  ·rw[if_pos h0,if_pos h1]at h;obtain rfl:=Option.some.inj h;by_cases hz:l0=[]
   ·subst hz;refine(Tryz.strings_Join_none A0 c0 a1 w).mono ?_;rintro e w' ⟨rfl,rfl⟩;exact⟨rfl,Below.refl _ _⟩
   have hlen:0<l0.length:=List.length_pos_iff.2 hz;obtain⟨ad,rfl,hcell⟩:=hr0.2.2 hlen
   have hcells:∀(j:Nat) x,l0[j]?=some x->w.cell? (ad.add j)=some (.string x):=by
    intro j x hj;obtain⟨c,_,hc,hu⟩:=hcell j x hj;have hc':c=[Value.string x]:=hc;have:=hu 0 (.string x) (by rw[hc'];rfl);rw[show(Kd.string).sz=1 from rfl,Nat.mul_one,Nat.add_zero]at this;exact this
   have hz0:=hcells 0 (l0[0]) (List.getElem?_eq_getElem hlen);(have hz1:w.cell? ad=some (.string (l0[0])):=by simpa[Addr.add]using hz0);obtain⟨had,hblk⟩:=strings_Join.plain hz1
   have hcells':∀(j:Nat) x,l0[j]?=some x->w.cell? ⟨ad.block,ad.off+j,none⟩=some (.string x):=by
    intro j x hj;have:=hcells j x hj;unfold Addr.add at this;split at this
    ·rename_i hj0
     subst hj0;rw[had]at this;exact this
    ·exact this
   rw[had];exact Tryz.strings_Join ad.block ad.off c0 l0 a1 w hcells' hblk h0 hc0 h1
  rw[if_pos h0,if_neg h1]at h;cases h
 rw[if_neg h0]at h;cases h
def impl_spaced.f(l0:List ByteArray):Option (ByteArray):=(strings_Join.f l0 (⟨#[32]⟩:ByteArray)).bind fun t321=>(if t321.size+1<=9223372036854775807 then(some (t321++(⟨#[10]⟩:ByteArray)))else(none))
set_option maxHeartbeats 8000000 in
set_option maxRecDepth 100000 in
theorem impl_spaced.calls(A0:Option Addr)(c0:Nat)(l0:List ByteArray)(r:ByteArray)(w:World)(hr0:Kd.C Kd.string w A0 l0.length l0)(hc0:l0.length<=c0)(h:impl_spaced.f l0=some r) :
 Calls Tryz.prog 59 #[.slice A0 l0.length c0] w fun e w'=>e = .returned (.string r)/\Below w.heap.size w w':=by
 have HR0:=Aside0.mk hr0;have HC0:=Aside0.mk hc0;clear hr0 hc0;have HB:=Aside0.mk (Below.refl w.heap.size w);have H:((strings_Join.f l0 (⟨#[32]⟩:ByteArray)).bind fun t321=>(if t321.size+1<=9223372036854775807 then(some (t321++(⟨#[10]⟩:ByteArray)))else(none)))=some r:=h;clear h;revert H;refine zM fun t321 A2 H=>?_;revert H;refine zLjk fun _ _ _ _ H=>?_;obtain rfl:=Option.some.inj H;go_enter Tryz.func59,Tryz.ntmps59;go_wp2_with (first|((with_reducible refine gate_callee (f:=75) rfl ?_);refine zc (some 4) Tryz.func75 #[.slice A0 l0.length c0,.string (⟨#[32]⟩:ByteArray)] ?_;(with_reducible refine(strings_Join.calls _ _ l0 (⟨#[32]⟩:ByteArray) t321 _ ?side1 HC0.out A2.out).mono ?_);(case side1=>repeat(first|exact HR0.out|(with_reducible refine Kd.C_alloc ?_ _)|(with_reducible refine Kd.C_drewN ?_ _)|(with_reducible refine Kd.C_drew ?_)));rintro e w4 ⟨rfl,hb⟩;refine⟨_,rfl,?_⟩;replace HB:=zt w hb;(try clear hb);(try clear hb2);(try clear hk);(try clear hi)));go_ret;exact⟨ze _,zb _⟩
open Go.Proofs.YtlacpadpdfccmaaGreatDoor.Aid
def strconv_FormatInt.f(a0 a1:Int):Option ByteArray:=if a1=10 then(if -9223372036854775808<=a0 then(if a0<=9223372036854775807 then some ⟨(Go.Lib.itoa a0).toArray⟩else none)else none)else if a1=16 then(if 0<=a0 then(if a0<65536 then some ⟨(hexLow a0.toNat).toArray⟩else none)else none)else none
open Go.Lib in
set_option maxRecDepth 100000 in
theorem strconv_FormatInt.tz64(w:World)(hG:GW w):Calls Tryz.prog 181 #[.int .u64 16] w fun e w'=>e = .returned (.int .i64 4)/\Drawn0 w w':=by
 have e15:IntKind.u64.wrap (bits BinOp.and IntKind.u64 16 (IntKind.u64.wrap (-16))*285870213051353865) / 288230376151711744=15:=by decide
 have hc:w.cell? ⟨8,(IntKind.u64.wrap (bits BinOp.and IntKind.u64 16 (IntKind.u64.wrap (-16))*285870213051353865) / 288230376151711744).toNat,none⟩=some (.int .u8 4):=by
  rw[e15];exact TabIs.cell hG.db64 (g:=8) (by kernel_rfl) 15 (by decide)
 have hb:0<=IntKind.u64.wrap (bits BinOp.and IntKind.u64 16 (IntKind.u64.wrap (-16))*285870213051353865) / 288230376151711744/\IntKind.u64.wrap (bits BinOp.and IntKind.u64 16 (IntKind.u64.wrap (-16))*285870213051353865) / 288230376151711744<64:=by
  rw[e15];decide
 clear e15;go_enter Tryz.func181,Tryz.ntmps181;go_wp2;go_ret;exact⟨rfl,Drawn0.refl _⟩
set_option maxRecDepth 100000 in
theorem strconv_FormatInt.pow2(w:World):Calls Tryz.prog 167 #[.int .i64 16] w fun e w'=>e = .returned (.bool true)/\Drawn0 w w':=by
 go_enter Tryz.func167,Tryz.ntmps167;go_wp2;rw[show bits BinOp.and IntKind.i64 16 15=0 from by decide];go_ret;exact⟨rfl,Drawn0.refl _⟩
set_option maxRecDepth 100000 in
theorem strconv_FormatInt.tz(w:World)(hG:GW w):Calls Tryz.prog 168 #[.int .u64 16] w fun e w'=>e = .returned (.int .i64 4)/\Drawn0 w w':=by
 go_enter Tryz.func168,Tryz.ntmps168;go_wp2_with (go_at_call 181;refine(strconv_FormatInt.tz64 _ hG).mono ?_;rintro e w' ⟨rfl,⟨m,rfl⟩⟩);go_ret;exact⟨rfl,⟨m,rfl⟩⟩
def strconv_FormatInt.hexDigits:ByteArray:=⟨#[48,49,50,51,52,53,54,55,56,57,97,98,99,100,101,102,103,104,105,106,107,108,109,110,111,112,113,114,115,116,117,118,119,120,121,122]⟩
theorem strconv_FormatInt.hexDigits_at:∀(r:Nat) (h:r<16),strconv_FormatInt.hexDigits[r]'(Nat.lt_of_lt_of_le h (by decide))=hexB r:=by decide
theorem strconv_FormatInt.hex_at(r:Nat)(h:r<16)(w:World):(Instr.index 9 (.string strconv_FormatInt.hexDigits) (.int .u64 (r:Int))).run Tryz.prog w = .ok (.int .u8 ((hexB r).toNat:Int)) w:=by
 rw[run_index_string w 9 strconv_FormatInt.hexDigits .u64 _ Tryz.underlying9,dif_pos ⟨by omega,by rw[show strconv_FormatInt.hexDigits.size=36 from rfl];omega⟩];(have e:((r:Int)).toNat=r:=by omega);simp only[e];rw[strconv_FormatInt.hexDigits_at r h]
def strconv_FormatInt.HexInv(n j:Nat)(C:Array Value):Prop:=C.size=65/\(∀ t,t<j->C[64 - t]?=some (.int .u8 ((hexB (n / 16 ^ t%16)).toNat:Int)))/\(16 ^ j<=n\/j=0)
theorem strconv_FormatInt.hexLow_of(n j:Nat)(hn:n<65536)(hj:j<=3)(h0:16 ^ j<=n\/j=0)(h1:n / 16 ^ j<16):(List.range (j+1)).map (fun t=>hexB (n / 16 ^ (j - t)%16))=hexLow n:=by
 unfold hexLow;(have h4:j=0\/j=1\/j=2\/j=3:=by omega);rcases h4 with rfl|rfl|rfl|rfl
 ·rw[if_pos (by omega)];simp[List.range_succ_eq_map];congr 1;omega
 ·rw[if_neg (by omega),if_pos (by omega)];simp[List.range_succ_eq_map];congr 1;omega
 ·rw[if_neg (by omega),if_neg (by omega),if_pos (by omega)];simp[List.range_succ_eq_map];congr 1;omega
 ·rw[if_neg (by omega),if_neg (by omega),if_neg (by omega)];simp[List.range_succ_eq_map];congr 1;omega
theorem strconv_FormatInt.add_plain_at(g q i:Nat):(⟨g,q,none⟩:Addr).add i=⟨g,q+i,none⟩:=by unfold Addr.add;split <;> simp_all
theorem strconv_FormatInt.below_own{w wr:World}{g:Nat}{v:Value}(h:Below w.heap.size w wr)(hg:w.heap.size<=g)(q:Nat):Below w.heap.size w (wr.setCell ⟨g,q,none⟩ v):=h.setCell hg _
set_option maxRecDepth 100000 in
theorem strconv_FormatInt.hexSlice(g q:Nat)(hq:q<=64)(hq0:0<q)(W:World):(Instr.sliceAt 194 (.pointer (some ⟨g,0,none⟩)) (some (.int .i64 (q:Int))) none none).run Tryz.prog W = .ok (.slice (some ⟨g,q,none⟩) (65 - q) (65 - q)) W:=by
 rw[run_sliceAt_array_l W 194 ⟨g,0,none⟩ (by kernel_rfl) .i64 q (by omega) (by rw[show Tryz.prog.arrayLen 194=65 by kernel_rfl];omega),show Tryz.prog.arrayLen 194=65 by kernel_rfl,show Tryz.prog.elem 194=5 by kernel_rfl];(have hs:(sizeOf 5).run Tryz.prog W = .ok 1 W:=by go_simp);rw[hs];simp only[Result.andThen,slicedAt,Int.toNat_natCast];rw[if_neg (by omega),add_plain,Nat.mul_one]
set_option maxRecDepth 100000 in
set_option maxHeartbeats 4000000 in
theorem strconv_FormatInt.fb(n:Nat)(hn:n<65536)(w:World)(hG:GW w):Calls Tryz.prog 145 #[.slice none 0 0,.int .u64 n,.int .i64 16,.bool false,.bool false] w fun e w'=>e = .returned (.tuple #[.slice none 0 0,.string ⟨(hexLow n).toArray⟩])/\Below w.heap.size w w':=by
 have HG:=Aside0.mk hG;clear hG;have HN:=Aside0.mk hn;clear hn;go_enter Tryz.func145,Tryz.ntmps145;go_wp2_with (first|(go_at_call 167;refine(strconv_FormatInt.pow2 _).mono ?_;rintro e w' ⟨rfl,⟨m,rfl⟩⟩)|(go_at_call 168;refine(strconv_FormatInt.tz _ ?_).mono ?_;(exact HG.out.alloc _ |>.drewN _);rintro e w' ⟨rfl,⟨m2,rfl⟩⟩));go_loopg [1,13] 4 (fun gg s1 s13 wr=>∃(j q:Nat) (C:Array Value),j<=3/\4 - j<=gg/\s1 = .int .u64 ((n / 16 ^ j:Nat):Int)/\s13 = .int .i64 ((q:Int)+1)/\Aside0 (q+1+j=65)/\Aside0 (strconv_FormatInt.HexInv n j C)/\Aside0 (wr.heap[w.heap.size]?=some (.cells C 194 (0,0)))/\Aside0 (Below w.heap.size w wr))
 case atStart=>
  refine⟨0,64,Tryz.zeroCells194,by omega,by omega,by simp,rfl,⟨rfl⟩,⟨⟨by decide +kernel,fun t ht=>by omega,.inr rfl⟩⟩,⟨?_⟩,⟨pw_below_drewN (below_alloc (Below.refl _ _) _) _⟩⟩;show(w.heap.push _)[w.heap.size]?=_;rw[Array.getElem?_push_size]
 case round=>
  obtain⟨j,q,C,hj,hg,rfl,rfl,HQ,HI,HC,HB⟩:=hrel
  rename_i wr_
  rename World=>wr;(have hq:(q:Int)<65:=by have:=HQ.out;omega);obtain⟨v,hv⟩:∃ v,v=n / 16 ^ j:=⟨_,rfl⟩;have hcq:∃ c0,C[q]?=some c0:=⟨C[q]'(by rw[HI.out.1];omega),Array.getElem?_eq_getElem _⟩;obtain⟨c0,hc0⟩:=hcq
  have hcell:wr.cell? ⟨w.heap.size,q,none⟩=some c0:=by
   simp only[World.cell?,HC.out];exact hc0
  have hfro:wr.frozen? ⟨w.heap.size,q,none⟩=false:=by
   simp[World.frozen?,HC.out]
  have hr:bits BinOp.and IntKind.u64 (v:Int) 15=((v%16:Nat):Int):=by
   (have hb:v<65536:=by rw[hv];exact Nat.lt_of_le_of_lt (Nat.div_le_self _ _) HN.out);have h:=bits_mask .u64 64 (by decide) (fun n h0 h1=>by rw[IntKind.wrap_u64];omega) 4 (by decide) (v:Int) (by omega) (by omega);rw[show(2:Int) ^ 4 - 1=15 from rfl,show(2:Int) ^ 4=16 from rfl]at h;rw[h];omega
  have hX:∀ w,(Instr.index 9 (.string ⟨#[48,49,50,51,52,53,54,55,56,57,97,98,99,100,101,102,103,104,105,106,107,108,109,110,111,112,113,114,115,116,117,118,119,120,121,122]⟩) (.int .u64 ((v%16:Nat):Int))).run Tryz.prog w = .ok (.int .u8 ((hexB (v%16)).toNat:Int)) w:=strconv_FormatInt.hex_at (v%16) (by omega);rw[<-hv];(have hd:(hexB (v%16)).toNat=(hexB (n / 16 ^ j%16)).toNat:=by rw[hv]);have HV:=Aside0.mk hv;have HD:=Aside0.mk hd;clear hv hd hc0
  have hput:(wr.setCell ⟨w.heap.size,q,none⟩ (.int .u8 ((hexB (v%16)).toNat:Int))).heap[w.heap.size]?=some (.cells (C.setIfInBounds q (.int .u8 ((hexB (v%16)).toNat:Int))) 194 (0,0)):=by
   exact heap_setCell_same _ _ _ _ _ _ HC.out
  have HP:=Aside0.mk hput;clear hput;by_cases h16:(16:Int)<=(v:Int)
  ·generalize hrr:v%16=r at hr hX HP HD;have HRR:=Aside0.mk hrr;clear hrr;go_wp2;go_roundg (4 - (j+1));case measure=>omega
   case rel=>
    have hv16:16<=n / 16 ^ j:=by rw[<-HV.out];omega
    have hpow:16 ^ (j+1)<=n:=by
     rw[Nat.pow_succ,Nat.mul_comm];exact(Nat.le_div_iff_mul_le (Nat.pow_pos (by decide))).1 hv16
    have hj3:j+1<=3:=by
     rcases Nat.lt_or_ge j 3 with h|h
     ·exact h
     ·(have:j=3:=by omega);subst this;have:=HN.out;omega
    refine⟨j+1,q - 1,_,hj3,by omega,?_,?_,⟨by have:=HQ.out;omega⟩,⟨?_⟩,⟨HP.out⟩,⟨by repeat(first|exact strconv_FormatInt.below_own HB.out (Nat.le_refl _) _|apply pw_below_drewN|apply below_drew)⟩⟩
    ·show Value.int IntKind.u64 _=_;congr 1;rw[HV.out,Nat.pow_succ,<-Nat.div_div_eq_div_mul];omega
    ·show Value.int IntKind.i64 _=_;congr 1;have:=HQ.out;omega
    ·refine⟨by rw[Array.size_setIfInBounds];exact HI.out.1,fun t ht=>?_,.inl hpow⟩;have hq':=HQ.out;by_cases e:t=j
     ·subst e;rw[show 64 - t=q by omega,Array.getElem?_setIfInBounds_self_of_lt (by rw[HI.out.1];omega),HD.out]
     rw[Array.getElem?_setIfInBounds_ne (by omega)];exact HI.out.2.1 t (by omega)
  (have h15:v<16:=by omega);have hX2:∀ w,(Instr.index 9 (.string ⟨#[48,49,50,51,52,53,54,55,56,57,97,98,99,100,101,102,103,104,105,106,107,108,109,110,111,112,113,114,115,116,117,118,119,120,121,122]⟩) (.int .u64 (v:Int))).run Tryz.prog w = .ok (.int .u8 ((hexB v).toNat:Int)) w:=strconv_FormatInt.hex_at v h15;rw[Nat.mod_eq_of_lt h15]at HP HD;clear hX hr;have hSl:=strconv_FormatInt.hexSlice w.heap.size q (by have:=HQ.out;omega) (by have:=HQ.out;omega)
  have hback:=run_convert_bytes_back (P:=Tryz.prog) (wr.setCell ⟨w.heap.size,q,none⟩ (.int .u8 ((hexB v).toNat:Int))) 89 9 5 ⟨w.heap.size,q,none⟩ (65 - q) ((List.range (j+1)).map (fun t=>hexB (n / 16 ^ (j - t)%16))) Tryz.underlying89 Tryz.underlying5 Tryz.underlying9 (fun i hi=>by
   have hi':i<j+1:=by simpa using hi
   have hq':=HQ.out
   rw[strconv_FormatInt.add_plain_at]
   simp only[World.cell?,HP.out]
   by_cases e:i=0
   ·subst e
    rw[Nat.add_zero,Array.getElem?_setIfInBounds_self_of_lt (by rw[HI.out.1];omega)]
    simp only[List.getElem_map,List.getElem_range,Nat.sub_zero]
    rw[HD.out]
    rfl
   rw[Array.getElem?_setIfInBounds_ne (by omega),show q+i=64 - (j - i)by omega,HI.out.2.1 (j - i) (by omega)]
   simp only[List.getElem_map,List.getElem_range]
   rfl)
  rw[show((List.range (j+1)).map (fun t=>hexB (n / 16 ^ (j - t)%16))).length=65 - q by rw[List.length_map,List.length_range];have:=HQ.out;omega,strconv_FormatInt.hexLow_of n j HN.out hj HI.out.2.2 (by rw[<-HV.out];exact h15)]at hback;clear h15;go_wp2;go_ret2;exact⟨rfl,by repeat(first|exact strconv_FormatInt.below_own HB.out (Nat.le_refl _) _|apply pw_below_drewN|apply below_drew)⟩
set_option maxRecDepth 100000 in
set_option maxHeartbeats 4000000 in
theorem strconv_FormatInt.fi(n:Nat)(hn:n<65536)(w:World)(hG:GW w):Calls Tryz.prog 126 #[.int .i64 n,.int .i64 16] w fun e w'=>e = .returned (.string ⟨(hexLow n).toArray⟩)/\Below w.heap.size w w':=by
 have HG:=Aside0.mk hG;clear hG;have HN:=Aside0.mk hn;(have hw:IntKind.u64.wrap (n:Int)=(n:Int):=by rw[IntKind.wrap_u64];omega);(have hneg:¬ ((n:Int)<0):=by omega);clear hn;go_enter Tryz.func126,Tryz.ntmps126;go_wp2_with (go_at_call 145;refine(strconv_FormatInt.fb n HN.out _ ?_).mono ?_;(repeat(first|exact HG.out|apply GW.drewN|apply GW.drew));rintro e w' ⟨rfl,hb⟩);go_ret;exact⟨rfl,by repeat(first|exact below_step (by repeat(first|exact Below.refl _ _|apply pw_below_drewN|apply below_drew)) hb|exact hb|apply pw_below_drewN|apply below_drew)⟩
set_option maxRecDepth 100000 in
theorem strconv_FormatInt.hex(n:Nat)(hn:n<65536)(w:World)(hG:GW w) :
    Calls Tryz.prog 103 #[.int .i64 n,.int .i64 16] w fun e w'=>e = .returned (.string ⟨(hexLow n).toArray⟩)/\Below w.heap.size w w':=by
 have HG:=Aside0.mk hG;clear hG;have HN:=Aside0.mk hn;clear hn;go_enter Tryz.func103,Tryz.ntmps103;go_wp2_with (go_at_call 126;refine(strconv_FormatInt.fi n HN.out _ ?_).mono ?_;(repeat(first|exact HG.out|apply GW.drewN|apply GW.drew));rintro e w' ⟨rfl,hb⟩);go_ret;exact⟨rfl,by repeat(first|exact below_step (by repeat(first|exact Below.refl _ _|apply pw_below_drewN|apply below_drew)) hb|exact hb|apply pw_below_drewN|apply below_drew)⟩
theorem strconv_FormatInt.calls(a0 a1:Int)(r:ByteArray)(w:World)(hG:GW w)(h:strconv_FormatInt.f a0 a1=some r) :
 Calls Tryz.prog 103 #[.int .i64 a0,.int .i64 a1] w fun e w'=>e = .returned (.string r)/\Below w.heap.size w w':=by
 unfold strconv_FormatInt.f at h;by_cases h0:a1=10
 ·by_cases h1:-9223372036854775808<=a0
  ·by_cases h2:a0<=9223372036854775807
   ·rw[if_pos h0,if_pos h1,if_pos h2]at h;obtain rfl:=Option.some.inj h;subst h0;refine(Tryz.strconv_FormatInt_10 a0 h1 h2 w hG.pow10).mono ?_;rintro e w' ⟨rfl,k,os,rfl⟩;exact⟨rfl,below_grow w k os⟩
   rw[if_pos h0,if_pos h1,if_neg h2]at h;cases h
  rw[if_pos h0,if_neg h1]at h;cases h
 by_cases h3:a1=16
 ·by_cases h1:0<=a0
  ·by_cases h2:a0<65536
   ·rw[if_neg h0,if_pos h3,if_pos h1,if_pos h2]at h;obtain rfl:=Option.some.inj h;subst h3;obtain⟨n,rfl⟩:∃ n:Nat,a0=(n:Int):=⟨a0.toNat,by omega⟩;exact strconv_FormatInt.hex n (by omega) w hG
   rw[if_neg h0,if_pos h3,if_pos h1,if_neg h2]at h;cases h
  rw[if_neg h0,if_pos h3,if_neg h1]at h;cases h
 rw[if_neg h0,if_neg h3]at h;cases h
def impl_decimal.f(a0:Int):Option (ByteArray):=(strconv_FormatInt.f a0 10).bind fun t322=>(some t322)
set_option maxHeartbeats 8000000 in
set_option maxRecDepth 100000 in
theorem impl_decimal.calls(a0:Int)(r:ByteArray)(w:World)(hG:GW w)(h:impl_decimal.f a0=some r) :
 Calls Tryz.prog 60 #[.int .i64 a0] w fun e w'=>e = .returned (.string r)/\Below w.heap.size w w':=by
 have HB:=Aside0.mk (Below.refl w.heap.size w);have HG:=Aside0.mk hG;clear hG;have H:((strconv_FormatInt.f a0 10).bind fun t322=>(some t322))=some r:=h;clear h;revert H;refine zM fun t322 A2 H=>?_;obtain rfl:=Option.some.inj H;go_enter Tryz.func60,Tryz.ntmps60;go_wp2_with (first|(refine zcg (f:=103) rfl Tryz.func103 (strconv_FormatInt.calls a0 10 t322 _ (GW.below HG.out (zb _)) A2.out) (fun w3 hb=>?_);replace HB:=zt w hb;clear hb));go_ret;exact⟨ze _,zb _⟩
def strings_ToUpper.f(a0:ByteArray):Option ByteArray:=if a0.size<=140737488355328 then(if(a0.data.toList.all fun b=>decide (b.toNat<128))=true then some ⟨(Go.Lib.toUpperA a0.data.toList).toArray⟩else none)else none
theorem strings_ToUpper.calls(a0:ByteArray)(r:ByteArray)(w:World)(h:strings_ToUpper.f a0=some r) :
 Calls Tryz.prog 127 #[.string a0] w fun e w'=>e = .returned (.string r)/\Below w.heap.size w w':=by
 unfold strings_ToUpper.f at h;by_cases h0:a0.size<=140737488355328
 ·by_cases h1:(a0.data.toList.all fun b=>decide (b.toNat<128))=true
  ·rw[if_pos h0,if_pos h1]at h;obtain rfl:=Option.some.inj h;exact Tryz.strings_ToUpper_ascii a0 w h0 (fun j b hb=>of_decide_eq_true (List.all_eq_true.1 h1 b (List.mem_of_getElem? hb)))
  rw[if_pos h0,if_neg h1]at h;cases h
 rw[if_neg h0]at h;cases h
def impl_hexDigits.f(a0:Int)(a1:Int):Option (ByteArray):=(strconv_FormatInt.f a0 16).bind fun t323=>((strings_ToUpper.f t323).bind fun t324=>((strings_Repeat.f (⟨#[48]⟩:ByteArray) (mx 0 (wrap64 (a1 - (t324.size:Int))))).bind fun t325=>(if t325.size+t324.size<=9223372036854775807 then(some (t325++t324))else(none))))
set_option maxHeartbeats 8000000 in
set_option maxRecDepth 100000 in
theorem impl_hexDigits.calls(a0:Int)(a1:Int)(r:ByteArray)(w:World)(hG:GW w)(h:impl_hexDigits.f a0 a1=some r) :
 Calls Tryz.prog 104 #[.int .i64 a0,.int .i64 a1] w fun e w'=>e = .returned (.string r)/\Below w.heap.size w w':=by
 have HB:=Aside0.mk (Below.refl w.heap.size w);have HG:=Aside0.mk hG;clear hG;have H:((strconv_FormatInt.f a0 16).bind fun t323=>((strings_ToUpper.f t323).bind fun t324=>((strings_Repeat.f (⟨#[48]⟩:ByteArray) (mx 0 (wrap64 (a1 - (t324.size:Int))))).bind fun t325=>(if t325.size+t324.size<=9223372036854775807 then(some (t325++t324))else(none)))))=some r:=h;clear h;revert H;refine zM fun t323 A3 H=>?_;revert H;refine zM fun t324 A4 H=>?_;obtain⟨ji5,hji5⟩:∃ j_:Int,(mx 0 (wrap64 (a1 - (t324.size:Int))))=j_:=⟨_,rfl⟩;(replace H:((strings_Repeat.f (⟨#[48]⟩:ByteArray) (ji5)).bind fun t325=>(if t325.size+t324.size<=9223372036854775807 then(some (t325++t324))else(none)))=some r:=by first|(rw[hji5]at H;exact H)|(simp only[hji5]at H ⊢;exact H));(try rw[hji5]at A3);(try rw[hji5]at A4);(try(have hji5l:0<=ji5:=by(rw[<-hji5];unfold mx;(repeat' split) <;> omega)));(try(have hji5m:0<=ji5:=by omega));have hji5_:(if 0<(wrap64 (a1 - (t324.size:Int)))then(wrap64 (a1 - (t324.size:Int)))else 0)=ji5:=hji5;revert H;refine zM fun t325 A6 H=>?_;revert H;refine zLjk fun _ _ _ _ H=>?_;obtain rfl:=Option.some.inj H;go_enter Tryz.func104,Tryz.ntmps104;go_wp2_with (first|(refine zcg (f:=103) rfl Tryz.func103 (strconv_FormatInt.calls a0 16 t323 _ (GW.below HG.out (zb _)) A3.out) (fun w8 hb=>?_);replace HB:=zt w hb;clear hb)|(refine zcg (f:=127) rfl Tryz.func127 (strings_ToUpper.calls t323 t324 _ A4.out) (fun w9 hb=>?_);replace HB:=zt w hb;clear hb)|(refine zcg (f:=122) rfl Tryz.func122 (strings_Repeat.calls (⟨#[48]⟩:ByteArray) ji5 t325 _ A6.out) (fun w10 hb=>?_) (hargs:=by(try simp only[List.map_toArray,List.map_cons,List.map_nil]);first|done|(simp only[hji5];rfl)|rfl|(simp only[List.length_drop,List.length_take];rfl));replace HB:=zt w hb;clear hb));go_ret;exact⟨by first|rfl|(simp[errW_none,errW_some] <;> rfl)|(simp only[<-hji5];first|rfl|(simp[errW_none,errW_some] <;> rfl))|(simp[*,errW_none,errW_some] <;> rfl),zb _⟩
theorem impl_hexText.sizeB:Option.map (fun x=>x.size) (Tryz.prog.info? 91)=some 2:=Tryz.Builder_Extra_156.sizeBuilder
set_option maxHeartbeats 1000000 in
set_option maxRecDepth 100000 in
theorem impl_hexText.ccUsed(b:Nat)(w:World)(h0:w.cell? ⟨b,0,none⟩=some (.pointer (some ⟨b,0,none⟩))) :
    Calls Tryz.prog 102 #[.pointer (some ⟨b,0,none⟩)] w fun e w'=>e = .returned (.tuple #[])/\w'=w:=by
 obtain⟨j,hj,_⟩:=Option.map_eq_some_iff.1 impl_hexText.sizeB;go_enter Tryz.func102,Tryz.ntmps102;go_wp2;rw[Go.Lib.run_neq_ptr_same w _ Tryz.underlying88 hj];go_wp2;go_end0;exact⟨rfl,rfl⟩
set_option maxHeartbeats 1000000 in
set_option maxRecDepth 100000 in
theorem impl_hexText.ccFresh(b:Nat)(w:World)(h0:w.cell? ⟨b,0,none⟩=some (.pointer none))(hsh:w.shape? b=some (91,2))(hfz:w.frozen? ⟨b,0,none⟩=false) :
    Calls Tryz.prog 102 #[.pointer (some ⟨b,0,none⟩)] w fun e w'=>e = .returned (.tuple #[])/\w'=w.setCell ⟨b,0,none⟩ (.pointer (some ⟨b,0,none⟩)):=by
 obtain⟨j,hj,hjs⟩:=Option.map_eq_some_iff.1 impl_hexText.sizeB;go_enter Tryz.func102,Tryz.ntmps102;go_wp2;rw[Go.Lib.run_to_unsafe w ⟨b,0,none⟩ Tryz.underlying88 Tryz.underlying155 hj (by rw[hjs];decide) hsh (Nat.zero_lt_succ 1)];simp only[Result.andThen];rw[Oper.upon_value];go_wp2;rw[run_callFunc_extern Tryz.func125 (by kernel_rfl) (by kernel_rfl) (by kernel_rfl) (e:=Extern.AbiNoEscape.same) (by kernel_rfl)];rw[Go.Lib.run_noEscape];simp only[Result.andThen];rw[Oper.upon_value];go_wp2;rw[Go.Lib.run_from_unsafe w ⟨b,0,none⟩ Tryz.underlying155 Tryz.underlying88 hj hsh Tryz.Builder_Extra_156.liesBuilder];simp only[Result.andThen];rw[Oper.upon_value];go_wp2;go_end0;exact⟨rfl,rfl⟩
def impl_hexText.B2(base b:Nat)(bs:List Value)(w:World):Prop:=∃ p v,(p = .pointer none\/p = .pointer (some ⟨b,0,none⟩))/\w.heap[b]?=some (.cells #[p,v] 91 (0,0))/\w.ownsRow base 5 1 v bs.length bs/\v.ownBlock≠some b
def impl_hexText.Kb(base b:Nat)(w w':World):Prop:=(∀ k,k<base->k≠b->w'.heap[k]?=w.heap[k]?)/\w.heap.size<=w'.heap.size/\∀ B,B<=b->B<=base->Below B w w'
theorem impl_hexText.Kb.step{base b:Nat}{w w1 w2:World}(h:impl_hexText.Kb base b w w1)(h':impl_hexText.Kb base b w1 w2):impl_hexText.Kb base b w w2:=
  ⟨fun k hk hb=>(h'.1 k hk hb).trans (h.1 k hk hb),Nat.le_trans h.2.1 h'.2.1,fun B h1 h2=>(h.2.2 B h1 h2).trans (h'.2.2 B h1 h2)⟩
theorem impl_hexText.Kb.below{base b:Nat}{w w1:World}(hb:base<=w.heap.size)(h:Below w.heap.size w w1):impl_hexText.Kb base b w w1:=
  ⟨fun k hk _=>h.block k (by omega),h.size,fun B h1 h2=>h.mono (by omega)⟩
theorem impl_hexText.B2.below{base b:Nat}{bs:List Value}{w w1:World}(h:impl_hexText.B2 base b bs w)(hb:Below w.heap.size w w1):impl_hexText.B2 base b bs w1:=by
 obtain⟨p,v,h1,h2,h3,h4⟩:=h;have hlt:b<w.heap.size:=(Array.getElem?_eq_some_iff.1 h2).1;exact⟨p,v,h1,(hb.block b hlt).trans h2,own_move h3 (fun k hk=>hb.block k (own_lt h3 k hk)),h4⟩
theorem impl_hexText.B2.is{base b:Nat}{bs:List Value}{w:World}(h:impl_hexText.B2 base b bs w)(hb:b<=base):Go.Lib.IsBuilder 91 5 b b bs w:=by
 obtain⟨p,v,h1,h2,h3,h4⟩:=h
 have h3':w.ownsRow b 5 1 v bs.length bs:=by
  obtain⟨q1,q2⟩:=h3;refine⟨q1,?_⟩;rcases q2 with q2|⟨g,cap,cur,r1,r2,r3⟩
  ·exact .inl q2
  ·exact .inr ⟨g,cap,cur,r1,by omega,r3⟩
 rcases h1 with rfl|rfl
 ·exact .inl ⟨Nat.le_refl _,v,h2,h3',h4⟩
 ·exact .inr ⟨Nat.le_refl _,v,h2,h3',h4⟩
theorem impl_hexText.setKb(base b:Nat)(w:World)(i:Nat)(v:Value)(hb:b<w.heap.size):impl_hexText.Kb base b w (w.setCell ⟨b,i,none⟩ v):=by
 refine⟨fun k _ hk=>?_,by simp[World.setCell],fun B h1 _=>(Below.refl B w).setCell (p:=⟨b,i,none⟩) h1 _⟩;simp only[World.setCell,Array.getElem?_modify];rw[if_neg (fun e=>hk e.symm)]
theorem impl_hexText.cc2(base b:Nat)(bs:List Value)(w:World)(h:impl_hexText.B2 base b bs w) :
    Calls Tryz.prog 102 #[.pointer (some ⟨b,0,none⟩)] w fun e w'=>e = .returned (.tuple #[])/\((∃ v,w'.heap[b]?=some (.cells #[.pointer (some ⟨b,0,none⟩),v] 91 (0,0))/\w'.ownsRow base 5 1 v bs.length bs/\v.ownBlock≠some b)/\impl_hexText.Kb base b w w'):=by
 obtain⟨p,v,h1,h2,h3,h4⟩:=h;have hlt:b<w.heap.size:=(Array.getElem?_eq_some_iff.1 h2).1;rcases h1 with rfl|rfl
 ·refine(impl_hexText.ccFresh b w (by rw[Go.Lib.cell_of_heap h2];rfl) (by simp[World.shape?,h2]) (Go.Lib.frozen_of_heap h2 0)).mono ?_;rintro e w' ⟨rfl,rfl⟩;refine⟨rfl,⟨v,?_,own_move h3 (fun k hk=>?_),h4⟩,impl_hexText.setKb base b w 0 _ hlt⟩
  ·simp[World.setCell,Array.getElem?_modify,h2]
  ·have hkb:k≠b:=fun e=>h4 (by rw[hk,e]);simp only[World.setCell,Array.getElem?_modify];rw[if_neg (fun e=>hkb e.symm)]
 ·refine(impl_hexText.ccUsed b w (by rw[Go.Lib.cell_of_heap h2];rfl)).mono ?_;rintro e w' ⟨rfl,rfl⟩;exact⟨rfl,⟨v,h2,h3,h4⟩,fun _ _ _=>rfl,Nat.le_refl _,fun B _ _=>Below.refl B _⟩
set_option maxHeartbeats 2000000 in
set_option maxRecDepth 100000 in
theorem impl_hexText.write2(base b:Nat)(acc s:ByteArray)(w:World)(h:impl_hexText.B2 base b (Go.Lib.byteCells acc.data.toList) w)(hlen:acc.size+s.size<=140737488355328)(hBw:base<=w.heap.size) :
    Calls Tryz.prog 58 #[.pointer (some ⟨b,0,none⟩),.string s] w fun e w'=>e = .returned (.tuple #[.int .i64 s.size,.nilIface])/\impl_hexText.B2 base b (Go.Lib.byteCells (acc++s).data.toList) w'/\impl_hexText.Kb base b w w':=by
 obtain⟨i0,hi,hz0,hz1,hz2⟩:=info_parts Tryz.Builder_Extra_156.infoByte
 have hl:(Go.Lib.byteCells acc.data.toList).length=acc.size:=by
  rw[Go.Lib.byteCells_length,Array.length_toList];rfl
 have hcat:Go.Lib.byteCells acc.data.toList++Go.Lib.strCells s=Go.Lib.byteCells (acc++s).data.toList:=by
  rw[Go.Lib.strCells_eq,<-Go.Lib.byteCells_append,ByteArray.data_append,Array.toList_append]
 have HCAT:=Aside0.mk hcat;have HLL:=Aside0.mk hl;clear hcat;generalize Go.Lib.byteCells acc.data.toList=bs at h hl HCAT HLL;rw[<-hl]at hlen;clear hl;go_enter Tryz.func58,Tryz.ntmps58;go_wp2_with (go_at_call 102;refine(impl_hexText.cc2 base b bs _ h).mono ?_);rintro e w1 ⟨rfl,⟨v,hbk,hown,hne⟩,hk1⟩;have HK1:=Aside0.mk hk1;have hsz1:w.heap.size<=w1.heap.size:=hk1.2.1;clear hk1;(have c0:w1.cell? ⟨b,0,none⟩=some (.pointer (some ⟨b,0,none⟩)):=by rw[Go.Lib.cell_of_heap hbk];rfl);(have c1:w1.cell? ⟨b,1,none⟩=some v:=by rw[Go.Lib.cell_of_heap hbk];rfl);go_wp2_with (at_builtin;refine Go.Lib.wpList_append_own_string _ rfl _ _ 89 9 rfl base 5 i0 Tryz.underlying89 Tryz.underlying9 hi hz0 hz1 hz2 _ _ _ rfl hown s rfl ?c3 ?c4 ?c5 ?_);(case c3=>unfold maxLen;omega);(case c4=>omega);(case c5=>omega);intro v' w2 hown' hgrow _;have hlt:b<w1.heap.size:=(Array.getElem?_eq_some_iff.1 hbk).1
 have hb2:w2.heap[b]?=some (.cells #[.pointer (some ⟨b,0,none⟩),v] 91 (0,0)):=by
  rw[hgrow.block b hlt (fun e=>hne e.symm)];exact hbk
 (have d0:w2.cell? ⟨b,0,none⟩=some (.pointer (some ⟨b,0,none⟩)):=by rw[Go.Lib.cell_of_heap hb2];rfl);(have d1:w2.cell? ⟨b,1,none⟩=some v:=by rw[Go.Lib.cell_of_heap hb2];rfl);have f1:w2.frozen? ⟨b,1,none⟩=false:=Go.Lib.frozen_of_heap hb2 1
 obtain⟨ao,n',cap,rfl⟩:∃ ao n' cap,v' = .slice ao n' cap:=by
  rcases hown'.2 with⟨hv,_⟩|⟨g,cap,cur,hv,_⟩
  ·exact⟨_,_,_,hv⟩
  ·exact⟨_,_,_,hv⟩
 go_wp2;go_ret2;have hlt2:b<w2.heap.size:=(Array.getElem?_eq_some_iff.1 hb2).1;have hne':(Value.slice ao n' cap).ownBlock≠some b:=Go.Lib.ownBlock_ne hown' hb2 (by decide);refine⟨rfl,⟨.pointer (some ⟨b,0,none⟩),.slice ao n' cap,.inr rfl,?_,?_,hne'⟩,?_⟩
 ·simp[World.setCell,Array.getElem?_modify,hb2]
 ·have:=own_move (w1:=w2.setCell ⟨b,1,none⟩ (.slice ao n' cap)) hown' (fun k hk=>by
   have hkb:k≠b:=fun e=>hne' (by rw[hk,e])
   simp only[World.setCell,Array.getElem?_modify]
   rw[if_neg (fun e=>hkb e.symm)])
  rw[HCAT.out]at this
  have hlc:(Go.Lib.byteCells (acc++s).data.toList).length=bs.length+s.size:=by
   rw[<-HCAT.out,List.length_append,Go.Lib.strCells_length]
  rw[hlc];exact this
 ·refine HK1.out.step (impl_hexText.Kb.step (w1:=w2) ⟨fun k hk hkb=>?_,hgrow.size,fun B h1 h2=>(Below.refl B w1).grown hgrow (by omega) (fun k hk=>by have:=(hown.lt k hk).1;omega)⟩ (impl_hexText.setKb base b w2 1 _ hlt2));refine hgrow.block k (by omega) ?_;intro e;have:=(hown.lt k e.symm).1;omega
def impl_hexText.go:List UInt8->ByteArray->Option ByteArray
  |[],acc=>some acc
  |c::r,acc=>(impl_hexDigits.f (c.toNat:Int) 2).bind fun t=>if acc.size+t.size<=140737488355328 then impl_hexText.go r (acc++t)else none
def impl_hexText.f(a0:ByteArray):Option ByteArray:=if a0.size<=1048576 then impl_hexText.go a0.data.toList (⟨#[]⟩:ByteArray)else none
theorem impl_hexText.cells(s:ByteArray)(cap:Nat)(j:Nat)(c:UInt8)(r:List UInt8)(h:s.data.toList.drop j=c::r):(bytesRow s cap)[j]?=some (.int .u8 (c.toNat:Int)):=by
 have hj:j<s.data.toList.length:=by
  rcases Nat.lt_or_ge j s.data.toList.length with h1|h1
  ·exact h1
  ·rw[List.drop_eq_nil_of_le h1]at h;cases h
 have hc:s.data.toList[j]?=some c:=by
  rw[List.drop_eq_getElem_cons hj]at h;rw[List.getElem?_eq_getElem hj,(List.cons.inj h).1]
 unfold bytesRow;rw[Array.getElem?_append_left (by rw[Array.size_map];rw[Array.length_toList]at hj;exact hj),Array.getElem?_map];rw[Array.getElem?_toList]at hc;rw[hc];rfl
set_option maxHeartbeats 8000000 in
set_option maxRecDepth 100000 in
theorem impl_hexText.calls(a0:ByteArray)(r:ByteArray)(w:World)(hG:GW w)(h:impl_hexText.f a0=some r) :
 Calls Tryz.prog 61 #[.string a0] w fun e w'=>e = .returned (.string r)/\Below w.heap.size w w':=by
 have hbig:a0.size<=1048576:=by
  unfold impl_hexText.f at h;split at h
  ·assumption
  ·cases h
 have hcv:=run_bytes_of_string (P:=Tryz.prog) (w.alloc (.cells #[.pointer none,.slice none 0 0] 91)) 9 89 5 a0 Tryz.underlying9 Tryz.underlying89 Tryz.underlying5;generalize grownCap (w.alloc (.cells #[.pointer none,.slice none 0 0] 91)) a0.size 0 5=cap at hcv;(have hlen:a0.data.toList.length=a0.size:=by rw[Array.length_toList];rfl);have HL:=Aside0.mk hlen;have HG:=Aside0.mk hG;have HF:=Aside0.mk (show impl_hexText.go a0.data.toList (⟨#[]⟩:ByteArray)=some r by unfold impl_hexText.f at h;rw[if_pos hbig]at h;exact h);clear hG h hlen;go_enter Tryz.func61,Tryz.ntmps61;go_wp2;have hw0:w.heap.size+1<((w.alloc (.cells #[.pointer none,.slice none 0 0] 91)).alloc (.cells (bytesRow a0 cap) 5 ((bytesRow a0 cap).size,(bytesRow a0 cap).size+1))).drew.heap.size:=by simp
 have HB2:=Aside0.mk (show impl_hexText.B2 (w.heap.size+2) w.heap.size (Go.Lib.byteCells (⟨#[]⟩:ByteArray).data.toList) ((w.alloc (.cells #[.pointer none,.slice none 0 0] 91)).alloc (.cells (bytesRow a0 cap) 5 ((bytesRow a0 cap).size,(bytesRow a0 cap).size+1))).drew from⟨.pointer none,.slice none 0 0,.inl rfl,by
  show((w.heap.push _).push _)[w.heap.size]?=_
  rw[Array.getElem?_push_lt (by simp)]
  simp,⟨rfl,.inl ⟨rfl,rfl⟩⟩,by simp[Value.ownBlock]⟩)
 have HBK:=Aside0.mk (show((w.alloc (.cells #[.pointer none,.slice none 0 0] 91)).alloc (.cells (bytesRow a0 cap) 5 ((bytesRow a0 cap).size,(bytesRow a0 cap).size+1))).drew.heap[w.heap.size+1]?=some (.cells (bytesRow a0 cap) 5 ((bytesRow a0 cap).size,(bytesRow a0 cap).size+1))from by
  show((w.heap.push _).push _)[w.heap.size+1]?=_
  rw[show w.heap.size+1=(w.heap.push (.cells #[.pointer none,.slice none 0 0] 91 (0,0))).size by simp,Array.getElem?_push_size])
 have HBE:=Aside0.mk (show Below w.heap.size w ((w.alloc (.cells #[.pointer none,.slice none 0 0] 91)).alloc (.cells (bytesRow a0 cap) 5 ((bytesRow a0 cap).size,(bytesRow a0 cap).size+1))).drew from by repeat(first|exact Below.refl _ _|apply below_alloc|apply pw_below_drewN|apply below_drew));have HSZ:=Aside0.mk hw0;clear hcv hw0;generalize hN:w.heap.size+1=N1 at HBK HSZ ⊢;generalize ((w.alloc (.cells #[.pointer none,.slice none 0 0] 91)).alloc (.cells (bytesRow a0 cap) 5 ((bytesRow a0 cap).size,(bytesRow a0 cap).size+1))).drew=w1 at HB2 HBK HBE HSZ ⊢;go_loopg [5,9] a0.size (fun gg _ s9 wr=>∃(kk:Nat) (acc:ByteArray),kk<=a0.size/\a0.size - kk<=gg/\s9 = .int .i64 kk/\Aside0 (Below w.heap.size w wr)/\Aside0 (impl_hexText.B2 (w.heap.size+2) w.heap.size (Go.Lib.byteCells acc.data.toList) wr)/\Aside0 (wr.heap[N1]?=some (.cells (bytesRow a0 cap) 5 ((bytesRow a0 cap).size,(bytesRow a0 cap).size+1)))/\Aside0 (N1<wr.heap.size)/\Aside0 (impl_hexText.go (a0.data.toList.drop kk) acc=some r));case atStart=>exact⟨0,⟨#[]⟩,Nat.zero_le _,by omega,rfl,HBE,HB2,HBK,HSZ,HF⟩
 case round=>
  clear HF HB2 HBE HBK HSZ w1;obtain⟨kk,acc,hkk,hg,rfl,HB,HB2,HBK,HSZ,HA⟩:=hrel;by_cases hlt:kk<a0.size
  ·have hltz:(kk:Int)<(a0.size:Int):=by omega
   obtain⟨c,rest,hd⟩:∃ c rest,a0.data.toList.drop kk=c::rest:=by
    cases hq:a0.data.toList.drop kk with
    |nil=>
     have:=congrArg List.length hq;rw[List.length_drop,HL.out]at this;simp at this;omega
    |cons c rest=>exact⟨c,rest,rfl⟩
   have hrest:rest=a0.data.toList.drop (kk+1):=by
    rw[<-List.drop_drop,hd];rfl
   have hcell:wr.cell? ⟨N1,kk,none⟩=some (.int .u8 (c.toNat:Int)):=by
    rw[Go.Lib.cell_of_heap HBK.out];exact impl_hexText.cells a0 cap kk c rest hd
   have HA1:=HA.out;rw[hd,impl_hexText.go]at HA1;obtain⟨t,ht,HA2⟩:=Option.bind_eq_some_iff.1 HA1;by_cases hs:acc.size+t.size<=140737488355328
   ·rw[if_pos hs]at HA2;rw[hrest]at HA2;have HT:=Aside0.mk ht;have HA3:=Aside0.mk HA2;have ZS:=Aside0.mk hs;(have hc0:(0:Int)<=(c.toNat:Int):=by omega);(have hc1:(c.toNat:Int)<=255:=by have:=c.toNat_lt;omega);clear hd hrest HA HA1 HA2 ht hs;go_wp2_with (first|(go_at_call 104;((with_reducible refine(impl_hexDigits.calls (c.toNat:Int) 2 t _ ?hg HT.out).mono ?_);(case hg=>exact GW.below HG.out (by repeat(first|exact HB.out|apply below_alloc|apply pw_below_drewN|apply below_drew1)));rintro e w' ⟨rfl,hb⟩;have HBn:=Aside0.mk (below_step HB.out hb);have HB2n:=Aside0.mk (impl_hexText.B2.below HB2.out hb);have HBKn:=Aside0.mk ((hb.block N1 HSZ.out).trans HBK.out);have HSZn:=Aside0.mk (Nat.lt_of_lt_of_le HSZ.out hb.size);clear HB HB2 HBK HSZ hb;have HB:=HBn;have HB2:=HB2n;have HBK:=HBKn;have HSZ:=HSZn;clear HBn HB2n HBKn HSZn))|(go_at_call 58;((with_reducible refine(impl_hexText.write2 (w.heap.size+2) w.heap.size acc t _ HB2.out ZS.out ?hw).mono ?_);(case hw=>have:=HSZ.out;omega);rintro e w' ⟨rfl,hb2,hk⟩;have HBn:=Aside0.mk (Below.trans HB.out (hk.2.2 w.heap.size (Nat.le_refl _) (by omega)));have HB2n:=Aside0.mk hb2;have HBKn:=Aside0.mk ((hk.1 N1 (by omega) (by omega)).trans HBK.out);have HSZn:=Aside0.mk (Nat.lt_of_lt_of_le HSZ.out hk.2.1);clear HB HB2 HBK HSZ hb2 hk;have HB:=HBn;have HB2:=HB2n;have HBK:=HBKn;have HSZ:=HSZn;clear HBn HB2n HBKn HSZn)));go_roundg (a0.size - (kk+1));(case measure=>omega);case rel=>exact⟨kk+1,acc++t,by omega,by omega,by go_num,HB,HB2,HBK,HSZ,HA3⟩
   rw[if_neg hs]at HA2;cases HA2
  have hltz:¬ (kk:Int)<(a0.size:Int):=by omega
  have hr_:acc=r:=by
   have:=HA.out;rw[List.drop_eq_nil_of_le (by rw[HL.out];omega),impl_hexText.go]at this;exact Option.some.inj this
  subst hr_;clear HA;have HIS:=Aside0.mk (impl_hexText.B2.is HB2.out (by omega));go_wp2_with (go_at_call 63;refine(Tryz.Builder_String_any w.heap.size w.heap.size acc.data.toList _ HIS.out ?hw).mono ?_;(case hw=>have:=HSZ.out;omega);rintro e w' ⟨rfl,hb⟩);(first|go_ret|(apply bodyPost_ret;(exact results_tmp rfl _ _ _);rfl));exact⟨rfl,Below.trans HB.out hb⟩
def strings_Split.f(a0 a1:ByteArray):Option (List ByteArray):=if a0.size<4294967281 then(if 1<=a1.size then some (Go.Lib.splitB a1 0 (Go.Lib.countB a0 a1) a0)else none)else none
open Go.Proofs.YtlacpadpdfccmaaGreatDoor.Aid in
theorem strings_Split.calls(a0 a1:ByteArray)(r:List ByteArray)(w:World)(hG:GW w)(h:strings_Split.f a0 a1=some r) :
 Calls Tryz.prog 29 #[.string a0,.string a1] w fun e w'=>∃ v0_:Value,e = .returned (v0_)/\Kd.R Kd.string 9 w' w.heap.size (fun _=>True) v0_ r/\Below w.heap.size w w':=by
 unfold strings_Split.f at h;by_cases h0:a0.size<4294967281
 ·by_cases h1:1<=a1.size
  ·rw[if_pos h0,if_pos h1]at h;obtain rfl:=Option.some.inj h;obtain⟨m,hm⟩:=hG.maxlen;refine(Tryz.strings_Split a0 a1 m w h0 hm h1).mono ?_;rintro e w' ⟨rfl,rfl⟩;have hlen:=Go.Lib.splitB_all a1 h1 0 _ a0 rfl;have hle:=Go.Lib.countB_le a1 h1 a0.size a0 (Nat.le_refl _);refine⟨_,rfl,?_,below_alloc (Below.refl _ _) _⟩;have:=R_of_cells (e:=9) (base:=w.heap.size) (g:=w.heap.size) (cap:=Go.Lib.countB a0 a1+1) (W:=w.alloc (.cells ((Go.Lib.splitB a1 0 (Go.Lib.countB a0 a1) a0).map Value.string).toArray 9)) (ok:=fun _=>True) (cur:=((Go.Lib.splitB a1 0 (Go.Lib.countB a0 a1) a0).map Value.string).toArray) (Go.Lib.splitB a1 0 (Go.Lib.countB a0 a1) a0) (Nat.le_refl _) trivial (by show(w.heap.push _)[w.heap.size]?=_;rw[Array.getElem?_push_size]) (by omega) (by unfold maxLen;omega) (by simp[hlen]) (by rw[List.take_of_length_le (by simp)]);rw[hlen]at this;exact this
  rw[if_pos h0,if_neg h1]at h;cases h
 rw[if_neg h0]at h;cases h
def impl_opWords.f:Option (List ByteArray):=(strings_Split.f (⟨#[110,101,103,32,110,111,116,32,104,105,103,104,32,108,111,119,32,43,32,45,32,42,32,47,32,37,32,38,32,94,32,124,32,60,60,32,62,62]⟩:ByteArray) (⟨#[32]⟩:ByteArray)).bind fun t326=>(some t326)
set_option maxHeartbeats 8000000 in
set_option maxRecDepth 100000 in
theorem impl_opWords.calls (r:List ByteArray) (w:World) (hG:GW w) (h:impl_opWords.f=some r) :
 Calls Tryz.prog 105 #[] w fun e w'=>∃ v0_:Value,e = .returned (v0_)/\Kd.R Kd.string 9 w' w.heap.size (fun _=>True) v0_ r/\Below w.heap.size w w':=by
 have HB:=Aside0.mk (Below.refl w.heap.size w);have HG:=Aside0.mk hG;clear hG;have H:((strings_Split.f (⟨#[110,101,103,32,110,111,116,32,104,105,103,104,32,108,111,119,32,43,32,45,32,42,32,47,32,37,32,38,32,94,32,124,32,60,60,32,62,62]⟩:ByteArray) (⟨#[32]⟩:ByteArray)).bind fun t326=>(some t326))=some r:=h;clear h;revert H;refine zM fun t326 A1 H=>?_;obtain rfl:=Option.some.inj H;go_enter Tryz.func105,Tryz.ntmps105;go_wp2_with (first|((with_reducible refine gate_callee (f:=29) rfl ?_);refine zc (some 1) Tryz.func29 #[.string (⟨#[110,101,103,32,110,111,116,32,104,105,103,104,32,108,111,119,32,43,32,45,32,42,32,47,32,37,32,38,32,94,32,124,32,60,60,32,62,62]⟩:ByteArray),.string (⟨#[32]⟩:ByteArray)] ?_;(with_reducible refine(strings_Split.calls (⟨#[110,101,103,32,110,111,116,32,104,105,103,104,32,108,111,119,32,43,32,45,32,42,32,47,32,37,32,38,32,94,32,124,32,60,60,32,62,62]⟩:ByteArray) (⟨#[32]⟩:ByteArray) t326 _ (GW.below HG.out (zb _)) A1.out).mono ?_);rintro e w2 ⟨v327,rfl,ho0,hb⟩;refine⟨_,rfl,?_⟩;have HO328:=Aside0.mk (Kd.R_lower ho0 (below_size (zb _)));replace HB:=zt w hb;(try clear hb);(try clear hb2);(try clear hk);(try clear hi);(try clear ho0)));go_ret;exact⟨_,by first|rfl|(simp[errW_none,errW_some] <;> rfl)|(simp[*,errW_none,errW_some] <;> rfl),by(with_reducible repeat(first|apply Kd.R_alloc|apply Kd.R_drewN|apply Kd.R_drew));exact HO328.out,zb _⟩
end Go.Proofs.YtlacpadpdfccmaaGreatDoor.PFnExactReadObject
namespace Go.Proofs.YtlacpadpdfccmaaGreatDoor.PFnExactReadObject
open Go.RowKit Go.Proofs.YtlacpadpdfccmaaGreatDoor.Z Go.Proofs.YtlacpadpdfccmaaGreatDoorW.PrintWords Go.Proofs.YtlacpadpdfccmaaGreatDoorW.PrintLast Go.Proofs.YtlacpadpdfccmaaGreatDoorW.PrintMore
attribute [local go_sem] max2_int min2_int max_two min_two max_three min_three max_four min_four
set_option linter.unusedVariables false
set_option linter.unusedSimpArgs false
def impl_exprText.l0:Nat->List ByteArray->List (S124)->Int->Int->Option (ByteArray)
  |0,_,_,_,_=>none
  |k+1,x3,x7,x8,x9=>if x9<x8 then(if 0<=x9 then(if x9<(x7.length:Int)then(if((rd_T124 x7 x9).f0)=1 then((impl_decimal.f ((rd_T124 x7 x9).f1)).bind fun t335=>(if x3.length<8796093022208 then(impl_exprText.l0 k (x3++[t335]) x7 x8 (wrap64 (x9+1)))else(none)))else(if((rd_T124 x7 x9).f0)=2 then(if x3.length<8796093022208 then(impl_exprText.l0 k (x3++[(rd_T124 x7 x9).f2]) x7 x8 (wrap64 (x9+1)))else(none))else(if((rd_T124 x7 x9).f0)=3 then(if 1+((rd_T124 x7 x9).f2).size<=9223372036854775807 then(if x3.length<8796093022208 then(impl_exprText.l0 k (x3++[(⟨#[35]⟩:ByteArray)++((rd_T124 x7 x9).f2)]) x7 x8 (wrap64 (x9+1)))else(none))else(none))else((impl_opWords.f).bind fun t345=>(if 0<=(wrap64 (((rd_T124 x7 x9).f0) - 4))then(if(wrap64 (((rd_T124 x7 x9).f0) - 4))<(t345.length:Int)then(if x3.length<8796093022208 then(impl_exprText.l0 k (x3++[rdOf ByteArray.empty t345 (wrap64 (((rd_T124 x7 x9).f0) - 4))]) x7 x8 (wrap64 (x9+1)))else(none))else(none))else(none))))))else(none))else(none))else((strings_Join.f x3 (⟨#[32]⟩:ByteArray)).bind fun t332=>(some t332))
def impl_exprText.f(k:Nat)(l0:List (S124)):Option (ByteArray):=impl_exprText.l0 k (([]:List ByteArray)) l0 (l0.length:Int) 0
def impl_exprText.T6:Bool×List (List Nat×List Nat):=(true,[([],[]),([],[]),([],[]),([2],[2]),([3],[3]),([1,4],[1,4]),([5],[5]),([6],[6]),([0,7,1],[0,7]),([8,8,0,1,2,3,4,5,6,7,8],[0,8])])
def impl_exprText.B6:List Nat:=[0,0,0,4,12,30,62,126,255,511]
theorem impl_exprText.tab6:rtab .any (opsOf Tryz.f62 6)=impl_exprText.T6:=by kernel_rfl
theorem impl_exprText.bits6:waitsOk impl_exprText.T6.2 impl_exprText.B6=true:=by kernel_rfl
set_option maxHeartbeats 8000000 in
set_option maxRecDepth 100000 in
theorem impl_exprText.calls(k:Nat)(A0:Option Addr)(c0:Nat)(l0:List (S124))(r:ByteArray)(w:World)(hr0:Kd.C k124 w A0 l0.length l0)(hc0:l0.length<=c0)(hG:GW w)(h:impl_exprText.f k l0=some r) :
 Calls Tryz.prog 62 #[.slice A0 l0.length c0] w fun e w'=>e = .returned (.string r)/\Below w.heap.size w w':=by
 have hu124:=Tryz.underlying124;have HR0:=Aside0.mk hr0;have HC0:=Aside0.mk hc0;clear hr0 hc0;have HB:=Aside0.mk (Below.refl w.heap.size w);have HG:=Aside0.mk hG;clear hG;have H:(impl_exprText.l0 k (([]:List ByteArray)) l0 (l0.length:Int) 0)=some r:=h;clear h;obtain⟨y329,hy329⟩:∃ y_:List ByteArray,y_=(([]:List ByteArray)):=⟨_,rfl⟩;(replace H:(impl_exprText.l0 k y329 l0 (l0.length:Int) 0)=some r:=by first|(rw[hy329];with_reducible exact H)|(have H2_:=(Option.bind_some _ _).symm.trans H;rw[hy329];with_reducible exact H2_)|(have H2_:=(Option.bind_some _ _).symm.trans H;with_reducible exact H2_)|with_reducible exact H|(rw[hy329];exact H)|exact H);have Ny329:=Aside0.mk hy329;clear hy329;replace H:=Aside0.mk H;go_enter Tryz.func62,Tryz.ntmps62;go_wp2_with (first|((with_reducible refine gate_dst (N:=6) rfl ?_);refine Kd.R_lit Kd.string _ 9 ?hg (N:=6) ?hd (xs:=([]:List ByteArray)) (inner:=[]) (ok:=fun _=>True) (okp:=fun _=>True) ?hr ?hp (fun _ hk=>hk) trivial (Below.refl _ _) (Nat.le_refl _) (by simp) ?_;(case hd=>rfl);(case hg=>rfl);(case hr=>first|(go_simp;done)|(go_simp;rfl));(case hp=>exact(Reps.none _ _));intro v330 w2 ho3 hb hg_ hnew_;clear hg_ hnew_;(first|rw[<-Ny329.out]at ho3|(simp only[Int.reduceToNat]at ho3;rw[<-Ny329.out]at ho3));have HO331:=Aside0.mk (Kd.R_lower ho3 (below_size (zb _)));replace HB:=zt w hb;clear hb ho3));go_loopg [3,9] k (fun kq v3 v9 w'=>∃(x3_1:List ByteArray) (x9_1:Int),v9 = .int .i64 x9_1/\Aside0 (impl_exprText.l0 kq x3_1 l0 (l0.length:Int) x9_1=some r)/\Aside0 (kq<=k)/\Aside0 (Kd.R Kd.string 9 w' w.heap.size (fun _=>True) v3 x3_1)/\Aside0 (Below w.heap.size w w'));case atStart=>exact⟨(y329),(0),(zE _),H,⟨Nat.le_refl _⟩,⟨by(with_reducible repeat(first|apply Kd.R_alloc|apply Kd.R_drewN|apply Kd.R_drew));exact HO331.out⟩,⟨zb _⟩⟩
 case round=>
  clear H;obtain⟨x3_1,x9_1,rfl,HA,HK1,HO_3,HB⟩:=hrel;rcases gk with _|k1
  ·exact absurd HA.out (by simp[impl_exprText.l0])
  have H:=HA.out;clear HA;simp only[impl_exprText.l0]at H;revert H;refine zI (fun _ H=>?_) fun _ H=>?_
  ·revert H;refine zJ fun _ H=>?_;revert H;refine zJ fun _ H=>?_;revert H;refine zKn (fun _ _ H=>?_) fun _ _ _ H=>?_
   ·revert H;refine zM fun t335 A8 H=>?_;by_cases c9:x3_1.length<8796093022208
    ·rw[if_pos c9]at H;have LMc9:=Aside0.mk c9;clear c9;obtain⟨y336,hy336⟩:∃ y_:List ByteArray,y_=(x3_1++[t335]):=⟨_,rfl⟩;(replace H:(impl_exprText.l0 k1 y336 l0 (l0.length:Int) (wrap64 (x9_1+1)))=some r:=by first|(rw[hy336];with_reducible exact H)|(have H2_:=(Option.bind_some _ _).symm.trans H;rw[hy336];with_reducible exact H2_)|(have H2_:=(Option.bind_some _ _).symm.trans H;with_reducible exact H2_)|with_reducible exact H|(rw[hy336];exact H)|exact H);have Ny336:=Aside0.mk hy336;clear hy336;replace H:=Aside0.mk H;have p333:0<=(x9_1:Int):=of_decide_eq_true (za _);have q333:x9_1<(l0.length:Int):=of_decide_eq_true (za _);obtain⟨ad333,e333,hx333_0,hx333_1,hx333_2⟩:=at_T124 HR0.out x9_1 p333 q333;cases e333;replace hx333_0:=zx HB hx333_0;replace hx333_1:=zx HB hx333_1;replace hx333_2:=zx HB hx333_2;replace p333:=eq_true p333;replace q333:=eq_true q333;go_wp2_with (first|(refine zby w 5 rfl #[.int .i64 0,.int .i64 0,.string (⟨#[]⟩:ByteArray)] 124 ?_;intro gb334 hg w10 hb BK334 GW334 HB;replace HO_3:=Aside0.mk (Kd.R_below (zO HO_3) hb);clear hb hg;obtain⟨_,_,_,_,_,_⟩:=zF3 BK334)|(refine zcg (f:=60) rfl Tryz.func60 (impl_decimal.calls ((rd_T124 l0 x9_1).f1) t335 _ (GW.below HG.out (zb _)) A8.out) (fun w12 hb=>?_);replace HO_3:=Aside0.mk (Kd.R_below (by(with_reducible repeat(first|apply Kd.R_alloc|apply Kd.R_drewN|apply Kd.R_drew));exact(Kd.R_mono (Kd.R_far (p:=⟨gb334,2,none⟩) (Kd.R_far (p:=⟨gb334,1,none⟩) (Kd.R_far (p:=⟨gb334,0,none⟩) (Kd.R_types HO_3.out BK334.out (by decide)) (fun _ hk=>hk.2) (.int .i64 ((rd_T124 l0 x9_1).f0))) (fun _ hk=>hk.2) (.int .i64 ((rd_T124 l0 x9_1).f1))) (fun _ hk=>hk.2) (.string ((rd_T124 l0 x9_1).f2))) (fun _ h_=>h_.1))) hb);replace BK334:=zkw (g:=gb334) (o:=.cells #[.int .i64 ((rd_T124 l0 x9_1).f0),.int .i64 ((rd_T124 l0 x9_1).f1),.string ((rd_T124 l0 x9_1).f2)] 124 (0,0)) hb;replace HB:=zt w hb;clear hb)|((with_reducible refine gate_builtin (b:=.append) (xs:=#[.tmp 26,.tmp 30]) rfl ?_);at_builtin;refine Kd.R_append Kd.string (w0:=w) w.heap.size rfl (.tmp 26) (.tmp 30) 54 9 (.string ⟨#[]⟩) 16 rfl Tryz.underlying54 info9 rfl (by decide) (by omega) u3 x3_1 t335 [.string t335] (fun _=>True) (fun _=>False) rfl rfl ?aP (fun _ hk=>hk.elim) ?aF ?aO ?aB ?aS ?aL ?_;(case aP=>exact rfl);(case aB=>exact(zb _));(case aF=>exact(fun _ _=>trivial));(case aO=>exact(zO HO_3));(case aS=>exact(below_size (zb _)));(case aL=>have:=LMc9.out;omega);intro v337 w13 ho hb hg hat;rw[<-Ny336.out]at ho;have HO338:=Aside0.mk (ho);replace BK334:=Aside0.mk (blk_grown (g:=gb334) (o:=.cells #[.int .i64 ((rd_T124 l0 x9_1).f0),.int .i64 ((rd_T124 l0 x9_1).f1),.string ((rd_T124 l0 x9_1).f2)] 124 (0,0)) (zr BK334) hg (Kd.R_ne HO_3.out BK334.out (by decide)));replace HB:=Aside0.mk (hb);clear HO_3;clear ho hb hg hat));go_roundg k1;(case measure=>have:=HK1.out;omega);case rel=>exact⟨(y336),(wrap64 (x9_1+1)),(zE _),H,⟨by have:=HK1.out;omega⟩,⟨by(with_reducible repeat(first|apply Kd.R_alloc|apply Kd.R_drewN|apply Kd.R_drew));exact HO338.out⟩,⟨zb _⟩⟩
    rw[if_neg c9]at H;exact absurd H (by simp)
   revert H;refine zKn (fun _ _ H=>?_) fun _ _ _ H=>?_
   ·by_cases c15:x3_1.length<8796093022208
    ·rw[if_pos c15]at H;have LMc15:=Aside0.mk c15;clear c15;obtain⟨y339,hy339⟩:∃ y_:List ByteArray,y_=(x3_1++[(rd_T124 l0 x9_1).f2]):=⟨_,rfl⟩;(replace H:(impl_exprText.l0 k1 y339 l0 (l0.length:Int) (wrap64 (x9_1+1)))=some r:=by first|(rw[hy339];with_reducible exact H)|(have H2_:=(Option.bind_some _ _).symm.trans H;rw[hy339];with_reducible exact H2_)|(have H2_:=(Option.bind_some _ _).symm.trans H;with_reducible exact H2_)|with_reducible exact H|(rw[hy339];exact H)|exact H);have Ny339:=Aside0.mk hy339;clear hy339;replace H:=Aside0.mk H;have p333:0<=(x9_1:Int):=of_decide_eq_true (za _);have q333:x9_1<(l0.length:Int):=of_decide_eq_true (za _);obtain⟨ad333,e333,hx333_0,hx333_1,hx333_2⟩:=at_T124 HR0.out x9_1 p333 q333;cases e333;replace hx333_0:=zx HB hx333_0;replace hx333_1:=zx HB hx333_1;replace hx333_2:=zx HB hx333_2;replace p333:=eq_true p333;replace q333:=eq_true q333;go_wp2_with (first|(refine zby w 5 rfl #[.int .i64 0,.int .i64 0,.string (⟨#[]⟩:ByteArray)] 124 ?_;intro gb334 hg w16 hb BK334 GW334 HB;replace HO_3:=Aside0.mk (Kd.R_below (zO HO_3) hb);clear hb hg;obtain⟨_,_,_,_,_,_⟩:=zF3 BK334)|((with_reducible refine gate_builtin (b:=.append) (xs:=#[.tmp 34,.tmp 37]) rfl ?_);at_builtin;refine Kd.R_append Kd.string (w0:=w) w.heap.size rfl (.tmp 34) (.tmp 37) 54 9 (.string ⟨#[]⟩) 16 rfl Tryz.underlying54 info9 rfl (by decide) (by omega) u3 x3_1 ((rd_T124 l0 x9_1).f2) [.string ((rd_T124 l0 x9_1).f2)] (fun _=>True) (fun _=>False) rfl (by first|(go_simp;done)|(go_simp;rfl)) ?aP (fun _ hk=>hk.elim) ?aF ?aO ?aB ?aS ?aL ?_;(case aP=>exact rfl);(case aB=>exact(zb _));(case aF=>exact(fun _ _=>trivial));(case aO=>exact(by(with_reducible repeat(first|apply Kd.R_alloc|apply Kd.R_drewN|apply Kd.R_drew));exact Kd.R_mono (Kd.R_far (p:=⟨gb334,2,none⟩) (Kd.R_far (p:=⟨gb334,1,none⟩) (Kd.R_far (p:=⟨gb334,0,none⟩) (Kd.R_types HO_3.out BK334.out (by decide)) (fun _ hk=>hk.2) (.int .i64 ((rd_T124 l0 x9_1).f0))) (fun _ hk=>hk.2) (.int .i64 ((rd_T124 l0 x9_1).f1))) (fun _ hk=>hk.2) (.string ((rd_T124 l0 x9_1).f2))) (fun _ hk=>trivial)));(case aS=>exact(below_size (zb _)));(case aL=>have:=LMc15.out;omega);intro v340 w18 ho hb hg hat;rw[<-Ny339.out]at ho;have HO341:=Aside0.mk (ho);replace BK334:=Aside0.mk (blk_grown (g:=gb334) (o:=.cells #[.int .i64 ((rd_T124 l0 x9_1).f0),.int .i64 ((rd_T124 l0 x9_1).f1),.string ((rd_T124 l0 x9_1).f2)] 124 (0,0)) (zw _) hg (Kd.R_ne HO_3.out BK334.out (by decide)));replace HB:=Aside0.mk (hb);clear HO_3;clear ho hb hg hat));go_roundg k1;(case measure=>have:=HK1.out;omega);case rel=>exact⟨(y339),(wrap64 (x9_1+1)),(zE _),H,⟨by have:=HK1.out;omega⟩,⟨by(with_reducible repeat(first|apply Kd.R_alloc|apply Kd.R_drewN|apply Kd.R_drew));exact HO341.out⟩,⟨zb _⟩⟩
    rw[if_neg c15]at H;exact absurd H (by simp)
   revert H;refine zKn (fun _ _ H=>?_) fun _ _ _ H=>?_
   ·revert H;refine zLjk fun _ _ _ _ H=>?_;by_cases c21:x3_1.length<8796093022208
    ·rw[if_pos c21]at H;have LMc21:=Aside0.mk c21;clear c21;obtain⟨y342,hy342⟩:∃ y_:List ByteArray,y_=(x3_1++[(⟨#[35]⟩:ByteArray)++((rd_T124 l0 x9_1).f2)]):=⟨_,rfl⟩;(replace H:(impl_exprText.l0 k1 y342 l0 (l0.length:Int) (wrap64 (x9_1+1)))=some r:=by first|(rw[hy342];with_reducible exact H)|(have H2_:=(Option.bind_some _ _).symm.trans H;rw[hy342];with_reducible exact H2_)|(have H2_:=(Option.bind_some _ _).symm.trans H;with_reducible exact H2_)|with_reducible exact H|(rw[hy342];exact H)|exact H);have Ny342:=Aside0.mk hy342;clear hy342;replace H:=Aside0.mk H;have p333:0<=(x9_1:Int):=of_decide_eq_true (za _);have q333:x9_1<(l0.length:Int):=of_decide_eq_true (za _);obtain⟨ad333,e333,hx333_0,hx333_1,hx333_2⟩:=at_T124 HR0.out x9_1 p333 q333;cases e333;replace hx333_0:=zx HB hx333_0;replace hx333_1:=zx HB hx333_1;replace hx333_2:=zx HB hx333_2;replace p333:=eq_true p333;replace q333:=eq_true q333;go_wp2_with (first|(refine zby w 5 rfl #[.int .i64 0,.int .i64 0,.string (⟨#[]⟩:ByteArray)] 124 ?_;intro gb334 hg w22 hb BK334 GW334 HB;replace HO_3:=Aside0.mk (Kd.R_below (zO HO_3) hb);clear hb hg;obtain⟨_,_,_,_,_,_⟩:=zF3 BK334)|((with_reducible refine gate_builtin (b:=.append) (xs:=#[.tmp 41,.tmp 45]) rfl ?_);at_builtin;refine Kd.R_append Kd.string (w0:=w) w.heap.size rfl (.tmp 41) (.tmp 45) 54 9 (.string ⟨#[]⟩) 16 rfl Tryz.underlying54 info9 rfl (by decide) (by omega) u3 x3_1 ((⟨#[35]⟩:ByteArray)++((rd_T124 l0 x9_1).f2)) [.string ((⟨#[35]⟩:ByteArray)++((rd_T124 l0 x9_1).f2))] (fun _=>True) (fun _=>False) rfl (by first|(go_simp;done)|(go_simp;rfl)) ?aP (fun _ hk=>hk.elim) ?aF ?aO ?aB ?aS ?aL ?_;(case aP=>exact rfl);(case aB=>exact(zb _));(case aF=>exact(fun _ _=>trivial));(case aO=>exact(by(with_reducible repeat(first|apply Kd.R_alloc|apply Kd.R_drewN|apply Kd.R_drew));exact Kd.R_mono (Kd.R_far (p:=⟨gb334,2,none⟩) (Kd.R_far (p:=⟨gb334,1,none⟩) (Kd.R_far (p:=⟨gb334,0,none⟩) (Kd.R_types HO_3.out BK334.out (by decide)) (fun _ hk=>hk.2) (.int .i64 ((rd_T124 l0 x9_1).f0))) (fun _ hk=>hk.2) (.int .i64 ((rd_T124 l0 x9_1).f1))) (fun _ hk=>hk.2) (.string ((rd_T124 l0 x9_1).f2))) (fun _ hk=>trivial)));(case aS=>exact(below_size (zb _)));(case aL=>have:=LMc21.out;omega);intro v343 w24 ho hb hg hat;rw[<-Ny342.out]at ho;have HO344:=Aside0.mk (ho);replace BK334:=Aside0.mk (blk_grown (g:=gb334) (o:=.cells #[.int .i64 ((rd_T124 l0 x9_1).f0),.int .i64 ((rd_T124 l0 x9_1).f1),.string ((rd_T124 l0 x9_1).f2)] 124 (0,0)) (zw _) hg (Kd.R_ne HO_3.out BK334.out (by decide)));replace HB:=Aside0.mk (hb);clear HO_3;clear ho hb hg hat));go_roundg k1;(case measure=>have:=HK1.out;omega);case rel=>exact⟨(y342),(wrap64 (x9_1+1)),(zE _),H,⟨by have:=HK1.out;omega⟩,⟨by(with_reducible repeat(first|apply Kd.R_alloc|apply Kd.R_drewN|apply Kd.R_drew));exact HO344.out⟩,⟨zb _⟩⟩
    rw[if_neg c21]at H;exact absurd H (by simp)
   revert H;refine zM fun t345 A25 H=>?_;obtain⟨ji26,hji26⟩:∃ j_:Int,(wrap64 (((rd_T124 l0 x9_1).f0) - 4))=j_:=⟨_,rfl⟩;(replace H:(if 0<=(ji26)then(if(ji26)<(t345.length:Int)then(if x3_1.length<8796093022208 then(impl_exprText.l0 k1 (x3_1++[rdOf ByteArray.empty t345 (ji26)]) l0 (l0.length:Int) (wrap64 (x9_1+1)))else(none))else(none))else(none))=some r:=by first|(rw[hji26]at H;exact H)|(simp only[hji26]at H ⊢;exact H));(try rw[hji26]at A25);have hji26w:(IntKind.i64.wrap (((rd_T124 l0 x9_1).f0) - 4))=ji26:=(i64_w _).trans hji26;revert H;refine zJ fun _ H=>?_;revert H;refine zJ fun _ H=>?_;by_cases c29:x3_1.length<8796093022208
   ·rw[if_pos c29]at H;have LMc29:=Aside0.mk c29;clear c29;obtain⟨y349,hy349⟩:∃ y_:List ByteArray,y_=(x3_1++[rdOf ByteArray.empty t345 (ji26)]):=⟨_,rfl⟩;(replace H:(impl_exprText.l0 k1 y349 l0 (l0.length:Int) (wrap64 (x9_1+1)))=some r:=by first|(rw[hy349];with_reducible exact H)|(have H2_:=(Option.bind_some _ _).symm.trans H;rw[hy349];with_reducible exact H2_)|(have H2_:=(Option.bind_some _ _).symm.trans H;with_reducible exact H2_)|with_reducible exact H|(rw[hy349];exact H)|exact H);have Ny349:=Aside0.mk hy349;clear hy349;replace H:=Aside0.mk H;have p333:0<=(x9_1:Int):=of_decide_eq_true (za _);have q333:x9_1<(l0.length:Int):=of_decide_eq_true (za _);obtain⟨ad333,e333,hx333_0,hx333_1,hx333_2⟩:=at_T124 HR0.out x9_1 p333 q333;cases e333;replace hx333_0:=zx HB hx333_0;replace hx333_1:=zx HB hx333_1;replace hx333_2:=zx HB hx333_2;replace p333:=eq_true p333;replace q333:=eq_true q333;(try go_wp2_with (first|(refine zby w 5 rfl #[.int .i64 0,.int .i64 0,.string (⟨#[]⟩:ByteArray)] 124 ?_;intro gb334 hg w30 hb BK334 GW334 HB;replace HO_3:=Aside0.mk (Kd.R_below (zO HO_3) hb);clear hb hg;obtain⟨_,_,_,_,_,_⟩:=zF3 BK334)));have n0_:Aside0 (Kd.R Kd.string 9 (((w30.setCell ⟨gb334,0,none⟩ (.int .i64 ((rd_T124 l0 x9_1).f0))).setCell ⟨gb334,1,none⟩ (.int .i64 ((rd_T124 l0 x9_1).f1))).setCell ⟨gb334,2,none⟩ (.string ((rd_T124 l0 x9_1).f2))) w.heap.size (fun _=>True) u3 x3_1):=⟨by(with_reducible repeat(first|apply Kd.R_alloc|apply Kd.R_drewN|apply Kd.R_drew));exact Kd.R_mono (Kd.R_far (p:=⟨gb334,2,none⟩) (Kd.R_far (p:=⟨gb334,1,none⟩) (Kd.R_far (p:=⟨gb334,0,none⟩) (Kd.R_types HO_3.out BK334.out (by decide)) (fun _ hk=>hk.2) (.int .i64 ((rd_T124 l0 x9_1).f0))) (fun _ hk=>hk.2) (.int .i64 ((rd_T124 l0 x9_1).f1))) (fun _ hk=>hk.2) (.string ((rd_T124 l0 x9_1).f2))) (fun _ hk=>trivial)⟩;have n1_:Aside0 ((((w30.setCell ⟨gb334,0,none⟩ (.int .i64 ((rd_T124 l0 x9_1).f0))).setCell ⟨gb334,1,none⟩ (.int .i64 ((rd_T124 l0 x9_1).f1))).setCell ⟨gb334,2,none⟩ (.string ((rd_T124 l0 x9_1).f2))).heap[gb334]?=some (.cells #[.int .i64 ((rd_T124 l0 x9_1).f0),.int .i64 ((rd_T124 l0 x9_1).f1),.string ((rd_T124 l0 x9_1).f2)] 124 (0,0))):=⟨by(with_reducible repeat(first|refine blk_drewN ?_ _|refine blk_drew ?_|refine blk_alloc ?_ _));refine blk_put (cs:=#[.int .i64 ((rd_T124 l0 x9_1).f0),.int .i64 ((rd_T124 l0 x9_1).f1),.string (⟨#[]⟩:ByteArray)]) ?_ 2 _ rfl;(with_reducible repeat(first|refine blk_drewN ?_ _|refine blk_drew ?_|refine blk_alloc ?_ _));refine blk_put (cs:=#[.int .i64 ((rd_T124 l0 x9_1).f0),.int .i64 0,.string (⟨#[]⟩:ByteArray)]) ?_ 1 _ rfl;(with_reducible repeat(first|refine blk_drewN ?_ _|refine blk_drew ?_|refine blk_alloc ?_ _));refine blk_put (cs:=#[.int .i64 0,.int .i64 0,.string (⟨#[]⟩:ByteArray)]) ?_ 0 _ rfl;(with_reducible repeat(first|refine blk_drewN ?_ _|refine blk_drew ?_|refine blk_alloc ?_ _));exact BK334.out⟩;have n2_:Aside0 (Below w.heap.size w (((w30.setCell ⟨gb334,0,none⟩ (.int .i64 ((rd_T124 l0 x9_1).f0))).setCell ⟨gb334,1,none⟩ (.int .i64 ((rd_T124 l0 x9_1).f1))).setCell ⟨gb334,2,none⟩ (.string ((rd_T124 l0 x9_1).f2)))):=⟨zb _⟩;(try clear HO_3);(try clear BK334);(try clear HB);generalize (((w30.setCell ⟨gb334,0,none⟩ (.int .i64 ((rd_T124 l0 x9_1).f0))).setCell ⟨gb334,1,none⟩ (.int .i64 ((rd_T124 l0 x9_1).f1))).setCell ⟨gb334,2,none⟩ (.string ((rd_T124 l0 x9_1).f2)))=w32 at n0_ n1_ n2_ ⊢;have HO_3:=n0_;have BK334:=n1_;have HB:=n2_;clear n0_ n1_ n2_;have n0_:=Aside0.mk (Kd.R_drew HO_3.out);have n1_:=Aside0.mk (blk_drew BK334.out);have n2_:=Aside0.mk (below_drew1 HB.out);clear HO_3;clear BK334;clear HB;have HO_3:=n0_;have BK334:=n1_;have HB:=n2_;clear n0_ n1_ n2_;refine start_ (n:=10) (S:=fun w'=>w'.cell? ⟨gb334,0,none⟩=some (.int .i64 ((rd_T124 l0 x9_1).f0))/\w'.cell? ⟨gb334,1,none⟩=some (.int .i64 ((rd_T124 l0 x9_1).f1))/\w'.cell? ⟨gb334,2,none⟩=some (.string ((rd_T124 l0 x9_1).f2))) (ds:=[6,7,8]) (zm 10 0) (by kernel_rfl) rfl rfl ⟨zc0 BK334,zc1 BK334,zc2 BK334⟩ (fun hHeld=>?_);refine with_tabW impl_exprText.tab6 impl_exprText.bits6 (fun HT_ HW_=>?_);generalize w32.drew=w33 at HO_3 BK334 HB hHeld ⊢;refine zp 0 15 (zm 10 1) ?_;refine zp 2 17 (zm 10 5) ?_;refine zy 3 18 (zm 10 13) hHeld ?_;refine zp 4 19 (zm 10 29) ?_;refine one_ (i:=1) (N:=some 16) (zm 10 31) rfl rfl (one_of HT_.out (by kernel_rfl)) (by decide) (fun K hK=>?_);refine zi Tryz.func105 #[] ?_;(with_reducible refine(impl_opWords.calls t345 _ ?side1 A25.out).mono ?_);(case side1=>exact GW.below HG.out (zb _));rintro e w34 ⟨v346,rfl,ho0,hb⟩;refine⟨_,rfl,?_⟩;have n0_:=Aside0.mk (Kd.R_elder' (zO HO_3) (Kd.R_base ho0) hb);have n1_:=Aside0.mk (Kd.R_lower (Kd.R_new' ho0 (Kd.R_lt (zO HO_3))) (below_size (zb _)));have n2_:=zk BK334 hb;have n3_:=zt w hb;clear HO_3;clear BK334;clear HB;have HO_3:=n0_;have HO347:=n1_;have BK334:=n2_;have HB:=n3_;clear n0_ n1_ n2_ n3_;(try clear hb);(try clear hb2);(try clear hk);(try clear hi);(try clear ho0);obtain⟨Ao35,co35,eo35⟩:=Kd.R_slice HO347.out;(first|subst eo35|(injection eo35 with f1_ f2_ f3_;have f4_:=f1_.symm;have f5_:=f3_.symm;clear f1_ f2_ f3_;subst f4_;subst f5_));have p348:0<=((ji26):Int):=of_decide_eq_true (za _);have q348:(ji26)<(t345.length:Int):=of_decide_eq_true (za _);obtain⟨ad348,e348,hx348_0⟩:=Kd.at_string (Kd.R_reads' HO347.out).2.2 (ji26) p348 q348;cases e348;replace p348:=eq_true p348;replace q348:=eq_true q348;refine hK.out _ _ ⟨zc0 BK334,zc1 BK334,zc2 BK334⟩ (fun hHeld=>?_);clear hK K;refine zq ?_;refine zp 5 20 (zm 10 63) ?_;refine last_ (i:=6) (N:=some 21) (zm 10 127) rfl rfl (one_of HT_.out (by kernel_rfl)) (by decide) (fun K hK=>?_);refine value_ (w1:=?_) (v:=?_) (by rfl) rfl ?_ ?_
    rotate_left 2
    ·go_simp;constructor
     ·rfl
     ·rfl
    refine hK.out _ _ ?_;clear hK K;refine zq ?_;refine last_ (i:=7) (N:=some 22) (zm 10 255) rfl rfl (one_of HT_.out (by kernel_rfl)) (by decide) (fun K hK=>?_);refine value_ (w1:=?_) (v:=?_) (by rfl) rfl ?_ ?_
    rotate_left 2
    ·go_simp;constructor
     ·rfl
     ·rfl
    refine hK.out _ _ ?_;clear hK K;refine zq ?_;refine last_ (i:=8) (N:=some 23) (zm 10 511) rfl rfl (one_of HT_.out (by kernel_rfl)) (by decide) (fun K hK=>?_);refine Kd.R_append_step Kd.string (w0:=w) w.heap.size (by rfl) (.tmp 15) (.tmp 22) 54 9 (.string ⟨#[]⟩) 16 rfl Tryz.underlying54 info9 rfl (by decide) (by omega) u3 x3_1 (rdOf ByteArray.empty t345 (ji26)) [.string (rdOf ByteArray.empty t345 (ji26))] (fun k_=>some k_≠(.slice (some ad348) t345.length co35:Value).ownBlock) (fun _=>False) rfl rfl ?aP (fun _ hk=>hk.elim) ?aF ?aO ?aB ?aS ?aL ?_;(case aP=>exact rfl);(case aB=>exact(zb _));(case aF=>exact(fun k_ hk=>Kd.fresh' (Kd.R_lt (zO HO347)) k_ hk));(case aO=>exact(by(with_reducible repeat(first|apply Kd.R_alloc|apply Kd.R_drewN|apply Kd.R_drew));exact Kd.R_mono HO_3.out (fun _ hk=>hk.2)));(case aS=>exact(below_size (zb _)));(case aL=>have:=LMc29.out;omega);intro v350 w36 ho hb hg hat;rw[<-Ny349.out]at ho;have n0_:=Aside0.mk (blk_grown (g:=gb334) (o:=.cells #[.int .i64 ((rd_T124 l0 x9_1).f0),.int .i64 ((rd_T124 l0 x9_1).f1),.string ((rd_T124 l0 x9_1).f2)] 124 (0,0)) (zr BK334) hg (Kd.R_ne HO_3.out BK334.out (by decide)));have n1_:=Aside0.mk (Kd.R_after (ok:=(fun _=>True)) (zO HO347) hg hat);have n2_:=Aside0.mk (hb);have n3_:=Aside0.mk (ho);clear BK334;clear HO347;clear HB;clear HO_3;have BK334:=n0_;have HO347:=n1_;have HB:=n2_;have HO351:=n3_;clear n0_ n1_ n2_ n3_;clear ho hb hg hat;refine hK.out _ _ ?_;clear hK K;refine zq ?_;refine zp 9 3 (zm 10 1023) ?_;refine done_ (done_of HT_.out (by kernel_rfl)) ?_;(try go_wp2);go_roundg k1;(case measure=>have:=HK1.out;omega);case rel=>exact⟨(y349),(wrap64 (x9_1+1)),(zE _),H,⟨by have:=HK1.out;omega⟩,⟨by(with_reducible repeat(first|apply Kd.R_alloc|apply Kd.R_drewN|apply Kd.R_drew));exact Kd.R_mono HO351.out (fun _ hk=>trivial)⟩,⟨zb _⟩⟩
   rw[if_neg c29]at H;exact absurd H (by simp)
  revert H;refine zM fun t332 A37 H=>?_;obtain rfl:=Option.some.inj H;obtain⟨Ao38,co38,eo38⟩:=Kd.R_slice HO_3.out;subst eo38;go_wp2_with (first|((with_reducible refine gate_callee (f:=75) rfl ?_);refine zc (some 49) Tryz.func75 #[.slice Ao38 x3_1.length co38,.string (⟨#[32]⟩:ByteArray)] ?_;(with_reducible refine(strings_Join.calls _ _ x3_1 (⟨#[32]⟩:ByteArray) t332 _ ?side1 ?side2 A37.out).mono ?_);(case side1=>repeat(first|exact(Kd.R_reads' HO_3.out).2.2|(with_reducible refine Kd.C_alloc ?_ _)|(with_reducible refine Kd.C_drewN ?_ _)|(with_reducible refine Kd.C_drew ?_)));(case side2=>exact(Kd.R_reads' HO_3.out).2.1);rintro e w39 ⟨rfl,hb⟩;refine⟨_,rfl,?_⟩;replace HO_3:=Aside0.mk (Kd.R_below (zO HO_3) hb);replace HB:=zt w hb;(try clear hb);(try clear hb2);(try clear hk);(try clear hi)));go_ret;exact⟨ze _,zb _⟩
theorem impl_objectText.row2{e g:Nat}{W:World}{s0 s1:ByteArray}(h:W.heap[g]?=some (.cells #[.string s0,.string s1] e (0,0))):Kd.C Kd.string W (some ⟨g,0,none⟩) ([s0,s1]:List ByteArray).length [s0,s1]:=by
 refine⟨rfl,by show 2<=_;omega,fun _=>⟨_,rfl,fun j p hj=>⟨[.string p],rfl,rfl,fun i v hv=>?_⟩⟩⟩
 have hi:i=0:=by
  rcases i with _|i
  ·rfl
  ·simp at hv
 subst hi;(obtain rfl:Value.string p=v:=by simpa using hv);rcases j with _|_|j
 ·(obtain rfl:s0=p:=by simpa using hj);exact(blk_cell h 0).trans rfl
 ·(obtain rfl:s1=p:=by simpa using hj);exact(blk_cell h 1).trans rfl
 ·simp at hj
theorem impl_objectText.sp2{e:Nat}(g:Nat)(s0 s1 t:ByteArray)(w:World)(h:w.heap[g]?=some (.cells #[.string s0,.string s1] e (0,0)))(ht:impl_spaced.f [s0,s1]=some t) :
    Calls Tryz.prog 59 #[.slice (some ⟨g,0,none⟩) 2 2] w fun e w'=>e = .returned (.string t)/\Below w.heap.size w w':=
  impl_spaced.calls (some ⟨g,0,none⟩) 2 [s0,s1] t w (impl_objectText.row2 h) (Nat.le_refl _) ht
theorem impl_objectText.row4{e g:Nat}{W:World}{s0 s1 s2 s3:ByteArray}(h:W.heap[g]?=some (.cells #[.string s0,.string s1,.string s2,.string s3] e (0,0))):Kd.C Kd.string W (some ⟨g,0,none⟩) ([s0,s1,s2,s3]:List ByteArray).length [s0,s1,s2,s3]:=by
 refine⟨rfl,by show 4<=_;omega,fun _=>⟨_,rfl,fun j p hj=>⟨[.string p],rfl,rfl,fun i v hv=>?_⟩⟩⟩
 have hi:i=0:=by
  rcases i with _|i
  ·rfl
  ·simp at hv
 subst hi;(obtain rfl:Value.string p=v:=by simpa using hv);rcases j with _|_|_|_|j
 ·(obtain rfl:s0=p:=by simpa using hj);exact(blk_cell h 0).trans rfl
 ·(obtain rfl:s1=p:=by simpa using hj);exact(blk_cell h 1).trans rfl
 ·(obtain rfl:s2=p:=by simpa using hj);exact(blk_cell h 2).trans rfl
 ·(obtain rfl:s3=p:=by simpa using hj);exact(blk_cell h 3).trans rfl
 ·simp at hj
theorem impl_objectText.sp4{e:Nat}(g:Nat)(s0 s1 s2 s3 t:ByteArray)(w:World)(h:w.heap[g]?=some (.cells #[.string s0,.string s1,.string s2,.string s3] e (0,0)))(ht:impl_spaced.f [s0,s1,s2,s3]=some t) :
    Calls Tryz.prog 59 #[.slice (some ⟨g,0,none⟩) 4 4] w fun e w'=>e = .returned (.string t)/\Below w.heap.size w w':=
  impl_spaced.calls (some ⟨g,0,none⟩) 4 [s0,s1,s2,s3] t w (impl_objectText.row4 h) (Nat.le_refl _) ht
theorem impl_objectText.row5{e g:Nat}{W:World}{s0 s1 s2 s3 s4:ByteArray}(h:W.heap[g]?=some (.cells #[.string s0,.string s1,.string s2,.string s3,.string s4] e (0,0))):Kd.C Kd.string W (some ⟨g,0,none⟩) ([s0,s1,s2,s3,s4]:List ByteArray).length [s0,s1,s2,s3,s4]:=by
 refine⟨rfl,by show 5<=_;omega,fun _=>⟨_,rfl,fun j p hj=>⟨[.string p],rfl,rfl,fun i v hv=>?_⟩⟩⟩
 have hi:i=0:=by
  rcases i with _|i
  ·rfl
  ·simp at hv
 subst hi;(obtain rfl:Value.string p=v:=by simpa using hv);rcases j with _|_|_|_|_|j
 ·(obtain rfl:s0=p:=by simpa using hj);exact(blk_cell h 0).trans rfl
 ·(obtain rfl:s1=p:=by simpa using hj);exact(blk_cell h 1).trans rfl
 ·(obtain rfl:s2=p:=by simpa using hj);exact(blk_cell h 2).trans rfl
 ·(obtain rfl:s3=p:=by simpa using hj);exact(blk_cell h 3).trans rfl
 ·(obtain rfl:s4=p:=by simpa using hj);exact(blk_cell h 4).trans rfl
 ·simp at hj
theorem impl_objectText.sp5{e:Nat}(g:Nat)(s0 s1 s2 s3 s4 t:ByteArray)(w:World)(h:w.heap[g]?=some (.cells #[.string s0,.string s1,.string s2,.string s3,.string s4] e (0,0)))(ht:impl_spaced.f [s0,s1,s2,s3,s4]=some t) :
    Calls Tryz.prog 59 #[.slice (some ⟨g,0,none⟩) 5 5] w fun e w'=>e = .returned (.string t)/\Below w.heap.size w w':=
  impl_spaced.calls (some ⟨g,0,none⟩) 5 [s0,s1,s2,s3,s4] t w (impl_objectText.row5 h) (Nat.le_refl _) ht
theorem impl_objectText.row6{e g:Nat}{W:World}{s0 s1 s2 s3 s4 s5:ByteArray}(h:W.heap[g]?=some (.cells #[.string s0,.string s1,.string s2,.string s3,.string s4,.string s5] e (0,0))):Kd.C Kd.string W (some ⟨g,0,none⟩) ([s0,s1,s2,s3,s4,s5]:List ByteArray).length [s0,s1,s2,s3,s4,s5]:=by
 refine⟨rfl,by show 6<=_;omega,fun _=>⟨_,rfl,fun j p hj=>⟨[.string p],rfl,rfl,fun i v hv=>?_⟩⟩⟩
 have hi:i=0:=by
  rcases i with _|i
  ·rfl
  ·simp at hv
 subst hi;(obtain rfl:Value.string p=v:=by simpa using hv);rcases j with _|_|_|_|_|_|j
 ·(obtain rfl:s0=p:=by simpa using hj);exact(blk_cell h 0).trans rfl
 ·(obtain rfl:s1=p:=by simpa using hj);exact(blk_cell h 1).trans rfl
 ·(obtain rfl:s2=p:=by simpa using hj);exact(blk_cell h 2).trans rfl
 ·(obtain rfl:s3=p:=by simpa using hj);exact(blk_cell h 3).trans rfl
 ·(obtain rfl:s4=p:=by simpa using hj);exact(blk_cell h 4).trans rfl
 ·(obtain rfl:s5=p:=by simpa using hj);exact(blk_cell h 5).trans rfl
 ·simp at hj
theorem impl_objectText.sp6{e:Nat}(g:Nat)(s0 s1 s2 s3 s4 s5 t:ByteArray)(w:World)(h:w.heap[g]?=some (.cells #[.string s0,.string s1,.string s2,.string s3,.string s4,.string s5] e (0,0)))(ht:impl_spaced.f [s0,s1,s2,s3,s4,s5]=some t) :
    Calls Tryz.prog 59 #[.slice (some ⟨g,0,none⟩) 6 6] w fun e w'=>e = .returned (.string t)/\Below w.heap.size w w':=
  impl_spaced.calls (some ⟨g,0,none⟩) 6 [s0,s1,s2,s3,s4,s5] t w (impl_objectText.row6 h) (Nat.le_refl _) ht
def impl_objectText.St(bx:Array Value)(w:World)(acc:ByteArray)(wr:World):Prop:=Below w.heap.size w wr/\Go.Lib.IsBuilderF 91 5 (w.heap.size+1) (w.heap.size+1) (Go.Lib.byteCells acc.data.toList) wr/\wr.heap[w.heap.size]?=some (.cells bx 33 (0,0))/\w.heap.size+1<wr.heap.size
theorem impl_objectText.bldF{T e B b:Nat}{bs:List Value}{W W':World}(h:Go.Lib.IsBuilderF T e B b bs W)(hb:Below W.heap.size W W'):Go.Lib.IsBuilderF T e B b bs W':=by
 have own:∀ v,W.ownsRowF B e 1 v bs.length bs->W'.ownsRowF B e 1 v bs.length bs:=by
  intro v h;obtain⟨q1,q2⟩:=h;refine⟨q1,?_⟩;rcases q2 with q2|⟨g,cap,cur,fz,r1,r2,r3,r4⟩
  ·exact .inl q2
  ·exact .inr ⟨g,cap,cur,fz,r1,r2,(hb.block g (Array.getElem?_eq_some_iff.1 r3).1).trans r3,r4⟩
 have at_:∀ p,Go.Lib.BuilderAtF T e B b p bs W->Go.Lib.BuilderAtF T e B b p bs W':=by
  rintro p ⟨h1,v,h2,h3,h4⟩;have hlt:b<W.heap.size:=(Array.getElem?_eq_some_iff.1 h2).1;exact⟨h1,v,(hb.block b hlt).trans h2,own v h3,h4⟩
 exact h.elim (fun x=>.inl (at_ _ x)) (fun x=>.inr (at_ _ x))
theorem impl_objectText.St.step{bx:Array Value}{w:World}{acc:ByteArray}{wr w':World}(h:impl_objectText.St bx w acc wr)(hb:Below wr.heap.size wr w'):impl_objectText.St bx w acc w':=by
 obtain⟨h1,h2,h3,h4⟩:=h;exact⟨below_step h1 hb,impl_objectText.bldF h2 hb,(hb.block _ (Array.getElem?_eq_some_iff.1 h3).1).trans h3,Nat.lt_of_lt_of_le h4 hb.size⟩
theorem impl_objectText.St.gw{bx:Array Value}{w:World}{acc:ByteArray}{wr W:World}(h:impl_objectText.St bx w acc wr)(hG:GW w)(hb:Below wr.heap.size wr W):GW W:=GW.below hG (below_step h.1 hb)
theorem impl_objectText.write(bx:Array Value)(w:World)(acc t:ByteArray)(wr:World)(h:impl_objectText.St bx w acc wr)(hlen:acc.size+t.size<=140737488355328) :
    Calls Tryz.prog 58 #[.pointer (some ⟨w.heap.size+1,0,none⟩),.string t] wr fun e w'=>e = .returned (.tuple #[.int .i64 t.size,.nilIface])/\impl_objectText.St bx w (acc++t) w'/\Go.Lib.OthersKept 5 (some (w.heap.size+1)) wr w':=by
 have hl:(Go.Lib.byteCells acc.data.toList).length=acc.size:=by
  rw[Go.Lib.byteCells_length,Array.length_toList];rfl
 have hc:Go.Lib.byteCells acc.data.toList++Go.Lib.strCells t=Go.Lib.byteCells (acc++t).data.toList:=by
  rw[Go.Lib.strCells_eq,<-Go.Lib.byteCells_append,ByteArray.data_append,Array.toList_append]
 obtain⟨h1,h2,h3,h4⟩:=h;have hw:=Any.Builder_WriteString_k (ρ:=Tryz.lays156_ren) { Tryz.lays156 with} Tryz.Builder_Extra_156 (w.heap.size+1) (w.heap.size+1) (Go.Lib.byteCells acc.data.toList) t wr h2 (by rw[hl];exact hlen) (by omega);refine hw.mono ?_;rintro e w' ⟨rfl,hb,hB,hO⟩;rw[hc]at hb;exact⟨rfl,⟨Below.trans h1 (hB.mono (by omega)),.inr hb,(hB.block _ (by omega)).trans h3,Nat.lt_of_lt_of_le h4 hB.size⟩,hO⟩
theorem impl_objectText.kept{b gs:Nat}{cs:Array Value}{e:Nat}{W W':World}(h:Go.Lib.OthersKept 5 (some b) W W')(hg:W.heap[gs]?=some (.cells cs e (0,0)))(hb:b<gs)(he:e≠5):W'.heap[gs]?=some (.cells cs e (0,0)):=
  h gs _ hg (by simp only[ne_eq,Option.some.injEq];omega) (fun c fz hq=>by injection hq with _ hq;exact he hq)
def impl_objectText.patRow(k:Nat)(p:S79):Option ByteArray:=(impl_decimal.f p.f0).bind fun a=>(impl_decimal.f p.f1).bind fun b=>(impl_exprText.f k p.f2).bind fun e=>impl_spaced.f [(⟨#[112,97,116,99,104]⟩:ByteArray),a,b,e]
def impl_objectText.pats(k:Nat):List S79->ByteArray->Option ByteArray
  |[],acc=>some acc
  |p::r,acc=>(impl_objectText.patRow k p).bind fun t=>if acc.size+t.size<=140737488355328 then impl_objectText.pats k r (acc++t)else none
def impl_objectText.secRow(y:S71):Option ByteArray:=(impl_decimal.f y.f1).bind fun a=>(impl_decimal.f y.f2).bind fun b=>(impl_decimal.f y.f3).bind fun c=>(impl_hexText.f y.f4).bind fun d=>impl_spaced.f [(⟨#[115,101,99,116,105,111,110]⟩:ByteArray),y.f0,a,b,c,d]
def impl_objectText.secs(k:Nat):List S71->ByteArray->Option ByteArray
  |[],acc=>some acc
  |y::r,acc=>(impl_objectText.secRow y).bind fun t=>if acc.size+t.size<=140737488355328 then((impl_objectText.pats k y.f5 (acc++t)).bind fun acc2=>impl_objectText.secs k r acc2)else none
def impl_objectText.symRow(y:S72):Option ByteArray:=(impl_decimal.f y.f1).bind fun a=>(impl_decimal.f y.f2).bind fun b=>impl_spaced.f [(⟨#[115,121,109,98,111,108]⟩:ByteArray),y.f0,a,b,if y.f3=true then(⟨#[49]⟩:ByteArray)else(⟨#[48]⟩:ByteArray)]
def impl_objectText.syms:List S72->ByteArray->Option ByteArray
  |[],acc=>some acc
  |y::r,acc=>(impl_objectText.symRow y).bind fun t=>if acc.size+t.size<=140737488355328 then impl_objectText.syms r (acc++t)else none
def impl_objectText.assRow(k:Nat)(e:List S124):Option ByteArray:=(impl_exprText.f k e).bind fun a=>impl_spaced.f [(⟨#[97,115,115,101,114,116]⟩:ByteArray),a]
def impl_objectText.asss(k:Nat):List (List S124)->ByteArray->Option ByteArray
  |[],acc=>some acc
  |y::r,acc=>(impl_objectText.assRow k y).bind fun t=>if acc.size+t.size<=140737488355328 then impl_objectText.asss k r (acc++t)else none
def impl_objectText.f(k:Nat)(l0:List S71)(l1:List S72)(l2:List (List S124)):Option ByteArray:=(impl_objectText.secs k l0 (⟨#[]⟩:ByteArray)).bind fun a=>(impl_objectText.syms l1 a).bind fun b=>impl_objectText.asss k l2 b
theorem impl_objectText.c6{gs:Nat}{e:Nat}{w:World}{a0 a1 a2 a3 a4 a5:Value}(h:w.heap[gs]?=some (.cells #[a0,a1,a2,a3,a4,a5] e (0,0))):w.cell? ⟨gs,0,none⟩=some a0/\w.cell? ⟨gs,1,none⟩=some a1/\w.cell? ⟨gs,2,none⟩=some a2/\w.cell? ⟨gs,3,none⟩=some a3/\w.cell? ⟨gs,4,none⟩=some a4/\w.cell? ⟨gs,5,none⟩=some a5:=
  ⟨(blk_cell h 0).trans rfl,(blk_cell h 1).trans rfl,(blk_cell h 2).trans rfl,(blk_cell h 3).trans rfl,(blk_cell h 4).trans rfl,(blk_cell h 5).trans rfl⟩
theorem impl_objectText.c4{gs:Nat}{e:Nat}{w:World}{a0 a1 a2 a3:Value}(h:w.heap[gs]?=some (.cells #[a0,a1,a2,a3] e (0,0))):w.cell? ⟨gs,0,none⟩=some a0/\w.cell? ⟨gs,1,none⟩=some a1/\w.cell? ⟨gs,2,none⟩=some a2/\w.cell? ⟨gs,3,none⟩=some a3:=
  ⟨(blk_cell h 0).trans rfl,(blk_cell h 1).trans rfl,(blk_cell h 2).trans rfl,(blk_cell h 3).trans rfl⟩
theorem impl_objectText.c3{gs:Nat}{e:Nat}{w:World}{a0 a1 a2:Value}(h:w.heap[gs]?=some (.cells #[a0,a1,a2] e (0,0))):w.cell? ⟨gs,0,none⟩=some a0/\w.cell? ⟨gs,1,none⟩=some a1/\w.cell? ⟨gs,2,none⟩=some a2:=
  ⟨(blk_cell h 0).trans rfl,(blk_cell h 1).trans rfl,(blk_cell h 2).trans rfl⟩
set_option maxHeartbeats 16000000 in
set_option maxRecDepth 100000 in
theorem impl_objectText.calls(k:Nat)(A0_0:Option Addr)(c0_0:Nat)(l0_0:List S71)(A0_1:Option Addr)(c0_1:Nat)(l0_1:List S72)(A0_2:Option Addr)(c0_2:Nat)(l0_2:List (List S124))(r:ByteArray)(w:World)(hr0_0:Kd.C k71 w A0_0 l0_0.length l0_0)(hc0_0:l0_0.length<=c0_0)(hr0_1:Kd.C k72 w A0_1 l0_1.length l0_1)(hc0_1:l0_1.length<=c0_1)(hr0_2:Kd.C (Kd.slice 124 k124) w A0_2 l0_2.length l0_2)(hc0_2:l0_2.length<=c0_2)(hG:GW w)(h:impl_objectText.f k l0_0 l0_1 l0_2=some r) :
 Calls Tryz.prog 23 #[.agg #[.slice A0_0 l0_0.length c0_0,.slice A0_1 l0_1.length c0_1,.slice A0_2 l0_2.length c0_2]] w fun e w'=>e = .returned (.string r)/\Below w.heap.size w w':=by
 have hu33:=Tryz.underlying33;have hu71:=Tryz.underlying71;have hu79:=Tryz.underlying79;have hu72:=Tryz.underlying72;have hb0:l0_0.length<=9223372036854775807:=hr0_0.2.1;have hb1:l0_1.length<=9223372036854775807:=hr0_1.2.1;have hb2:l0_2.length<=9223372036854775807:=hr0_2.2.1;obtain⟨a1,h1,h⟩:=Option.bind_eq_some_iff.1 h;obtain⟨a2,h2,h3⟩:=Option.bind_eq_some_iff.1 h;have HR0:=Aside0.mk hr0_0;have HR1:=Aside0.mk hr0_1;have HR2:=Aside0.mk hr0_2;have HG:=Aside0.mk hG;have HF1:=Aside0.mk h1;have HF2:=Aside0.mk h2;have HF3:=Aside0.mk h3;clear hr0_0 hr0_1 hr0_2 hG h h1 h2 h3 hc0_0 hc0_1 hc0_2
 have HS0:=Aside0.mk (show impl_objectText.St #[.slice A0_0 l0_0.length c0_0,.slice A0_1 l0_1.length c0_1,.slice A0_2 l0_2.length c0_2] w (⟨#[]⟩:ByteArray) ((w.alloc (.cells #[.slice A0_0 l0_0.length c0_0,.slice A0_1 l0_1.length c0_1,.slice A0_2 l0_2.length c0_2] 33)).alloc (.cells #[.pointer none,.slice none 0 0] 91))from⟨by repeat(first|exact Below.refl _ _|apply below_alloc|apply pw_below_drewN|apply below_drew),Go.Lib.IsBuilderF.of (by
  have:=Go.Lib.fresh_isBuilder 91 5 (w.alloc (.cells #[.slice A0_0 l0_0.length c0_0,.slice A0_1 l0_1.length c0_1,.slice A0_2 l0_2.length c0_2] 33))
  rw[show(w.alloc (.cells #[.slice A0_0 l0_0.length c0_0,.slice A0_1 l0_1.length c0_1,.slice A0_2 l0_2.length c0_2] 33)).heap.size=w.heap.size+1 by simp]at this
  exact this),by
  show((w.heap.push _).push _)[w.heap.size]?=_
  rw[Array.getElem?_push_lt (by simp)]
  simp,by simp⟩)
 go_enter Tryz.func23,Tryz.ntmps23;go_wp2;generalize ((w.alloc (.cells #[.slice A0_0 l0_0.length c0_0,.slice A0_1 l0_1.length c0_1,.slice A0_2 l0_2.length c0_2] 33)).alloc (.cells #[.pointer none,.slice none 0 0] 91))=w1 at HS0 ⊢;go_loopg [16] l0_0.length (fun gg s_ wr=>∃(kk:Nat) (acc:ByteArray),kk<=l0_0.length/\l0_0.length - kk<=gg/\s_ = .int .i64 kk/\Aside0 (impl_objectText.St #[.slice A0_0 l0_0.length c0_0,.slice A0_1 l0_1.length c0_1,.slice A0_2 l0_2.length c0_2] w acc wr)/\Aside0 (impl_objectText.secs k (l0_0.drop kk) acc=some a1));case atStart=>exact⟨0,⟨#[]⟩,Nat.zero_le _,by omega,rfl,HS0,HF1⟩
 case round=>
  clear HF1 HS0;obtain⟨kk,acc,hkk,hg,rfl,HS,HA⟩:=hrel;by_cases hlt:kk<l0_0.length
  ·(have hltz:(kk:Int)<(l0_0.length:Int):=by omega);obtain⟨ad,A5,c5,eA,hcell,hcell1,hcell2,hcell3,hcell4,hcell5,hl5,hi5⟩:=at_T71 HR0.out (kk:Int) (by omega) (by omega)
   have hd:l0_0.drop kk=rd_T71 l0_0 kk::l0_0.drop (kk+1):=by
    rw[List.drop_eq_getElem_cons hlt,rd_T71,Int.toNat_natCast,List.getD_eq_getElem?_getD,List.getElem?_eq_getElem hlt];rfl
   have HA1:=HA.out;rw[hd,impl_objectText.secs]at HA1;rw[Int.toNat_natCast]at hcell hcell1 hcell2 hcell3 hcell4 hcell5;replace hcell:=pw_cell_below HS.out.1 hcell;replace hcell1:=pw_cell_below HS.out.1 hcell1;replace hcell2:=pw_cell_below HS.out.1 hcell2;replace hcell3:=pw_cell_below HS.out.1 hcell3;replace hcell4:=pw_cell_below HS.out.1 hcell4;replace hcell5:=pw_cell_below HS.out.1 hcell5;have HI5:=Aside0.mk hi5;have HL5:=Aside0.mk hl5;clear hi5 hl5;generalize rd_T71 l0_0 kk=y at hcell hcell1 hcell2 hcell3 hcell4 hcell5 HA1 HI5 HL5;obtain⟨t,ht,HA2⟩:=Option.bind_eq_some_iff.1 HA1;unfold impl_objectText.secRow at ht;obtain⟨va,ea,ht⟩:=Option.bind_eq_some_iff.1 ht;obtain⟨vb,eb,ht⟩:=Option.bind_eq_some_iff.1 ht;obtain⟨vc,ec,ht⟩:=Option.bind_eq_some_iff.1 ht;obtain⟨vd,ed,ht⟩:=Option.bind_eq_some_iff.1 ht;by_cases hs:acc.size+t.size<=140737488355328
   ·rw [if_pos hs]at HA2;obtain⟨acc2,hp,HA3⟩:=Option.bind_eq_some_iff.1 HA2;have EA:=Aside0.mk ea;have EB:=Aside0.mk eb;have EC:=Aside0.mk ec;have ED:=Aside0.mk ed;have ET:=Aside0.mk ht;have HP:=Aside0.mk hp;have HA4:=Aside0.mk HA3;have ZS:=Aside0.mk hs;clear hd HA HA1 HA2 HA3 ea eb ec ed ht hp hs;subst eA;go_wp2;have GLT:=Aside0.mk HS.out.2.2.2;have BK:=Aside0.mk (blk_new wr (.cells #[.string y.f0,.int .i64 y.f1,.int .i64 y.f2,.int .i64 y.f3,.string y.f4,.slice A5 y.f5.length c5] 71));have HSn:=Aside0.mk (HS.out.step (below_alloc (Below.refl _ _) (.cells #[.string y.f0,.int .i64 y.f1,.int .i64 y.f2,.int .i64 y.f3,.string y.f4,.slice A5 y.f5.length c5] 71)));clear HS hcell hcell1 hcell2 hcell3 hcell4 hcell5;have HS:=HSn;clear HSn;generalize wr.alloc (.cells #[.string y.f0,.int .i64 y.f1,.int .i64 y.f2,.int .i64 y.f3,.string y.f4,.slice A5 y.f5.length c5] 71)=w2 at BK HS ⊢;generalize wr.heap.size=gs at BK GLT ⊢;go_region_held3 (fun w'=>w'.cell? ⟨gs,0,none⟩=some (.string y.f0)/\w'.cell? ⟨gs,1,none⟩=some (.int .i64 y.f1)/\w'.cell? ⟨gs,2,none⟩=some (.int .i64 y.f2)/\w'.cell? ⟨gs,3,none⟩=some (.int .i64 y.f3)/\w'.cell? ⟨gs,4,none⟩=some (.string y.f4)/\w'.cell? ⟨gs,5,none⟩=some (.slice A5 y.f5.length c5)) (exact impl_objectText.c6 (by(with_reducible repeat(first|refine blk_drewN ?_ _|refine blk_drew ?_|refine blk_alloc ?_ _));exact BK.out)) (first|(go_at_call 60;(first|((with_reducible refine(impl_decimal.calls y.f1 va _ ?hg EA.out).mono ?_);(case hg=>exact HS.out.gw HG.out (by repeat(first|exact Below.refl _ _|apply below_alloc|apply pw_below_drewN|apply below_drew)));rintro e w' ⟨rfl,hb⟩;have HSn:=Aside0.mk (HS.out.step (below_step (by repeat(first|exact Below.refl _ _|apply below_alloc|apply pw_below_drewN|apply below_drew)) hb));have BKn:=Aside0.mk (blk_below (g:=gs) (o:=.cells #[.string y.f0,.int .i64 y.f1,.int .i64 y.f2,.int .i64 y.f3,.string y.f4,.slice A5 y.f5.length c5] 71 (0,0)) (by(with_reducible repeat(first|refine blk_drewN ?_ _|refine blk_drew ?_|refine blk_alloc ?_ _));exact BK.out) hb);clear HS BK hb;have HS:=HSn;have BK:=BKn;clear HSn BKn)|((with_reducible refine(impl_decimal.calls y.f2 vb _ ?hg EB.out).mono ?_);(case hg=>exact HS.out.gw HG.out (by repeat(first|exact Below.refl _ _|apply below_alloc|apply pw_below_drewN|apply below_drew)));rintro e w' ⟨rfl,hb⟩;have HSn:=Aside0.mk (HS.out.step (below_step (by repeat(first|exact Below.refl _ _|apply below_alloc|apply pw_below_drewN|apply below_drew)) hb));have BKn:=Aside0.mk (blk_below (g:=gs) (o:=.cells #[.string y.f0,.int .i64 y.f1,.int .i64 y.f2,.int .i64 y.f3,.string y.f4,.slice A5 y.f5.length c5] 71 (0,0)) (by(with_reducible repeat(first|refine blk_drewN ?_ _|refine blk_drew ?_|refine blk_alloc ?_ _));exact BK.out) hb);clear HS BK hb;have HS:=HSn;have BK:=BKn;clear HSn BKn)|((with_reducible refine(impl_decimal.calls y.f3 vc _ ?hg EC.out).mono ?_);(case hg=>exact HS.out.gw HG.out (by repeat(first|exact Below.refl _ _|apply below_alloc|apply pw_below_drewN|apply below_drew)));rintro e w' ⟨rfl,hb⟩;have HSn:=Aside0.mk (HS.out.step (below_step (by repeat(first|exact Below.refl _ _|apply below_alloc|apply pw_below_drewN|apply below_drew)) hb));have BKn:=Aside0.mk (blk_below (g:=gs) (o:=.cells #[.string y.f0,.int .i64 y.f1,.int .i64 y.f2,.int .i64 y.f3,.string y.f4,.slice A5 y.f5.length c5] 71 (0,0)) (by(with_reducible repeat(first|refine blk_drewN ?_ _|refine blk_drew ?_|refine blk_alloc ?_ _));exact BK.out) hb);clear HS BK hb;have HS:=HSn;have BK:=BKn;clear HSn BKn)))|(go_at_call 61;((with_reducible refine(impl_hexText.calls y.f4 vd _ ?hg ED.out).mono ?_);(case hg=>exact HS.out.gw HG.out (by repeat(first|exact Below.refl _ _|apply below_alloc|apply pw_below_drewN|apply below_drew)));rintro e w' ⟨rfl,hb⟩;have HSn:=Aside0.mk (HS.out.step (below_step (by repeat(first|exact Below.refl _ _|apply below_alloc|apply pw_below_drewN|apply below_drew)) hb));have BKn:=Aside0.mk (blk_below (g:=gs) (o:=.cells #[.string y.f0,.int .i64 y.f1,.int .i64 y.f2,.int .i64 y.f3,.string y.f4,.slice A5 y.f5.length c5] 71 (0,0)) (by(with_reducible repeat(first|refine blk_drewN ?_ _|refine blk_drew ?_|refine blk_alloc ?_ _));exact BK.out) hb);clear HS BK hb;have HS:=HSn;have BK:=BKn;clear HSn BKn))|(go_at_call 59;((with_reducible refine(impl_objectText.sp6 (e:=9) _ (⟨#[115,101,99,116,105,111,110]⟩:ByteArray) y.f0 va vb vc vd t _ ?hr ET.out).mono ?_);(case hr=>exact blk_new _ _);rintro e w' ⟨rfl,hb⟩;have HSn:=Aside0.mk (HS.out.step (below_step (by repeat(first|exact Below.refl _ _|apply below_alloc|apply pw_below_drewN|apply below_drew)) hb));have BKn:=Aside0.mk (blk_below (g:=gs) (o:=.cells #[.string y.f0,.int .i64 y.f1,.int .i64 y.f2,.int .i64 y.f3,.string y.f4,.slice A5 y.f5.length c5] 71 (0,0)) (by(with_reducible repeat(first|refine blk_drewN ?_ _|refine blk_drew ?_|refine blk_alloc ?_ _));exact BK.out) hb);clear HS BK hb;have HS:=HSn;have BK:=BKn;clear HSn BKn))|(go_at_call 58;((with_reducible refine(impl_objectText.write _ w acc t _ HS.out ZS.out).mono ?_);rintro e w' ⟨rfl,hb,hO⟩;have BKn:=Aside0.mk (impl_objectText.kept hO (by(with_reducible repeat(first|refine blk_drewN ?_ _|refine blk_drew ?_|refine blk_alloc ?_ _));exact BK.out) GLT.out (by decide));clear HS hO BK;have HS:=Aside0.mk hb;clear hb;have BK:=BKn;clear BKn)));have c5_:=(blk_cell BK.out 5).trans rfl;have hb5:y.f5.length<=9223372036854775807:=HI5.out.2.1;go_wp2;go_loopg [40] y.f5.length (fun gg s_ wr=>∃(jj:Nat) (acc:ByteArray),jj<=y.f5.length/\y.f5.length - jj<=gg/\s_ = .int .i64 jj/\Aside0 (impl_objectText.St #[.slice (some ad) l0_0.length c0_0,.slice A0_1 l0_1.length c0_1,.slice A0_2 l0_2.length c0_2] w acc wr)/\Aside0 (impl_objectText.pats k (y.f5.drop jj) acc=some acc2));case atStart=>exact⟨0,acc++t,Nat.zero_le _,by omega,rfl,HS,HP⟩
    case round=>
     clear HP HS BK c5_
     rename_i acc0_
     obtain⟨jj,acc,hjj,hgj,rfl,HS,HA⟩:=hrel;by_cases hlt:jj<y.f5.length
     ·have HJ5:=HI5;(have hltz:(jj:Int)<(y.f5.length:Int):=by omega);obtain⟨ad,A2,c2,eA,hcell,hcell1,hcell2,hl2,hi2⟩:=at_T79 HJ5.out (jj:Int) (by omega) (by omega)
      have hd:y.f5.drop jj=rd_T79 y.f5 jj::y.f5.drop (jj+1):=by
       rw[List.drop_eq_getElem_cons hlt,rd_T79,Int.toNat_natCast,List.getD_eq_getElem?_getD,List.getElem?_eq_getElem hlt];rfl
      have HA1:=HA.out;rw[hd,impl_objectText.pats]at HA1;rw[Int.toNat_natCast]at hcell hcell1 hcell2;replace hcell:=pw_cell_below HS.out.1 hcell;replace hcell1:=pw_cell_below HS.out.1 hcell1;replace hcell2:=pw_cell_below HS.out.1 hcell2;have HI2:=Aside0.mk hi2;have HL2:=Aside0.mk hl2;clear hi2 hl2;generalize rd_T79 y.f5 jj=p at hcell hcell1 hcell2 HA1 HI2 HL2;obtain⟨t,ht,HA2⟩:=Option.bind_eq_some_iff.1 HA1;clear HJ5;unfold impl_objectText.patRow at ht;obtain⟨va2,ea,ht⟩:=Option.bind_eq_some_iff.1 ht;obtain⟨vb2,eb,ht⟩:=Option.bind_eq_some_iff.1 ht;obtain⟨ve,ee,ht⟩:=Option.bind_eq_some_iff.1 ht;by_cases hs:acc.size+t.size<=140737488355328
      ·rw[if_pos hs]at HA2;have EA2:=Aside0.mk ea;have EB2:=Aside0.mk eb;have EE:=Aside0.mk ee;have ET:=Aside0.mk ht;have HA5:=Aside0.mk HA2;have ZS:=Aside0.mk hs;clear hd HA HA1 HA2 ea eb ee ht hs;subst eA;go_wp2;have GLT:=Aside0.mk HS.out.2.2.2;have BK:=Aside0.mk (blk_new wr (.cells #[.int .i64 p.f0,.int .i64 p.f1,.slice A2 p.f2.length c2] 79));have HSn:=Aside0.mk (HS.out.step (below_alloc (Below.refl _ _) (.cells #[.int .i64 p.f0,.int .i64 p.f1,.slice A2 p.f2.length c2] 79)));clear HS hcell hcell1 hcell2;have HS:=HSn;clear HSn;generalize wr.alloc (.cells #[.int .i64 p.f0,.int .i64 p.f1,.slice A2 p.f2.length c2] 79)=w2 at BK HS ⊢;generalize wr.heap.size=gs at BK GLT ⊢;go_region_held3 (fun w'=>w'.cell? ⟨gs,0,none⟩=some (.int .i64 p.f0)/\w'.cell? ⟨gs,1,none⟩=some (.int .i64 p.f1)/\w'.cell? ⟨gs,2,none⟩=some (.slice A2 p.f2.length c2)) (exact impl_objectText.c3 (by(with_reducible repeat(first|refine blk_drewN ?_ _|refine blk_drew ?_|refine blk_alloc ?_ _));exact BK.out)) (first|(go_at_call 60;(first|((with_reducible refine(impl_decimal.calls p.f0 va2 _ ?hg EA2.out).mono ?_);(case hg=>exact HS.out.gw HG.out (by repeat(first|exact Below.refl _ _|apply below_alloc|apply pw_below_drewN|apply below_drew)));rintro e w' ⟨rfl,hb⟩;have HSn:=Aside0.mk (HS.out.step (below_step (by repeat(first|exact Below.refl _ _|apply below_alloc|apply pw_below_drewN|apply below_drew)) hb));have BKn:=Aside0.mk (blk_below (g:=gs) (o:=.cells #[.int .i64 p.f0,.int .i64 p.f1,.slice A2 p.f2.length c2] 79 (0,0)) (by(with_reducible repeat(first|refine blk_drewN ?_ _|refine blk_drew ?_|refine blk_alloc ?_ _));exact BK.out) hb);clear HS BK hb;have HS:=HSn;have BK:=BKn;clear HSn BKn)|((with_reducible refine(impl_decimal.calls p.f1 vb2 _ ?hg EB2.out).mono ?_);(case hg=>exact HS.out.gw HG.out (by repeat(first|exact Below.refl _ _|apply below_alloc|apply pw_below_drewN|apply below_drew)));rintro e w' ⟨rfl,hb⟩;have HSn:=Aside0.mk (HS.out.step (below_step (by repeat(first|exact Below.refl _ _|apply below_alloc|apply pw_below_drewN|apply below_drew)) hb));have BKn:=Aside0.mk (blk_below (g:=gs) (o:=.cells #[.int .i64 p.f0,.int .i64 p.f1,.slice A2 p.f2.length c2] 79 (0,0)) (by(with_reducible repeat(first|refine blk_drewN ?_ _|refine blk_drew ?_|refine blk_alloc ?_ _));exact BK.out) hb);clear HS BK hb;have HS:=HSn;have BK:=BKn;clear HSn BKn)))|(go_at_call 62;((with_reducible refine(impl_exprText.calls k A2 c2 p.f2 ve _ ?hr HL2.out ?hg EE.out).mono ?_);(case hr=>exact Kd.C_below HI2.out (by repeat(first|exact HS.out.1|apply below_alloc|apply pw_below_drewN|apply below_drew1)));(case hg=>exact HS.out.gw HG.out (by repeat(first|exact Below.refl _ _|apply below_alloc|apply pw_below_drewN|apply below_drew)));rintro e w' ⟨rfl,hb⟩;have HSn:=Aside0.mk (HS.out.step (below_step (by repeat(first|exact Below.refl _ _|apply below_alloc|apply pw_below_drewN|apply below_drew)) hb));have BKn:=Aside0.mk (blk_below (g:=gs) (o:=.cells #[.int .i64 p.f0,.int .i64 p.f1,.slice A2 p.f2.length c2] 79 (0,0)) (by(with_reducible repeat(first|refine blk_drewN ?_ _|refine blk_drew ?_|refine blk_alloc ?_ _));exact BK.out) hb);clear HS BK hb;have HS:=HSn;have BK:=BKn;clear HSn BKn))|(go_at_call 59;((with_reducible refine(impl_objectText.sp4 (e:=9) _ (⟨#[112,97,116,99,104]⟩:ByteArray) va2 vb2 ve t _ ?hr ET.out).mono ?_);(case hr=>exact blk_new _ _);rintro e w' ⟨rfl,hb⟩;have HSn:=Aside0.mk (HS.out.step (below_step (by repeat(first|exact Below.refl _ _|apply below_alloc|apply pw_below_drewN|apply below_drew)) hb));have BKn:=Aside0.mk (blk_below (g:=gs) (o:=.cells #[.int .i64 p.f0,.int .i64 p.f1,.slice A2 p.f2.length c2] 79 (0,0)) (by(with_reducible repeat(first|refine blk_drewN ?_ _|refine blk_drew ?_|refine blk_alloc ?_ _));exact BK.out) hb);clear HS BK hb;have HS:=HSn;have BK:=BKn;clear HSn BKn))|(go_at_call 58;((with_reducible refine(impl_objectText.write _ w acc t _ HS.out ZS.out).mono ?_);rintro e w' ⟨rfl,hb,hO⟩;have BKn:=Aside0.mk (impl_objectText.kept hO (by(with_reducible repeat(first|refine blk_drewN ?_ _|refine blk_drew ?_|refine blk_alloc ?_ _));exact BK.out) GLT.out (by decide));clear HS hO BK;have HS:=Aside0.mk hb;clear hb;have BK:=BKn;clear BKn)));go_wp2;go_roundg (y.f5.length - (jj+1));(case measure=>omega);case rel=>exact⟨jj+1,acc++t,by omega,by omega,by go_num,HS,HA5⟩
      rw[if_neg hs]at HA2;cases HA2
     have hltz:¬ (jj:Int)<(y.f5.length:Int):=by omega
     have hr_:acc=acc2:=by
      have:=HA.out;rw[List.drop_eq_nil_of_le (by omega),impl_objectText.pats]at this;exact Option.some.inj this
     subst hr_;clear HA;go_wp2;go_roundg (l0_0.length - (kk+1));(case measure=>omega);case rel=>exact⟨kk+1,acc,by omega,by omega,by go_num,HS,HA4⟩
   rw[if_neg hs]at HA2;cases HA2
  have hltz:¬ (kk:Int)<(l0_0.length:Int):=by omega
  have hr_:acc=a1:=by
   have:=HA.out;rw[List.drop_eq_nil_of_le (by omega),impl_objectText.secs]at this;exact Option.some.inj this
  subst hr_;clear HA;have cb1_:=(blk_cell HS.out.2.2.1 1).trans rfl;go_wp2;go_loopg [61] l0_1.length (fun gg s_ wr=>∃(kk:Nat) (acc:ByteArray),kk<=l0_1.length/\l0_1.length - kk<=gg/\s_ = .int .i64 kk/\Aside0 (impl_objectText.St #[.slice A0_0 l0_0.length c0_0,.slice A0_1 l0_1.length c0_1,.slice A0_2 l0_2.length c0_2] w acc wr)/\Aside0 (impl_objectText.syms (l0_1.drop kk) acc=some a2));case atStart=>exact⟨0,acc,Nat.zero_le _,by omega,rfl,HS,HF2⟩
  case round=>
   clear HF2 HS cb1_ hlt hltz hkk hg;obtain⟨kk,acc,hkk,hg,rfl,HS,HA⟩:=hrel;by_cases hlt:kk<l0_1.length
   ·(have hltz:(kk:Int)<(l0_1.length:Int):=by omega);obtain⟨ad,eA,hcell,hcell1,hcell2,hcell3⟩:=at_T72 HR1.out (kk:Int) (by omega) (by omega)
    have hd:l0_1.drop kk=rd_T72 l0_1 kk::l0_1.drop (kk+1):=by
     rw[List.drop_eq_getElem_cons hlt,rd_T72,Int.toNat_natCast,List.getD_eq_getElem?_getD,List.getElem?_eq_getElem hlt];rfl
    have HA1:=HA.out;rw[hd,impl_objectText.syms]at HA1;rw[Int.toNat_natCast]at hcell hcell1 hcell2 hcell3;replace hcell:=pw_cell_below HS.out.1 hcell;replace hcell1:=pw_cell_below HS.out.1 hcell1;replace hcell2:=pw_cell_below HS.out.1 hcell2;replace hcell3:=pw_cell_below HS.out.1 hcell3;generalize rd_T72 l0_1 kk=y at hcell hcell1 hcell2 hcell3 HA1;obtain⟨t,ht,HA2⟩:=Option.bind_eq_some_iff.1 HA1;unfold impl_objectText.symRow at ht;obtain⟨va,ea,ht⟩:=Option.bind_eq_some_iff.1 ht;obtain⟨vb,eb,ht⟩:=Option.bind_eq_some_iff.1 ht;by_cases hs:acc.size+t.size<=140737488355328
    ·rw[if_pos hs]at HA2;clear hd HA HA1;obtain⟨y0,y1,y2,y3⟩:=y;dsimp only at hcell hcell1 hcell2 hcell3 ea eb ht;have EA:=Aside0.mk ea;have EB:=Aside0.mk eb;have HA4:=Aside0.mk HA2;have ZS:=Aside0.mk hs;clear HA2 ea eb hs;subst eA;cases y3
     case false=>
      rw[if_neg (by decide)]at ht;have ET:=Aside0.mk ht;clear ht;go_wp2;have GLT:=Aside0.mk HS.out.2.2.2;have BK:=Aside0.mk (blk_new wr (.cells #[.string y0,.int .i64 y1,.int .i64 y2,.bool false] 72));have HSn:=Aside0.mk (HS.out.step (below_alloc (Below.refl _ _) (.cells #[.string y0,.int .i64 y1,.int .i64 y2,.bool false] 72)));clear HS hcell hcell1 hcell2 hcell3;have HS:=HSn;clear HSn;generalize wr.alloc (.cells #[.string y0,.int .i64 y1,.int .i64 y2,.bool false] 72)=w2 at BK HS ⊢;generalize wr.heap.size=gs at BK GLT ⊢;have c3_:=(blk_cell BK.out 3).trans rfl;(try go_wp2);clear c3_;go_region_held3 (fun w'=>w'.cell? ⟨gs,0,none⟩=some (.string y0)/\w'.cell? ⟨gs,1,none⟩=some (.int .i64 y1)/\w'.cell? ⟨gs,2,none⟩=some (.int .i64 y2)/\w'.cell? ⟨gs,3,none⟩=some (.bool false)) (exact impl_objectText.c4 (by(with_reducible repeat(first|refine blk_drewN ?_ _|refine blk_drew ?_|refine blk_alloc ?_ _));exact BK.out)) (first|(go_at_call 60;(first|((with_reducible refine(impl_decimal.calls y1 va _ ?hg EA.out).mono ?_);(case hg=>exact HS.out.gw HG.out (by repeat(first|exact Below.refl _ _|apply below_alloc|apply pw_below_drewN|apply below_drew)));rintro e w' ⟨rfl,hb⟩;have HSn:=Aside0.mk (HS.out.step (below_step (by repeat(first|exact Below.refl _ _|apply below_alloc|apply pw_below_drewN|apply below_drew)) hb));have BKn:=Aside0.mk (blk_below (g:=gs) (o:=.cells #[.string y0,.int .i64 y1,.int .i64 y2,.bool false] 72 (0,0)) (by(with_reducible repeat(first|refine blk_drewN ?_ _|refine blk_drew ?_|refine blk_alloc ?_ _));exact BK.out) hb);clear HS BK hb;have HS:=HSn;have BK:=BKn;clear HSn BKn)|((with_reducible refine(impl_decimal.calls y2 vb _ ?hg EB.out).mono ?_);(case hg=>exact HS.out.gw HG.out (by repeat(first|exact Below.refl _ _|apply below_alloc|apply pw_below_drewN|apply below_drew)));rintro e w' ⟨rfl,hb⟩;have HSn:=Aside0.mk (HS.out.step (below_step (by repeat(first|exact Below.refl _ _|apply below_alloc|apply pw_below_drewN|apply below_drew)) hb));have BKn:=Aside0.mk (blk_below (g:=gs) (o:=.cells #[.string y0,.int .i64 y1,.int .i64 y2,.bool false] 72 (0,0)) (by(with_reducible repeat(first|refine blk_drewN ?_ _|refine blk_drew ?_|refine blk_alloc ?_ _));exact BK.out) hb);clear HS BK hb;have HS:=HSn;have BK:=BKn;clear HSn BKn)))|(go_at_call 59;((with_reducible refine(impl_objectText.sp5 (e:=9) _ (⟨#[115,121,109,98,111,108]⟩:ByteArray) y0 va vb (⟨#[48]⟩:ByteArray) t _ ?hr ET.out).mono ?_);(case hr=>exact blk_new _ _);rintro e w' ⟨rfl,hb⟩;have HSn:=Aside0.mk (HS.out.step (below_step (by repeat(first|exact Below.refl _ _|apply below_alloc|apply pw_below_drewN|apply below_drew)) hb));have BKn:=Aside0.mk (blk_below (g:=gs) (o:=.cells #[.string y0,.int .i64 y1,.int .i64 y2,.bool false] 72 (0,0)) (by(with_reducible repeat(first|refine blk_drewN ?_ _|refine blk_drew ?_|refine blk_alloc ?_ _));exact BK.out) hb);clear HS BK hb;have HS:=HSn;have BK:=BKn;clear HSn BKn))|(go_at_call 58;((with_reducible refine(impl_objectText.write _ w acc t _ HS.out ZS.out).mono ?_);rintro e w' ⟨rfl,hb,hO⟩;have BKn:=Aside0.mk (impl_objectText.kept hO (by(with_reducible repeat(first|refine blk_drewN ?_ _|refine blk_drew ?_|refine blk_alloc ?_ _));exact BK.out) GLT.out (by decide));clear HS hO BK;have HS:=Aside0.mk hb;clear hb;have BK:=BKn;clear BKn)));go_wp2;go_roundg (l0_1.length - (kk+1));(case measure=>omega);case rel=>exact⟨kk+1,acc++t,by omega,by omega,by go_num,HS,HA4⟩
     case true=>
      rw[if_pos rfl]at ht;have ET:=Aside0.mk ht;clear ht;go_wp2;have GLT:=Aside0.mk HS.out.2.2.2;have BK:=Aside0.mk (blk_new wr (.cells #[.string y0,.int .i64 y1,.int .i64 y2,.bool true] 72));have HSn:=Aside0.mk (HS.out.step (below_alloc (Below.refl _ _) (.cells #[.string y0,.int .i64 y1,.int .i64 y2,.bool true] 72)));clear HS hcell hcell1 hcell2 hcell3;have HS:=HSn;clear HSn;generalize wr.alloc (.cells #[.string y0,.int .i64 y1,.int .i64 y2,.bool true] 72)=w2 at BK HS ⊢;generalize wr.heap.size=gs at BK GLT ⊢;have c3_:=(blk_cell BK.out 3).trans rfl;(try go_wp2);clear c3_;go_region_held3 (fun w'=>w'.cell? ⟨gs,0,none⟩=some (.string y0)/\w'.cell? ⟨gs,1,none⟩=some (.int .i64 y1)/\w'.cell? ⟨gs,2,none⟩=some (.int .i64 y2)/\w'.cell? ⟨gs,3,none⟩=some (.bool true)) (exact impl_objectText.c4 (by(with_reducible repeat(first|refine blk_drewN ?_ _|refine blk_drew ?_|refine blk_alloc ?_ _));exact BK.out)) (first|(go_at_call 60;(first|((with_reducible refine(impl_decimal.calls y1 va _ ?hg EA.out).mono ?_);(case hg=>exact HS.out.gw HG.out (by repeat(first|exact Below.refl _ _|apply below_alloc|apply pw_below_drewN|apply below_drew)));rintro e w' ⟨rfl,hb⟩;have HSn:=Aside0.mk (HS.out.step (below_step (by repeat(first|exact Below.refl _ _|apply below_alloc|apply pw_below_drewN|apply below_drew)) hb));have BKn:=Aside0.mk (blk_below (g:=gs) (o:=.cells #[.string y0,.int .i64 y1,.int .i64 y2,.bool true] 72 (0,0)) (by(with_reducible repeat(first|refine blk_drewN ?_ _|refine blk_drew ?_|refine blk_alloc ?_ _));exact BK.out) hb);clear HS BK hb;have HS:=HSn;have BK:=BKn;clear HSn BKn)|((with_reducible refine(impl_decimal.calls y2 vb _ ?hg EB.out).mono ?_);(case hg=>exact HS.out.gw HG.out (by repeat(first|exact Below.refl _ _|apply below_alloc|apply pw_below_drewN|apply below_drew)));rintro e w' ⟨rfl,hb⟩;have HSn:=Aside0.mk (HS.out.step (below_step (by repeat(first|exact Below.refl _ _|apply below_alloc|apply pw_below_drewN|apply below_drew)) hb));have BKn:=Aside0.mk (blk_below (g:=gs) (o:=.cells #[.string y0,.int .i64 y1,.int .i64 y2,.bool true] 72 (0,0)) (by(with_reducible repeat(first|refine blk_drewN ?_ _|refine blk_drew ?_|refine blk_alloc ?_ _));exact BK.out) hb);clear HS BK hb;have HS:=HSn;have BK:=BKn;clear HSn BKn)))|(go_at_call 59;((with_reducible refine(impl_objectText.sp5 (e:=9) _ (⟨#[115,121,109,98,111,108]⟩:ByteArray) y0 va vb (⟨#[49]⟩:ByteArray) t _ ?hr ET.out).mono ?_);(case hr=>exact blk_new _ _);rintro e w' ⟨rfl,hb⟩;have HSn:=Aside0.mk (HS.out.step (below_step (by repeat(first|exact Below.refl _ _|apply below_alloc|apply pw_below_drewN|apply below_drew)) hb));have BKn:=Aside0.mk (blk_below (g:=gs) (o:=.cells #[.string y0,.int .i64 y1,.int .i64 y2,.bool true] 72 (0,0)) (by(with_reducible repeat(first|refine blk_drewN ?_ _|refine blk_drew ?_|refine blk_alloc ?_ _));exact BK.out) hb);clear HS BK hb;have HS:=HSn;have BK:=BKn;clear HSn BKn))|(go_at_call 58;((with_reducible refine(impl_objectText.write _ w acc t _ HS.out ZS.out).mono ?_);rintro e w' ⟨rfl,hb,hO⟩;have BKn:=Aside0.mk (impl_objectText.kept hO (by(with_reducible repeat(first|refine blk_drewN ?_ _|refine blk_drew ?_|refine blk_alloc ?_ _));exact BK.out) GLT.out (by decide));clear HS hO BK;have HS:=Aside0.mk hb;clear hb;have BK:=BKn;clear BKn)));go_wp2;go_roundg (l0_1.length - (kk+1));(case measure=>omega);case rel=>exact⟨kk+1,acc++t,by omega,by omega,by go_num,HS,HA4⟩
    rw[if_neg hs]at HA2;cases HA2
   have hltz:¬ (kk:Int)<(l0_1.length:Int):=by omega
   have hr_:acc=a2:=by
    have:=HA.out;rw[List.drop_eq_nil_of_le (by omega),impl_objectText.syms]at this;exact Option.some.inj this
   subst hr_;clear HA;have cb2_:=(blk_cell HS.out.2.2.1 2).trans rfl;go_wp2;go_loopg [83] l0_2.length (fun gg s_ wr=>∃(kk:Nat) (acc:ByteArray),kk<=l0_2.length/\l0_2.length - kk<=gg/\s_ = .int .i64 kk/\Aside0 (impl_objectText.St #[.slice A0_0 l0_0.length c0_0,.slice A0_1 l0_1.length c0_1,.slice A0_2 l0_2.length c0_2] w acc wr)/\Aside0 (impl_objectText.asss k (l0_2.drop kk) acc=some r));case atStart=>exact⟨0,acc,Nat.zero_le _,by omega,rfl,HS,HF3⟩
   case round=>
    clear HF3 HS cb2_ hlt hltz hkk hg;obtain⟨kk,acc,hkk,hg,rfl,HS,HA⟩:=hrel;by_cases hlt:kk<l0_2.length
    ·(have hltz:(kk:Int)<(l0_2.length:Int):=by omega);obtain⟨ad,A5,c5,eA,hcell,hl5,hi5⟩:=at_L3 HR2.out (kk:Int) (by omega) (by omega)
     have hd:l0_2.drop kk=rd_L3 l0_2 kk::l0_2.drop (kk+1):=by
      rw[List.drop_eq_getElem_cons hlt,rd_L3,Int.toNat_natCast,List.getD_eq_getElem?_getD,List.getElem?_eq_getElem hlt];rfl
     have HA1:=HA.out;rw[hd,impl_objectText.asss]at HA1;rw[Int.toNat_natCast]at hcell;replace hcell:=pw_cell_below HS.out.1 hcell;have HI5:=Aside0.mk hi5;have HL5:=Aside0.mk hl5;clear hi5 hl5;generalize rd_L3 l0_2 kk=y at hcell HA1 HI5 HL5;obtain⟨t,ht,HA2⟩:=Option.bind_eq_some_iff.1 HA1;unfold impl_objectText.assRow at ht;obtain⟨va,ea,ht⟩:=Option.bind_eq_some_iff.1 ht;by_cases hs:acc.size+t.size<=140737488355328
     ·rw[if_pos hs]at HA2;have EA:=Aside0.mk ea;have ET:=Aside0.mk ht;have HA4:=Aside0.mk HA2;have ZS:=Aside0.mk hs;clear hd HA HA1 HA2 ea ht hs;subst eA;go_wp2_with (first|(go_at_call 62;((with_reducible refine(impl_exprText.calls k A5 c5 y va _ ?hr HL5.out ?hg EA.out).mono ?_);(case hr=>exact Kd.C_below HI5.out (by repeat(first|exact HS.out.1|apply below_alloc|apply pw_below_drewN|apply below_drew1)));(case hg=>exact HS.out.gw HG.out (by repeat(first|exact Below.refl _ _|apply below_alloc|apply pw_below_drewN|apply below_drew)));rintro e w' ⟨rfl,hb⟩;have HSn:=Aside0.mk (HS.out.step (below_step (by repeat(first|exact Below.refl _ _|apply below_alloc|apply pw_below_drewN|apply below_drew)) hb));clear HS hb;have HS:=HSn;clear HSn))|(go_at_call 59;((with_reducible refine(impl_objectText.sp2 (e:=9) _ (⟨#[97,115,115,101,114,116]⟩:ByteArray) va t _ ?hr ET.out).mono ?_);(case hr=>exact blk_new _ _);rintro e w' ⟨rfl,hb⟩;have HSn:=Aside0.mk (HS.out.step (below_step (by repeat(first|exact Below.refl _ _|apply below_alloc|apply pw_below_drewN|apply below_drew)) hb));clear HS hb;have HS:=HSn;clear HSn))|(go_at_call 58;((with_reducible refine(impl_objectText.write _ w acc t _ HS.out ZS.out).mono ?_);rintro e w' ⟨rfl,hb,hO⟩;clear HS hO;have HS:=Aside0.mk hb;clear hb)));go_roundg (l0_2.length - (kk+1));(case measure=>omega);case rel=>exact⟨kk+1,acc++t,by omega,by omega,by go_num,HS,HA4⟩
     rw[if_neg hs]at HA2;cases HA2
    have hltz:¬ (kk:Int)<(l0_2.length:Int):=by omega
    have hr_:acc=r:=by
     have:=HA.out;rw[List.drop_eq_nil_of_le (by omega),impl_objectText.asss]at this;exact Option.some.inj this
    subst hr_;clear HA;go_wp2_with (go_at_call 63;refine(Tryz.Builder_String_any_f (w.heap.size+1) (w.heap.size+1) acc.data.toList _ HS.out.2.1 ?hw).mono ?_;(case hw=>have:=HS.out.2.2.2;omega);rintro e w' ⟨rfl,_,hb⟩);(first|go_ret|(apply bodyPost_ret;(exact results_tmp rfl _ _ _);rfl));exact⟨rfl,Below.trans HS.out.1 (hb.mono (by omega))⟩
end Go.Proofs.YtlacpadpdfccmaaGreatDoor.PFnExactReadObject
namespace Go.Proofs.YtlacpadpdfccmaaGreatDoor.PFnExactReadObject
open Go.RowKit Go.Proofs.YtlacpadpdfccmaaGreatDoor.Z Go.Proofs.YtlacpadpdfccmaaGreatDoorW.PrintWords Go.Proofs.YtlacpadpdfccmaaGreatDoorW.PrintLast Go.Proofs.YtlacpadpdfccmaaGreatDoorW.PrintMore
attribute [local go_sem] max2_int min2_int max_two min_two max_three min_three max_four min_four
set_option linter.unusedVariables false
set_option linter.unusedSimpArgs false
def strconv_ParseInt.f(a0:ByteArray)(a1 a2:Int):Option (Int×Option Int):=if a1=10 then(if a2=64 then(if a0.size<=140737488351232 then some (match Go.Lib.parseIntB 64 a0.data.toList with|.ok v=>(v,none)|.range=>(Go.Lib.intSat 64 a0.data.toList,some 1)|_=>(0,some 2))else none)else none)else none
def strconv_ParseInt.Ev(r:Option Int)(v:Value):Prop:=match r with|none=>v = .nilIface|some _=>∃ t p,v = .iface t p
theorem strconv_ParseInt.calls(a0:ByteArray)(a1 a2:Int)(r1:Int)(r2:Option Int)(w:World)(hG:GW w)(h:strconv_ParseInt.f a0 a1 a2=some (r1,r2)) :
 Calls Tryz.prog 113 #[.string a0,.int .i64 a1,.int .i64 a2] w fun e w'=>(∃ ev,e = .returned (.tuple #[.int .i64 r1,ev])/\strconv_ParseInt.Ev r2 ev)/\Below w.heap.size w w':=by
 unfold strconv_ParseInt.f at h;by_cases h1:a1=10
 ·by_cases h2:a2=64
  ·by_cases h3:a0.size<=140737488351232
   ·rw[if_pos h1,if_pos h2,if_pos h3]at h;subst h1;subst h2;obtain⟨u1,v1,g1⟩:=hG.errsx;obtain⟨u2,v2,g2⟩:=hG.errrg
    cases hp:Go.Lib.parseIntB 64 a0.data.toList with
    |ok v=>
     rw[hp]at h;obtain⟨rfl,rfl⟩:=Prod.mk.inj (Option.some.inj h);refine(Go.Proofs.Any.strconv_ParseInt_10_at64_ok Tryz.laysC174 a0 (by omega) v hp w).mono ?_;rintro e w' ⟨rfl,hw⟩;refine⟨⟨_,rfl,rfl⟩,?_⟩;rcases hw with rfl|⟨t,rfl⟩
     ·exact Below.refl _ _
     ·exact Go.Lib.bytesWorld_below _ _ _
    |range=>
     rw[hp]at h;obtain⟨rfl,rfl⟩:=Prod.mk.inj (Option.some.inj h);refine(Go.Proofs.Any.strconv_ParseInt_10_at64_range_var Tryz.laysC174 a0 (by omega) hp u2 v2 w g2).mono ?_;rintro e w' ⟨N,rfl,_,_,hb⟩;exact⟨⟨_,rfl,⟨_,_,rfl⟩⟩,hb⟩
    |_=>
     rw[hp]at h;obtain⟨rfl,rfl⟩:=Prod.mk.inj (Option.some.inj h);refine(Go.Proofs.Any.strconv_ParseInt_10_at64_syntax_var Tryz.laysC174 a0 (by omega) hp u1 v1 w g1).mono ?_;rintro e w' ⟨N,rfl,_,_,hb⟩;exact⟨⟨_,rfl,⟨_,_,rfl⟩⟩,hb⟩
   rw[if_pos h1,if_pos h2,if_neg h3]at h;cases h
  rw[if_pos h1,if_neg h2]at h;cases h
 rw[if_neg h1]at h;cases h
def impl_number.f(a0:ByteArray):Option (Int):=(strconv_ParseInt.f a0 10 64).bind fun bt352=>(if bt352.2.isNone=true then(some bt352.1)else(some 0))
set_option maxHeartbeats 8000000 in
set_option maxRecDepth 100000 in
theorem impl_number.calls(a0:ByteArray)(r:Int)(w:World)(hG:GW w)(h:impl_number.f a0=some r) :
 Calls Tryz.prog 72 #[.string a0] w fun e w'=>e = .returned (.int .i64 r)/\Below w.heap.size w w':=by
 have hu93:=Tryz.underlying93;have HB:=Aside0.mk (Below.refl w.heap.size w);have HG:=Aside0.mk hG;clear hG;have H:((strconv_ParseInt.f a0 10 64).bind fun bt352=>(if bt352.2.isNone=true then(some bt352.1)else(some 0)))=some r:=h;clear h;replace H:=Option.bind_eq_some_iff.mp H;obtain⟨⟨t352,t353⟩,A20,H⟩:=H;replace H:(if t353.isNone=true then(some t352)else(some 0))=some r:=H;have A2:=Aside0.mk A20;clear A20;rcases t353 with _|q354
 ·(have H1:(some t352)=some r:=by rw[if_pos (show(none:Option Int).isNone=true by rfl)]at H;exact H);clear H;have H:=H1;clear H1;(try simp only[errW_none,errW_some]);obtain rfl:=Option.some.inj H;go_enter Tryz.func72,Tryz.ntmps72;go_wp2_with (first|((with_reducible refine gate_callee (f:=113) rfl ?_);refine zc (some 7) Tryz.func113 #[.string a0,.int .i64 10,.int .i64 64] ?_;(with_reducible refine(strconv_ParseInt.calls a0 10 64 t352 none _ (GW.below HG.out (zb _)) A2.out).mono ?_);rintro e w3 ⟨⟨ev_,rfl,hev_⟩,hb⟩;obtain rfl:=hev_;refine⟨_,rfl,?_⟩;replace HB:=zt w hb;(try clear hb);(try clear hb2);(try clear hk);(try clear hi);(try simp only[errW_none,errW_some])));(first|go_ret|((try simp only[Exit.inBlock,Exit.then]);apply bodyPost_ret;(exact results_tmp rfl _ _ _);rfl));exact⟨ze _,zb _⟩
 ·(have H1:(some 0)=some r:=by rw[if_neg (show¬ (some q354).isNone=true by simp)]at H;exact H);clear H;have H:=H1;clear H1;(try simp only[errW_none,errW_some]);obtain rfl:=Option.some.inj H;go_enter Tryz.func72,Tryz.ntmps72;go_wp2_with (first|((with_reducible refine gate_callee (f:=113) rfl ?_);refine zc (some 7) Tryz.func113 #[.string a0,.int .i64 10,.int .i64 64] ?_;(with_reducible refine(strconv_ParseInt.calls a0 10 64 t352 (some q354) _ (GW.below HG.out (zb _)) A2.out).mono ?_);rintro e w4 ⟨⟨ev_,rfl,hev_⟩,hb⟩;obtain⟨te_,pe_,rfl⟩:=hev_;refine⟨_,rfl,?_⟩;replace HB:=zt w hb;(try clear hb);(try clear hb2);(try clear hk);(try clear hi);(try simp only[errW_none,errW_some])));(first|go_ret|((try simp only[Exit.inBlock,Exit.then]);apply bodyPost_ret;(exact results_tmp rfl _ _ _);rfl));exact⟨ze _,zb _⟩
def strings_IndexByte.f(a0:ByteArray)(a1:Int):Option Int:=some (Go.Lib.indexByte a0.data.toList a1.toNat.toUInt8)
theorem strings_IndexByte.calls(a0:ByteArray)(a1:Int)(r:Int)(w:World)(h:strings_IndexByte.f a0 a1=some r) :
 Calls Tryz.prog 136 #[.string a0,.int .u8 a1] w fun e w'=>e = .returned (.int .i64 r)/\Drawn0 w w':=by
 obtain rfl:=Option.some.inj h;refine(Tryz.strings_IndexByte a0 a1 w).mono ?_;rintro e w' ⟨rfl,rfl⟩;exact⟨rfl,Drawn0.refl _⟩
def impl_valueOf.l0:Nat->ByteArray->ByteArray->Int->Int->Int->Option (Int×Bool)
  |0,_,_,_,_,_=>none
  |k+1,x0,x1,x6,x10,x11=>if x11<x10 then(if 0<=x11 then(if x11<(x0.size:Int)then((strings_IndexByte.f x1 (bt x0 x11)).bind fun t355=>(if t355<0 then(some (0,false))else(if x6 > 65535 then(some (0,false))else(impl_valueOf.l0 k x0 x1 (wrap64 ((wrap64 (x6*(x1.size:Int)))+t355)) x10 (wrap64 (x11+1))))))else(none))else(none))else(if x0.toList=([]:List UInt8)then(some (x6,false))else(some (x6,decide (x6<=65535))))
def impl_valueOf.f(k:Nat)(a0:ByteArray)(a1:ByteArray):Option (Int×Bool):=impl_valueOf.l0 k a0 a1 0 (a0.size:Int) 0
set_option maxHeartbeats 8000000 in
set_option maxRecDepth 100000 in
theorem impl_valueOf.calls(k:Nat)(a0:ByteArray)(a1:ByteArray)(r1:Int)(r2:Bool)(w:World)(h:impl_valueOf.f k a0 a1=some (r1,r2)) :
 Calls Tryz.prog 114 #[.string a0,.string a1] w fun e w'=>e = .returned (.tuple #[.int .i64 r1,.bool r2])/\Drawn0 w w':=by
 have H:(impl_valueOf.l0 k a0 a1 0 (a0.size:Int) 0)=some (r1,r2):=h;clear h;replace H:=Aside0.mk H;go_enter Tryz.func114,Tryz.ntmps114;go_wp2;go_loopg [6,11] k (fun kq v6 v11 w'=>∃(x6_1:Int) (x11_1:Int),v6 = .int .i64 x6_1/\v11 = .int .i64 x11_1/\Aside0 (impl_valueOf.l0 kq a0 a1 x6_1 (a0.size:Int) x11_1=some (r1,r2))/\Aside0 (kq<=k)/\Drawn0 w w');case atStart=>exact⟨(0),(0),(zE _),(zE _),H,⟨Nat.le_refl _⟩,zd _⟩
 case round=>
  clear H;obtain⟨x6_1,x11_1,rfl,rfl,HA,HK1,⟨m1,rfl⟩⟩:=hrel;rcases gk with _|k1
  ·exact absurd HA.out (by simp[impl_valueOf.l0])
  have H:=HA.out;clear HA;simp only[impl_valueOf.l0]at H;revert H;refine zI (fun _ H=>?_) fun _ H=>?_
  ·revert H;refine zJ fun _ H=>?_;revert H;refine zJ fun _ H=>?_;revert H;refine zM fun t355 A7 H=>?_;revert H;refine zI (fun _ H=>?_) fun _ H=>?_
   ·simp only[Option.some.injEq,Prod.mk.injEq]at H;obtain⟨rfl,rfl⟩:=H;have p6:0<=(x11_1:Int):=of_decide_eq_true (za _);have q6:x11_1<(a0.size:Int):=of_decide_eq_true (za _);have hx6:=bt_at a0 x11_1;replace p6:=eq_true p6;replace q6:=eq_true q6;go_wp2_with (first|(refine zcf (f:=136) rfl Tryz.func136 (strings_IndexByte.calls a1 (bt a0 x11_1) t355 _ A7.out) (fun nd=>?_)));go_ret2;exact⟨zE _,zd _⟩
   revert H;refine zIg (fun _ H=>?_) fun _ H=>?_
   ·simp only[Option.some.injEq,Prod.mk.injEq]at H;obtain⟨rfl,rfl⟩:=H;have p6:0<=(x11_1:Int):=of_decide_eq_true (za _);have q6:x11_1<(a0.size:Int):=of_decide_eq_true (za _);have hx6:=bt_at a0 x11_1;replace p6:=eq_true p6;replace q6:=eq_true q6;go_wp2_with (first|(refine zcf (f:=136) rfl Tryz.func136 (strings_IndexByte.calls a1 (bt a0 x11_1) t355 _ A7.out) (fun nd=>?_)));go_ret2;exact⟨zE _,zd _⟩
   replace H:=Aside0.mk H;have p6:0<=(x11_1:Int):=of_decide_eq_true (za _);have q6:x11_1<(a0.size:Int):=of_decide_eq_true (za _);have hx6:=bt_at a0 x11_1;replace p6:=eq_true p6;replace q6:=eq_true q6;go_wp2_with (first|(refine zcf (f:=136) rfl Tryz.func136 (strings_IndexByte.calls a1 (bt a0 x11_1) t355 _ A7.out) (fun nd=>?_)));go_roundg k1;(case measure=>have:=HK1.out;omega);case rel=>exact⟨(wrap64 ((wrap64 (x6_1*(a1.size:Int)))+t355)),(wrap64 (x11_1+1)),(zE _),(zE _),H,⟨by have:=HK1.out;omega⟩,zd _⟩
  revert H;refine zKn (fun _ _ H=>?_) fun _ _ _ H=>?_
  ·simp only[Option.some.injEq,Prod.mk.injEq]at H;obtain⟨rfl,rfl⟩:=H;go_wp2;go_ret2;exact⟨zE _,zd _⟩
  simp only[Option.some.injEq,Prod.mk.injEq]at H;obtain⟨rfl,rfl⟩:=H;go_wp2;go_ret2;exact⟨zE _,zd _⟩
def impl_unhex.l0:Nat->ByteArray->List Int->Int->Option (ByteArray)
  |0,_,_,_=>none
  |k+1,x0,x3,x4=>if(wrap64 (x4+1))<(x0.size:Int)then(if 0<=x4 then(if x4<=(wrap64 (x4+2))then(if(wrap64 (x4+2))<=(x0.size:Int)then((impl_valueOf.f k (x0.extract (x4:Int).toNat ((wrap64 (x4+2)):Int).toNat) (⟨#[48,49,50,51,52,53,54,55,56,57,65,66,67,68,69,70]⟩:ByteArray)).bind fun bt359=>(if x3.length<140737488355328 then(impl_unhex.l0 k x0 (x3++[(bt359.1)%256]) (wrap64 (x4+2)))else(none)))else(none))else(none))else(none))else(some (strOfNums x3))
def impl_unhex.f(k:Nat)(a0:ByteArray):Option (ByteArray):=impl_unhex.l0 k a0 (([]:List Int)) 0
set_option maxHeartbeats 8000000 in
set_option maxRecDepth 100000 in
theorem impl_unhex.calls(k:Nat)(a0:ByteArray)(r:ByteArray)(w:World)(h:impl_unhex.f k a0=some r) :
 Calls Tryz.prog 73 #[.string a0] w fun e w'=>e = .returned (.string r)/\Below w.heap.size w w':=by
 have HB:=Aside0.mk (Below.refl w.heap.size w);have H:(impl_unhex.l0 k a0 (([]:List Int)) 0)=some r:=h;clear h;obtain⟨y356,hy356⟩:∃ y_:List Int,y_=(([]:List Int)):=⟨_,rfl⟩;(replace H:(impl_unhex.l0 k a0 y356 0)=some r:=by first|(rw[hy356];with_reducible exact H)|(have H2_:=(Option.bind_some _ _).symm.trans H;rw[hy356];with_reducible exact H2_)|(have H2_:=(Option.bind_some _ _).symm.trans H;with_reducible exact H2_)|with_reducible exact H|(rw[hy356];exact H)|exact H);have Ny356:=Aside0.mk hy356;clear hy356;replace H:=Aside0.mk H;go_enter Tryz.func73,Tryz.ntmps73;go_wp2_with (first|((with_reducible refine gate_dst (N:=7) rfl ?_);refine Kd.R_lit (Kd.int .u8) _ 5 ?hg (N:=7) ?hd (xs:=([]:List Int)) (inner:=[]) (ok:=fun _=>True) (okp:=fun _=>True) ?hr ?hp (fun _ hk=>hk) trivial (Below.refl _ _) (Nat.le_refl _) (by simp) ?_;(case hd=>rfl);(case hg=>rfl);(case hr=>first|(go_simp;done)|(go_simp;rfl));(case hp=>exact(Reps.none _ _));intro v357 w2 ho3 hb hg_ hnew_;clear hg_ hnew_;(first|rw[<-Ny356.out]at ho3|(simp only[Int.reduceToNat]at ho3;rw[<-Ny356.out]at ho3));have HO358:=Aside0.mk (Kd.R_lower ho3 (below_size (zb _)));replace HB:=zt w hb;clear hb ho3));go_loopg [3,4] k (fun kq v3 v4 w'=>∃(x3_1:List Int) (x4_1:Int),v4 = .int .i64 x4_1/\Aside0 (impl_unhex.l0 kq a0 x3_1 x4_1=some r)/\Aside0 (kq<=k)/\Aside0 (Kd.R (Kd.int .u8) 5 w' w.heap.size (fun _=>True) v3 x3_1)/\Aside0 (Below w.heap.size w w'));case atStart=>exact⟨(y356),(0),(zE _),H,⟨Nat.le_refl _⟩,⟨by(with_reducible repeat(first|apply Kd.R_alloc|apply Kd.R_drewN|apply Kd.R_drew));exact HO358.out⟩,⟨zb _⟩⟩
 case round=>
  clear H;obtain⟨x3_1,x4_1,rfl,HA,HK1,HO_3,HB⟩:=hrel;rcases gk with _|k1
  ·exact absurd HA.out (by simp[impl_unhex.l0])
  have H:=HA.out;clear HA;simp only[impl_unhex.l0]at H;revert H;refine zI (fun _ H=>?_) fun _ H=>?_
  ·revert H;refine zTj fun _ _ H=>?_;revert H;refine zTjk fun _ _ _ H=>?_;revert H;refine zTjk fun _ _ _ H=>?_;replace H:=Option.bind_eq_some_iff.mp H;obtain⟨⟨t359,t360⟩,A80,H⟩:=H;replace H:(if x3_1.length<140737488355328 then(impl_unhex.l0 k1 a0 (x3_1++[(t359)%256]) (wrap64 (x4_1+2)))else(none))=some r:=H;have A8:=Aside0.mk A80;clear A80;by_cases c9:x3_1.length<140737488355328
   ·rw[if_pos c9]at H;have LMc9:=Aside0.mk c9;clear c9;obtain⟨y361,hy361⟩:∃ y_:List Int,y_=(x3_1++[(t359)%256]):=⟨_,rfl⟩;(replace H:(impl_unhex.l0 k1 a0 y361 (wrap64 (x4_1+2)))=some r:=by first|(rw[hy361];with_reducible exact H)|(have H2_:=(Option.bind_some _ _).symm.trans H;rw[hy361];with_reducible exact H2_)|(have H2_:=(Option.bind_some _ _).symm.trans H;with_reducible exact H2_)|with_reducible exact H|(rw[hy361];exact H)|exact H);have Ny361:=Aside0.mk hy361;clear hy361;replace H:=Aside0.mk H;go_wp2_with (first|(refine zcf (f:=114) rfl Tryz.func114 (impl_valueOf.calls k1 (a0.extract (x4_1:Int).toNat ((wrap64 (x4_1+2)):Int).toNat) (⟨#[48,49,50,51,52,53,54,55,56,57,65,66,67,68,69,70]⟩:ByteArray) t359 t360 _ A8.out) (fun nd=>?_))|((with_reducible refine gate_builtin (b:=.append) (xs:=#[.tmp 24,.tmp 27]) rfl ?_);at_builtin;refine Kd.R_append (Kd.int .u8) (w0:=w) w.heap.size rfl (.tmp 24) (.tmp 27) 89 5 (.int .u8 0) 1 rfl Tryz.underlying89 info5 rfl (by decide) (by omega) u3 x3_1 ((t359)%256) [.int .u8 ((t359)%256)] (fun _=>True) (fun _=>False) rfl rfl ?aP (fun _ hk=>hk.elim) ?aF ?aO ?aB ?aS ?aL ?_;(case aP=>exact rfl);(case aB=>exact(zb _));(case aF=>exact(fun _ _=>trivial));(case aO=>exact(zO HO_3));(case aS=>exact(below_size (zb _)));(case aL=>have:=LMc9.out;omega);intro v362 w10 ho hb hg hat;rw[<-Ny361.out]at ho;have HO363:=Aside0.mk (ho);replace HB:=Aside0.mk (hb);clear HO_3;clear ho hb hg hat));go_roundg k1;(case measure=>have:=HK1.out;omega);case rel=>exact⟨(y361),(wrap64 (x4_1+2)),(zE _),H,⟨by have:=HK1.out;omega⟩,⟨by(with_reducible repeat(first|apply Kd.R_alloc|apply Kd.R_drewN|apply Kd.R_drew));exact HO363.out⟩,⟨zb _⟩⟩
   rw[if_neg c9]at H;exact absurd H (by simp)
  obtain rfl:=Option.some.inj H;have hcv11:=own_string (P:=Tryz.prog) Tryz.underlying89 Tryz.underlying5 Tryz.underlying9 (Kd.own_of_R HO_3.out);go_wp2;go_ret;exact⟨ze _,zb _⟩
def stringslite_HasPrefix.f(a0:ByteArray)(a1:ByteArray):Option (Bool):=if(a0.size:Int)>=(a1.size:Int)then(if 0<=(a1.size:Int)then(if(a1.size:Int)<=(a0.size:Int)then(some ((a0.extract 0 ((a1.size:Int):Int).toNat).toList==a1.toList))else(none))else(none))else(some false)
set_option maxHeartbeats 8000000 in
set_option maxRecDepth 100000 in
theorem stringslite_HasPrefix.calls(a0:ByteArray)(a1:ByteArray)(r:Bool)(w:World)(h:stringslite_HasPrefix.f a0 a1=some r) :
 Calls Tryz.prog 160 #[.string a0,.string a1] w fun e w'=>e = .returned (.bool r)/\Drawn0 w w':=by
 have H:(if(a0.size:Int)>=(a1.size:Int)then(if 0<=(a1.size:Int)then(if(a1.size:Int)<=(a0.size:Int)then(some ((a0.extract 0 ((a1.size:Int):Int).toNat).toList==a1.toList))else(none))else(none))else(some false))=some r:=h;clear h;by_cases c3:(a0.size:Int)>=(a1.size:Int)
 ·rw[if_pos c3]at H;have c3b0:decide ((a1.size:Int)<=(a0.size:Int))=true:=decide_eq_true c3;have c3b1:decide (a1.size<=a0.size)=true:=decide_eq_true (Int.ofNat_le.mp c3);clear c3;revert H;refine zTj fun _ _ H=>?_;revert H;refine zTj fun _ _ H=>?_;obtain rfl:=Option.some.inj H;go_enter Tryz.func160,Tryz.ntmps160;go_wp2;go_ret;exact⟨zE _,zd _⟩
 rw[if_neg c3]at H;have c3b0:decide ((a1.size:Int)<=(a0.size:Int))=false:=decide_eq_false c3;have c3b1:decide (a1.size<=a0.size)=false:=decide_eq_false (fun h=>c3 (Int.ofNat_le.mpr h));clear c3;obtain rfl:=Option.some.inj H;go_enter Tryz.func160,Tryz.ntmps160;go_wp2;go_ret;exact⟨zE _,zd _⟩
def stringslite_CutPrefix.f(a0:ByteArray)(a1:ByteArray):Option (ByteArray×Bool):=(stringslite_HasPrefix.f a0 a1).bind fun t364=>(if t364=true then(if 0<=(a1.size:Int)then(if(a1.size:Int)<=(a0.size:Int)then(some (a0.extract ((a1.size:Int):Int).toNat a0.size,true))else(none))else(none))else(some (a0,false)))
set_option maxHeartbeats 8000000 in
set_option maxRecDepth 100000 in
theorem stringslite_CutPrefix.calls(a0:ByteArray)(a1:ByteArray)(r1:ByteArray)(r2:Bool)(w:World)(h:stringslite_CutPrefix.f a0 a1=some (r1,r2)) :
 Calls Tryz.prog 137 #[.string a0,.string a1] w fun e w'=>e = .returned (.tuple #[.string r1,.bool r2])/\Drawn0 w w':=by
 have H:((stringslite_HasPrefix.f a0 a1).bind fun t364=>(if t364=true then(if 0<=(a1.size:Int)then(if(a1.size:Int)<=(a0.size:Int)then(some (a0.extract ((a1.size:Int):Int).toNat a0.size,true))else(none))else(none))else(some (a0,false))))=some (r1,r2):=h;clear h;revert H;refine zM fun t364 A3 H=>?_;cases t364
 ·replace H:=zB0 H;simp only[Option.some.injEq,Prod.mk.injEq]at H;obtain⟨rfl,rfl⟩:=H;go_enter Tryz.func137,Tryz.ntmps137;go_wp2_with (first|(refine zcf (f:=160) rfl Tryz.func160 (stringslite_HasPrefix.calls a0 a1 false _ A3.out) (fun nd=>?_)));go_ret2;exact⟨zE _,zd _⟩
 replace H:=zB1 H;revert H;refine zTj fun _ _ H=>?_;revert H;refine zTj fun _ _ H=>?_;simp only[Option.some.injEq,Prod.mk.injEq]at H;obtain⟨rfl,rfl⟩:=H;go_enter Tryz.func137,Tryz.ntmps137;go_wp2_with (first|(refine zcf (f:=160) rfl Tryz.func160 (stringslite_HasPrefix.calls a0 a1 true _ A3.out) (fun nd=>?_)));go_ret2;exact⟨zE _,zd _⟩
def strings_CutPrefix.f(a0:ByteArray)(a1:ByteArray):Option (ByteArray×Bool):=(stringslite_CutPrefix.f a0 a1).bind fun bt365=>(some (bt365.1,bt365.2))
set_option maxHeartbeats 8000000 in
set_option maxRecDepth 100000 in
theorem strings_CutPrefix.calls(a0:ByteArray)(a1:ByteArray)(r1:ByteArray)(r2:Bool)(w:World)(h:strings_CutPrefix.f a0 a1=some (r1,r2)) :
 Calls Tryz.prog 115 #[.string a0,.string a1] w fun e w'=>e = .returned (.tuple #[.string r1,.bool r2])/\Drawn0 w w':=by
 have H:((stringslite_CutPrefix.f a0 a1).bind fun bt365=>(some (bt365.1,bt365.2)))=some (r1,r2):=h;clear h;replace H:=Option.bind_eq_some_iff.mp H;obtain⟨⟨t365,t366⟩,A30,H⟩:=H;replace H:(some (t365,t366))=some (r1,r2):=H;have A3:=Aside0.mk A30;clear A30;simp only[Option.some.injEq,Prod.mk.injEq]at H;obtain⟨rfl,rfl⟩:=H;go_enter Tryz.func115,Tryz.ntmps115;go_wp2_with (first|(refine zcf (f:=137) rfl Tryz.func137 (stringslite_CutPrefix.calls a0 a1 t365 t366 _ A3.out) (fun nd=>?_)));go_ret2;exact⟨zE _,zd _⟩
def slices_Index_string_string.l0:Nat->List ByteArray->ByteArray->Int->Int->Option (Int)
  |0,_,_,_,_=>none
  |k+1,x0,x1,x7,x8=>if x8<x7 then(if 0<=x8 then(if x8<(x0.length:Int)then(if x1.toList=(rdOf ByteArray.empty x0 x8).toList then(some x8)else(slices_Index_string_string.l0 k x0 x1 x7 (wrap64 (x8+1))))else(none))else(none))else(some (-1))
def slices_Index_string_string.f(k:Nat)(l0:List ByteArray)(a1:ByteArray):Option (Int):=slices_Index_string_string.l0 k l0 a1 (l0.length:Int) 0
set_option maxHeartbeats 8000000 in
set_option maxRecDepth 100000 in
theorem slices_Index_string_string.calls(k:Nat)(A0:Option Addr)(c0:Nat)(l0:List ByteArray)(a1:ByteArray)(r:Int)(w:World)(hr0:Kd.C Kd.string w A0 l0.length l0)(hc0:l0.length<=c0)(h:slices_Index_string_string.f k l0 a1=some r) :
 Calls Tryz.prog 116 #[.slice A0 l0.length c0,.string a1] w fun e w'=>e = .returned (.int .i64 r)/\Drawn0 w w':=by
 have HR0:=Aside0.mk hr0;have HC0:=Aside0.mk hc0;clear hr0 hc0;have H:(slices_Index_string_string.l0 k l0 a1 (l0.length:Int) 0)=some r:=h;clear h;replace H:=Aside0.mk H;go_enter Tryz.func116,Tryz.ntmps116;go_wp2;go_loopg [8] k (fun kq v8 w'=>∃(x8_1:Int),v8 = .int .i64 x8_1/\Aside0 (slices_Index_string_string.l0 kq l0 a1 (l0.length:Int) x8_1=some r)/\Aside0 (kq<=k)/\Drawn0 w w');case atStart=>exact⟨(0),(zE _),H,⟨Nat.le_refl _⟩,zd _⟩
 case round=>
  clear H;obtain⟨x8_1,rfl,HA,HK1,⟨m1,rfl⟩⟩:=hrel;rcases gk with _|k1
  ·exact absurd HA.out (by simp[slices_Index_string_string.l0])
  have H:=HA.out;clear HA;simp only[slices_Index_string_string.l0]at H;revert H;refine zI (fun _ H=>?_) fun _ H=>?_
  ·revert H;refine zJ fun _ H=>?_;revert H;refine zJ fun _ H=>?_;revert H;refine zKn (fun _ _ H=>?_) fun _ _ _ H=>?_
   ·obtain rfl:=Option.some.inj H;have p367:0<=(x8_1:Int):=of_decide_eq_true (za _);have q367:x8_1<(l0.length:Int):=of_decide_eq_true (za _);obtain⟨ad367,e367,hx367_0⟩:=Kd.at_string HR0.out x8_1 p367 q367;cases e367;replace p367:=eq_true p367;replace q367:=eq_true q367;go_wp2;go_ret;exact⟨zE _,zd _⟩
   replace H:=Aside0.mk H;have p367:0<=(x8_1:Int):=of_decide_eq_true (za _);have q367:x8_1<(l0.length:Int):=of_decide_eq_true (za _);obtain⟨ad367,e367,hx367_0⟩:=Kd.at_string HR0.out x8_1 p367 q367;cases e367;replace p367:=eq_true p367;replace q367:=eq_true q367;go_wp2;go_roundg k1;(case measure=>have:=HK1.out;omega);case rel=>exact⟨(wrap64 (x8_1+1)),(zE _),H,⟨by have:=HK1.out;omega⟩,zd _⟩
  obtain rfl:=Option.some.inj H;go_wp2;go_ret;exact⟨zE _,zd _⟩
def impl_ReadExpr.l0:Nat->ByteArray->List (S124)->List ByteArray->Int->Int->Option ((List (S124))×Bool)
  |0,_,_,_,_,_=>none
  |k+1,x0,x5,x19,x20,x21=>if x21<x20 then(if 0<=x21 then(if x21<(x19.length:Int)then((strings_CutPrefix.f (rdOf ByteArray.empty x19 x21) (⟨#[35]⟩:ByteArray)).bind fun bt375=>((strconv_ParseInt.f (rdOf ByteArray.empty x19 x21) 10 64).bind fun bt377=>((impl_opWords.f).bind fun t379=>((slices_Index_string_string.f k t379 (rdOf ByteArray.empty x19 x21)).bind fun t382=>(if bt375.2=true then(if x5.length<4398046511104 then(impl_ReadExpr.l0 k x0 (x5++[(⟨3,0,bt375.1⟩:S124)]) x19 x20 (wrap64 (x21+1)))else(none))else(if t382>=0 then(if x5.length<4398046511104 then(impl_ReadExpr.l0 k x0 (x5++[(⟨wrap64 (4+t382),0,(⟨#[]⟩:ByteArray)⟩:S124)]) x19 x20 (wrap64 (x21+1)))else(none))else(if bt377.2.isNone=true then(if x5.length<4398046511104 then(impl_ReadExpr.l0 k x0 (x5++[(⟨1,bt377.1,(⟨#[]⟩:ByteArray)⟩:S124)]) x19 x20 (wrap64 (x21+1)))else(none))else(if x5.length<4398046511104 then(impl_ReadExpr.l0 k x0 (x5++[(⟨2,0,rdOf ByteArray.empty x19 x21⟩:S124)]) x19 x20 (wrap64 (x21+1)))else(none)))))))))else(none))else(none))else((impl_ExprOk.f k x5).bind fun t396=>(if t396=true then((impl_exprText.f k x5).bind fun t397=>(if t397.toList=x0.toList then(some (x5,true))else(some (([]:List (S124)),false))))else(some (([]:List (S124)),false))))
def impl_ReadExpr.f(k:Nat)(a0:ByteArray):Option ((List (S124))×Bool):=(strings_Split.f a0 (⟨#[32]⟩:ByteArray)).bind fun t368=>(if(t368.length:Int) > 30 then(some (([]:List (S124)),false))else(impl_ReadExpr.l0 k a0 (([]:List (S124))) t368 (t368.length:Int) 0))
set_option maxHeartbeats 8000000 in
set_option maxRecDepth 100000 in
theorem impl_ReadExpr.calls(k:Nat)(a0:ByteArray)(r1:List (S124))(r2:Bool)(w:World)(hG:GW w)(h:impl_ReadExpr.f k a0=some (r1,r2)) :
 Calls Tryz.prog 74 #[.string a0] w fun e w'=>∃ v0_:Value,e = .returned (.tuple #[v0_,.bool r2])/\Kd.R k124 124 w' w.heap.size (fun _=>True) v0_ r1/\Below w.heap.size w w':=by
 have hu124:=Tryz.underlying124;have hu93:=Tryz.underlying93;have HB:=Aside0.mk (Below.refl w.heap.size w);have HG:=Aside0.mk hG;clear hG;have H:((strings_Split.f a0 (⟨#[32]⟩:ByteArray)).bind fun t368=>(if(t368.length:Int) > 30 then(some (([]:List (S124)),false))else(impl_ReadExpr.l0 k a0 (([]:List (S124))) t368 (t368.length:Int) 0)))=some (r1,r2):=h;clear h;revert H;refine zM fun t368 A2 H=>?_;revert H;refine zIg (fun c3b0 H=>?_) fun c3b0 H=>?_
 ·have c3b1:decide (30<t368.length)=true:=decide_eq_true (by have:=of_decide_eq_true c3b0;omega);simp only[Option.some.injEq,Prod.mk.injEq]at H;obtain⟨rfl,rfl⟩:=H;go_enter Tryz.func74,Tryz.ntmps74;go_wp2_with (first|((with_reducible refine gate_callee (f:=29) rfl ?_);refine zc (some 14) Tryz.func29 #[.string a0,.string (⟨#[32]⟩:ByteArray)] ?_;(with_reducible refine(strings_Split.calls a0 (⟨#[32]⟩:ByteArray) t368 _ (GW.below HG.out (zb _)) A2.out).mono ?_);rintro e w4 ⟨v369,rfl,ho0,hb⟩;refine⟨_,rfl,?_⟩;have HO370:=Aside0.mk (Kd.R_lower ho0 (below_size (zb _)));replace HB:=zt w hb;(try clear hb);(try clear hb2);(try clear hk);(try clear hi);(try clear ho0);obtain⟨Ao5,co5,eo5⟩:=Kd.R_slice HO370.out;subst eo5));go_ret2;exact⟨_,by first|rfl|(simp[errW_none,errW_some] <;> rfl)|(simp[*,errW_none,errW_some] <;> rfl),by first|exact Kd.R_nil _ _ _ _ _|exact Kd.N_nil _ _ _ _ _|exact Kd.V_nil _ _ _ _ _|exact Kd.Q_nil _ _ _ _ _|exact Kd.S_nil _ _ _ _ _,zb _⟩
 have c3b1:decide (30<t368.length)=false:=decide_eq_false (by have:=of_decide_eq_false c3b0;omega);obtain⟨y371,hy371⟩:∃ y_:List (S124),y_=(([]:List (S124))):=⟨_,rfl⟩;(replace H:(impl_ReadExpr.l0 k a0 y371 t368 (t368.length:Int) 0)=some (r1,r2):=by first|(rw[hy371];with_reducible exact H)|(have H2_:=(Option.bind_some _ _).symm.trans H;rw[hy371];with_reducible exact H2_)|(have H2_:=(Option.bind_some _ _).symm.trans H;with_reducible exact H2_)|with_reducible exact H|(rw[hy371];exact H)|exact H);have Ny371:=Aside0.mk hy371;clear hy371;replace H:=Aside0.mk H;go_enter Tryz.func74,Tryz.ntmps74;go_wp2_with (first|((with_reducible refine gate_callee (f:=29) rfl ?_);refine zc (some 14) Tryz.func29 #[.string a0,.string (⟨#[32]⟩:ByteArray)] ?_;(with_reducible refine(strings_Split.calls a0 (⟨#[32]⟩:ByteArray) t368 _ (GW.below HG.out (zb _)) A2.out).mono ?_);rintro e w6 ⟨v369,rfl,ho0,hb⟩;refine⟨_,rfl,?_⟩;have HO370:=Aside0.mk (Kd.R_lower ho0 (below_size (zb _)));replace HB:=zt w hb;(try clear hb);(try clear hb2);(try clear hk);(try clear hi);(try clear ho0);obtain⟨Ao7,co7,eo7⟩:=Kd.R_slice HO370.out;subst eo7)|((with_reducible refine gate_dst (N:=18) rfl ?_);refine Kd.R_lit k124 _ 124 ?hg (N:=18) ?hd (xs:=([]:List (S124))) (inner:=[]) (ok:=fun _=>True) (okp:=fun _=>True) ?hr ?hp (fun _ hk=>hk) trivial (Below.refl _ _) (Nat.le_refl _) (by simp) ?_;(case hd=>rfl);(case hg=>rfl);(case hr=>first|(go_simp;done)|(go_simp;rfl));(case hp=>exact(Reps.none _ _));intro v372 w8 ho9 hb hg_ hnew_;clear hg_ hnew_;(first|rw[<-Ny371.out]at ho9|(simp only[Int.reduceToNat]at ho9;rw[<-Ny371.out]at ho9));have HO373:=Aside0.mk (Kd.R_lower ho9 (below_size (zb _)));replace HO370:=Aside0.mk (Kd.R_below (zO HO370) hb);replace HB:=zt w hb;clear hb ho9));go_loopg [5,21] k (fun kq v5 v21 w'=>∃(x5_1:List (S124)) (x21_1:Int),v21 = .int .i64 x21_1/\Aside0 (impl_ReadExpr.l0 kq a0 x5_1 t368 (t368.length:Int) x21_1=some (r1,r2))/\Aside0 (kq<=k)/\Aside0 (Kd.R k124 124 w' w.heap.size (fun _=>True) v5 x5_1)/\Aside0 (Kd.R Kd.string 9 w' w.heap.size (fun _=>True) (.slice Ao7 t368.length co7) t368)/\Aside0 (Below w.heap.size w w'));case atStart=>exact⟨(y371),(0),(zE _),H,⟨Nat.le_refl _⟩,⟨by(with_reducible repeat(first|apply Kd.R_alloc|apply Kd.R_drewN|apply Kd.R_drew));exact HO373.out⟩,⟨by(with_reducible repeat(first|apply Kd.R_alloc|apply Kd.R_drewN|apply Kd.R_drew));exact HO370.out⟩,⟨zb _⟩⟩
 case round=>
  clear H;obtain⟨x5_1,x21_1,rfl,HA,HK1,HO_5,HO_19,HB⟩:=hrel;rcases gk with _|k1
  ·exact absurd HA.out (by simp[impl_ReadExpr.l0])
  have H:=HA.out;clear HA;simp only[impl_ReadExpr.l0]at H;revert H;refine zI (fun _ H=>?_) fun _ H=>?_
  ·revert H;refine zJ fun _ H=>?_;revert H;refine zJ fun _ H=>?_;replace H:=Option.bind_eq_some_iff.mp H;obtain⟨⟨t375,t376⟩,A130,H⟩:=H;replace H:((strconv_ParseInt.f (rdOf ByteArray.empty t368 x21_1) 10 64).bind fun bt377=>((impl_opWords.f).bind fun t379=>((slices_Index_string_string.f k1 t379 (rdOf ByteArray.empty t368 x21_1)).bind fun t382=>(if t376=true then(if x5_1.length<4398046511104 then(impl_ReadExpr.l0 k1 a0 (x5_1++[(⟨3,0,t375⟩:S124)]) t368 (t368.length:Int) (wrap64 (x21_1+1)))else(none))else(if t382>=0 then(if x5_1.length<4398046511104 then(impl_ReadExpr.l0 k1 a0 (x5_1++[(⟨wrap64 (4+t382),0,(⟨#[]⟩:ByteArray)⟩:S124)]) t368 (t368.length:Int) (wrap64 (x21_1+1)))else(none))else(if bt377.2.isNone=true then(if x5_1.length<4398046511104 then(impl_ReadExpr.l0 k1 a0 (x5_1++[(⟨1,bt377.1,(⟨#[]⟩:ByteArray)⟩:S124)]) t368 (t368.length:Int) (wrap64 (x21_1+1)))else(none))else(if x5_1.length<4398046511104 then(impl_ReadExpr.l0 k1 a0 (x5_1++[(⟨2,0,rdOf ByteArray.empty t368 x21_1⟩:S124)]) t368 (t368.length:Int) (wrap64 (x21_1+1)))else(none))))))))=some (r1,r2):=H;have A13:=Aside0.mk A130;clear A130;replace H:=Option.bind_eq_some_iff.mp H;obtain⟨⟨t377,t378⟩,A140,H⟩:=H;replace H:((impl_opWords.f).bind fun t379=>((slices_Index_string_string.f k1 t379 (rdOf ByteArray.empty t368 x21_1)).bind fun t382=>(if t376=true then(if x5_1.length<4398046511104 then(impl_ReadExpr.l0 k1 a0 (x5_1++[(⟨3,0,t375⟩:S124)]) t368 (t368.length:Int) (wrap64 (x21_1+1)))else(none))else(if t382>=0 then(if x5_1.length<4398046511104 then(impl_ReadExpr.l0 k1 a0 (x5_1++[(⟨wrap64 (4+t382),0,(⟨#[]⟩:ByteArray)⟩:S124)]) t368 (t368.length:Int) (wrap64 (x21_1+1)))else(none))else(if t378.isNone=true then(if x5_1.length<4398046511104 then(impl_ReadExpr.l0 k1 a0 (x5_1++[(⟨1,t377,(⟨#[]⟩:ByteArray)⟩:S124)]) t368 (t368.length:Int) (wrap64 (x21_1+1)))else(none))else(if x5_1.length<4398046511104 then(impl_ReadExpr.l0 k1 a0 (x5_1++[(⟨2,0,rdOf ByteArray.empty t368 x21_1⟩:S124)]) t368 (t368.length:Int) (wrap64 (x21_1+1)))else(none)))))))=some (r1,r2):=H;have A14:=Aside0.mk A140;clear A140;revert H;refine zM fun t379 A15 H=>?_;revert H;refine zM fun t382 A16 H=>?_;cases t376
   ·replace H:=zB0 H;revert H;refine zIh (fun _ H=>?_) fun _ H=>?_
    ·by_cases c24:x5_1.length<4398046511104
     ·rw[if_pos c24]at H;have LMc24:=Aside0.mk c24;clear c24;obtain⟨y386,hy386⟩:∃ y_:List (S124),y_=(x5_1++[(⟨wrap64 (4+t382),0,(⟨#[]⟩:ByteArray)⟩:S124)]):=⟨_,rfl⟩;(replace H:(impl_ReadExpr.l0 k1 a0 y386 t368 (t368.length:Int) (wrap64 (x21_1+1)))=some (r1,r2):=by first|(rw[hy386];with_reducible exact H)|(have H2_:=(Option.bind_some _ _).symm.trans H;rw[hy386];with_reducible exact H2_)|(have H2_:=(Option.bind_some _ _).symm.trans H;with_reducible exact H2_)|with_reducible exact H|(rw[hy386];exact H)|exact H);have Ny386:=Aside0.mk hy386;clear hy386;replace H:=Aside0.mk H;have p374:0<=(x21_1:Int):=of_decide_eq_true (za _);have q374:x21_1<(t368.length:Int):=of_decide_eq_true (za _);obtain⟨ad374,e374,hx374_0⟩:=Kd.at_string (Kd.R_reads' HO_19.out).2.2 x21_1 p374 q374;cases e374;replace p374:=eq_true p374;replace q374:=eq_true q374;go_wp2_with (first|(refine zcf (f:=115) rfl Tryz.func115 (strings_CutPrefix.calls (rdOf ByteArray.empty t368 x21_1) (⟨#[35]⟩:ByteArray) t375 false _ A13.out) (fun nd=>?_))|((with_reducible refine gate_callee (f:=113) rfl ?_);refine zc (some 32) Tryz.func113 #[.string (rdOf ByteArray.empty t368 x21_1),.int .i64 10,.int .i64 64] ?_;(with_reducible refine(strconv_ParseInt.calls (rdOf ByteArray.empty t368 x21_1) 10 64 t377 t378 _ (GW.below HG.out (zb _)) A14.out).mono ?_);rintro e w25 ⟨⟨ev_,rfl,hev_⟩,hb⟩;clear hev_;refine⟨_,rfl,?_⟩;replace HO_5:=Aside0.mk (Kd.R_below (zO HO_5) hb);replace HO_19:=Aside0.mk (Kd.R_below (zO HO_19) hb);replace HB:=zt w hb;(try clear hb);(try clear hb2);(try clear hk);(try clear hi);(try simp only[errW_none,errW_some]))|((with_reducible refine gate_callee (f:=105) rfl ?_);refine zc (some 35) Tryz.func105 #[] ?_;(with_reducible refine(impl_opWords.calls t379 _ (GW.below HG.out (zb _)) A15.out).mono ?_);rintro e w26 ⟨v380,rfl,ho0,hb⟩;refine⟨_,rfl,?_⟩;have HO381:=Aside0.mk (Kd.R_lower (Kd.R_new' ho0 (Kd.R_lt (zO HO_19))) (below_size (zb _)));replace HO_5:=Aside0.mk (Kd.R_below (zO HO_5) hb);replace HO_19:=Aside0.mk (Kd.R_elder' (zO HO_19) (Kd.R_base ho0) hb);replace HB:=zt w hb;(try clear hb);(try clear hb2);(try clear hk);(try clear hi);(try clear ho0);obtain⟨Ao27,co27,eo27⟩:=Kd.R_slice HO381.out;subst eo27)|((with_reducible refine gate_callee (f:=116) rfl ?_);refine zc (some 37) Tryz.func116 #[.slice Ao27 t379.length co27,.string (rdOf ByteArray.empty t368 x21_1)] ?_;(with_reducible refine(slices_Index_string_string.calls k1 _ _ t379 (rdOf ByteArray.empty t368 x21_1) t382 _ ?side1 ?side2 A16.out).mono ?_);(case side1=>repeat(first|exact(Kd.R_reads' HO381.out).2.2|(with_reducible refine Kd.C_alloc ?_ _)|(with_reducible refine Kd.C_drewN ?_ _)|(with_reducible refine Kd.C_drew ?_)));(case side2=>exact(Kd.R_reads' HO381.out).2.1);rintro e w' ⟨rfl,⟨nd,rfl⟩⟩;refine⟨_,rfl,?_⟩)|((with_reducible refine gate_builtin (b:=.append) (xs:=#[.tmp 53,.tmp 57]) rfl ?_);at_builtin;refine Kd.R_append k124 (w0:=w) w.heap.size rfl (.tmp 53) (.tmp 57) 75 124 (.agg #[(.int .i64 0),(.int .i64 0),(.string ⟨#[]⟩)]) 32 rfl Tryz.underlying75 info124 rfl (by decide) (by omega) u5 x5_1 (⟨wrap64 (4+t382),0,(⟨#[]⟩:ByteArray)⟩:S124) [.int .i64 (wrap64 (4+t382)),.int .i64 0,.string (⟨#[]⟩:ByteArray)] (fun _=>True) (fun _=>False) rfl rfl ?aP (fun _ hk=>hk.elim) ?aF ?aO ?aB ?aS ?aL ?_;(case aP=>exact k124_mkM _ _ _ (⟨wrap64 (4+t382),0,(⟨#[]⟩:ByteArray)⟩:S124));(case aB=>exact(zb _));(case aF=>exact(fun _ _=>trivial));(case aO=>exact(zO HO_5));(case aS=>exact(below_size (zb _)));(case aL=>have:=LMc24.out;omega);intro v387 w28 ho hb hg hat;rw[<-Ny386.out]at ho;have HO388:=Aside0.mk (ho);replace HO_19:=Aside0.mk (Kd.R_over' (zO HO_19) (Kd.R_typed (zO HO_5)) (by decide) hg);replace HO381:=Aside0.mk (Kd.R_over' (zO HO381) (Kd.R_typed (zO HO_5)) (by decide) hg);replace HB:=Aside0.mk (hb);clear HO_5;clear ho hb hg hat));go_roundg k1;(case measure=>have:=HK1.out;omega);case rel=>exact⟨(y386),(wrap64 (x21_1+1)),(zE _),H,⟨by have:=HK1.out;omega⟩,⟨by(with_reducible repeat(first|apply Kd.R_alloc|apply Kd.R_drewN|apply Kd.R_drew));exact HO388.out⟩,⟨by(with_reducible repeat(first|apply Kd.R_alloc|apply Kd.R_drewN|apply Kd.R_drew));exact Kd.R_mono HO_19.out (fun _ hk=>trivial)⟩,⟨zb _⟩⟩
     rw[if_neg c24]at H;exact absurd H (by simp)
    rcases t378 with _|q389
    ·(have H1:(if x5_1.length<4398046511104 then(impl_ReadExpr.l0 k1 a0 (x5_1++[(⟨1,t377,(⟨#[]⟩:ByteArray)⟩:S124)]) t368 (t368.length:Int) (wrap64 (x21_1+1)))else(none))=some (r1,r2):=by rw[if_pos (show(none:Option Int).isNone=true by rfl)]at H;exact H);clear H;have H:=H1;clear H1;(try simp only[errW_none,errW_some]);by_cases c29:x5_1.length<4398046511104
     ·rw[if_pos c29]at H;have LMc29:=Aside0.mk c29;clear c29;obtain⟨y390,hy390⟩:∃ y_:List (S124),y_=(x5_1++[(⟨1,t377,(⟨#[]⟩:ByteArray)⟩:S124)]):=⟨_,rfl⟩;(replace H:(impl_ReadExpr.l0 k1 a0 y390 t368 (t368.length:Int) (wrap64 (x21_1+1)))=some (r1,r2):=by first|(rw[hy390];with_reducible exact H)|(have H2_:=(Option.bind_some _ _).symm.trans H;rw[hy390];with_reducible exact H2_)|(have H2_:=(Option.bind_some _ _).symm.trans H;with_reducible exact H2_)|with_reducible exact H|(rw[hy390];exact H)|exact H);have Ny390:=Aside0.mk hy390;clear hy390;replace H:=Aside0.mk H;have p374:0<=(x21_1:Int):=of_decide_eq_true (za _);have q374:x21_1<(t368.length:Int):=of_decide_eq_true (za _);obtain⟨ad374,e374,hx374_0⟩:=Kd.at_string (Kd.R_reads' HO_19.out).2.2 x21_1 p374 q374;cases e374;replace p374:=eq_true p374;replace q374:=eq_true q374;go_wp2_with (first|(refine zcf (f:=115) rfl Tryz.func115 (strings_CutPrefix.calls (rdOf ByteArray.empty t368 x21_1) (⟨#[35]⟩:ByteArray) t375 false _ A13.out) (fun nd=>?_))|((with_reducible refine gate_callee (f:=113) rfl ?_);refine zc (some 32) Tryz.func113 #[.string (rdOf ByteArray.empty t368 x21_1),.int .i64 10,.int .i64 64] ?_;(with_reducible refine(strconv_ParseInt.calls (rdOf ByteArray.empty t368 x21_1) 10 64 t377 none _ (GW.below HG.out (zb _)) A14.out).mono ?_);rintro e w30 ⟨⟨ev_,rfl,hev_⟩,hb⟩;obtain rfl:=hev_;refine⟨_,rfl,?_⟩;replace HO_5:=Aside0.mk (Kd.R_below (zO HO_5) hb);replace HO_19:=Aside0.mk (Kd.R_below (zO HO_19) hb);replace HB:=zt w hb;(try clear hb);(try clear hb2);(try clear hk);(try clear hi);(try simp only[errW_none,errW_some]))|((with_reducible refine gate_callee (f:=105) rfl ?_);refine zc (some 35) Tryz.func105 #[] ?_;(with_reducible refine(impl_opWords.calls t379 _ (GW.below HG.out (zb _)) A15.out).mono ?_);rintro e w31 ⟨v380,rfl,ho0,hb⟩;refine⟨_,rfl,?_⟩;have HO381:=Aside0.mk (Kd.R_lower (Kd.R_new' ho0 (Kd.R_lt (zO HO_19))) (below_size (zb _)));replace HO_5:=Aside0.mk (Kd.R_below (zO HO_5) hb);replace HO_19:=Aside0.mk (Kd.R_elder' (zO HO_19) (Kd.R_base ho0) hb);replace HB:=zt w hb;(try clear hb);(try clear hb2);(try clear hk);(try clear hi);(try clear ho0);obtain⟨Ao32,co32,eo32⟩:=Kd.R_slice HO381.out;subst eo32)|((with_reducible refine gate_callee (f:=116) rfl ?_);refine zc (some 37) Tryz.func116 #[.slice Ao32 t379.length co32,.string (rdOf ByteArray.empty t368 x21_1)] ?_;(with_reducible refine(slices_Index_string_string.calls k1 _ _ t379 (rdOf ByteArray.empty t368 x21_1) t382 _ ?side1 ?side2 A16.out).mono ?_);(case side1=>repeat(first|exact(Kd.R_reads' HO381.out).2.2|(with_reducible refine Kd.C_alloc ?_ _)|(with_reducible refine Kd.C_drewN ?_ _)|(with_reducible refine Kd.C_drew ?_)));(case side2=>exact(Kd.R_reads' HO381.out).2.1);rintro e w' ⟨rfl,⟨nd,rfl⟩⟩;refine⟨_,rfl,?_⟩)|((with_reducible refine gate_builtin (b:=.append) (xs:=#[.tmp 62,.tmp 65]) rfl ?_);at_builtin;refine Kd.R_append k124 (w0:=w) w.heap.size rfl (.tmp 62) (.tmp 65) 75 124 (.agg #[(.int .i64 0),(.int .i64 0),(.string ⟨#[]⟩)]) 32 rfl Tryz.underlying75 info124 rfl (by decide) (by omega) u5 x5_1 (⟨1,t377,(⟨#[]⟩:ByteArray)⟩:S124) [.int .i64 1,.int .i64 t377,.string (⟨#[]⟩:ByteArray)] (fun _=>True) (fun _=>False) rfl rfl ?aP (fun _ hk=>hk.elim) ?aF ?aO ?aB ?aS ?aL ?_;(case aP=>exact k124_mkM _ _ _ (⟨1,t377,(⟨#[]⟩:ByteArray)⟩:S124));(case aB=>exact(zb _));(case aF=>exact(fun _ _=>trivial));(case aO=>exact(zO HO_5));(case aS=>exact(below_size (zb _)));(case aL=>have:=LMc29.out;omega);intro v391 w33 ho hb hg hat;rw[<-Ny390.out]at ho;have HO392:=Aside0.mk (ho);replace HO_19:=Aside0.mk (Kd.R_over' (zO HO_19) (Kd.R_typed (zO HO_5)) (by decide) hg);replace HO381:=Aside0.mk (Kd.R_over' (zO HO381) (Kd.R_typed (zO HO_5)) (by decide) hg);replace HB:=Aside0.mk (hb);clear HO_5;clear ho hb hg hat));go_roundg k1;(case measure=>have:=HK1.out;omega);case rel=>exact⟨(y390),(wrap64 (x21_1+1)),(zE _),H,⟨by have:=HK1.out;omega⟩,⟨by(with_reducible repeat(first|apply Kd.R_alloc|apply Kd.R_drewN|apply Kd.R_drew));exact HO392.out⟩,⟨by(with_reducible repeat(first|apply Kd.R_alloc|apply Kd.R_drewN|apply Kd.R_drew));exact Kd.R_mono HO_19.out (fun _ hk=>trivial)⟩,⟨zb _⟩⟩
     rw[if_neg c29]at H;exact absurd H (by simp)
    ·(have H1:(if x5_1.length<4398046511104 then(impl_ReadExpr.l0 k1 a0 (x5_1++[(⟨2,0,rdOf ByteArray.empty t368 x21_1⟩:S124)]) t368 (t368.length:Int) (wrap64 (x21_1+1)))else(none))=some (r1,r2):=by rw[if_neg (show¬ (some q389).isNone=true by simp)]at H;exact H);clear H;have H:=H1;clear H1;(try simp only[errW_none,errW_some]);by_cases c34:x5_1.length<4398046511104
     ·rw[if_pos c34]at H;have LMc34:=Aside0.mk c34;clear c34;obtain⟨y393,hy393⟩:∃ y_:List (S124),y_=(x5_1++[(⟨2,0,rdOf ByteArray.empty t368 x21_1⟩:S124)]):=⟨_,rfl⟩;(replace H:(impl_ReadExpr.l0 k1 a0 y393 t368 (t368.length:Int) (wrap64 (x21_1+1)))=some (r1,r2):=by first|(rw[hy393];with_reducible exact H)|(have H2_:=(Option.bind_some _ _).symm.trans H;rw[hy393];with_reducible exact H2_)|(have H2_:=(Option.bind_some _ _).symm.trans H;with_reducible exact H2_)|with_reducible exact H|(rw[hy393];exact H)|exact H);have Ny393:=Aside0.mk hy393;clear hy393;replace H:=Aside0.mk H;have p374:0<=(x21_1:Int):=of_decide_eq_true (za _);have q374:x21_1<(t368.length:Int):=of_decide_eq_true (za _);obtain⟨ad374,e374,hx374_0⟩:=Kd.at_string (Kd.R_reads' HO_19.out).2.2 x21_1 p374 q374;cases e374;replace p374:=eq_true p374;replace q374:=eq_true q374;go_wp2_with (first|(refine zcf (f:=115) rfl Tryz.func115 (strings_CutPrefix.calls (rdOf ByteArray.empty t368 x21_1) (⟨#[35]⟩:ByteArray) t375 false _ A13.out) (fun nd=>?_))|((with_reducible refine gate_callee (f:=113) rfl ?_);refine zc (some 32) Tryz.func113 #[.string (rdOf ByteArray.empty t368 x21_1),.int .i64 10,.int .i64 64] ?_;(with_reducible refine(strconv_ParseInt.calls (rdOf ByteArray.empty t368 x21_1) 10 64 t377 (some q389) _ (GW.below HG.out (zb _)) A14.out).mono ?_);rintro e w35 ⟨⟨ev_,rfl,hev_⟩,hb⟩;obtain⟨te_,pe_,rfl⟩:=hev_;refine⟨_,rfl,?_⟩;replace HO_5:=Aside0.mk (Kd.R_below (zO HO_5) hb);replace HO_19:=Aside0.mk (Kd.R_below (zO HO_19) hb);replace HB:=zt w hb;(try clear hb);(try clear hb2);(try clear hk);(try clear hi);(try simp only[errW_none,errW_some]))|((with_reducible refine gate_callee (f:=105) rfl ?_);refine zc (some 35) Tryz.func105 #[] ?_;(with_reducible refine(impl_opWords.calls t379 _ (GW.below HG.out (zb _)) A15.out).mono ?_);rintro e w36 ⟨v380,rfl,ho0,hb⟩;refine⟨_,rfl,?_⟩;have HO381:=Aside0.mk (Kd.R_lower (Kd.R_new' ho0 (Kd.R_lt (zO HO_19))) (below_size (zb _)));replace HO_5:=Aside0.mk (Kd.R_below (zO HO_5) hb);replace HO_19:=Aside0.mk (Kd.R_elder' (zO HO_19) (Kd.R_base ho0) hb);replace HB:=zt w hb;(try clear hb);(try clear hb2);(try clear hk);(try clear hi);(try clear ho0);obtain⟨Ao37,co37,eo37⟩:=Kd.R_slice HO381.out;subst eo37)|((with_reducible refine gate_callee (f:=116) rfl ?_);refine zc (some 37) Tryz.func116 #[.slice Ao37 t379.length co37,.string (rdOf ByteArray.empty t368 x21_1)] ?_;(with_reducible refine(slices_Index_string_string.calls k1 _ _ t379 (rdOf ByteArray.empty t368 x21_1) t382 _ ?side1 ?side2 A16.out).mono ?_);(case side1=>repeat(first|exact(Kd.R_reads' HO381.out).2.2|(with_reducible refine Kd.C_alloc ?_ _)|(with_reducible refine Kd.C_drewN ?_ _)|(with_reducible refine Kd.C_drew ?_)));(case side2=>exact(Kd.R_reads' HO381.out).2.1);rintro e w' ⟨rfl,⟨nd,rfl⟩⟩;refine⟨_,rfl,?_⟩)|((with_reducible refine gate_builtin (b:=.append) (xs:=#[.tmp 38,.tmp 41]) rfl ?_);at_builtin;refine Kd.R_append k124 (w0:=w) w.heap.size rfl (.tmp 38) (.tmp 41) 75 124 (.agg #[(.int .i64 0),(.int .i64 0),(.string ⟨#[]⟩)]) 32 rfl Tryz.underlying75 info124 rfl (by decide) (by omega) u5 x5_1 (⟨2,0,rdOf ByteArray.empty t368 x21_1⟩:S124) [.int .i64 2,.int .i64 0,.string (rdOf ByteArray.empty t368 x21_1)] (fun _=>True) (fun _=>False) rfl rfl ?aP (fun _ hk=>hk.elim) ?aF ?aO ?aB ?aS ?aL ?_;(case aP=>exact k124_mkM _ _ _ (⟨2,0,rdOf ByteArray.empty t368 x21_1⟩:S124));(case aB=>exact(zb _));(case aF=>exact(fun _ _=>trivial));(case aO=>exact(zO HO_5));(case aS=>exact(below_size (zb _)));(case aL=>have:=LMc34.out;omega);intro v394 w38 ho hb hg hat;rw[<-Ny393.out]at ho;have HO395:=Aside0.mk (ho);replace HO_19:=Aside0.mk (Kd.R_over' (zO HO_19) (Kd.R_typed (zO HO_5)) (by decide) hg);replace HO381:=Aside0.mk (Kd.R_over' (zO HO381) (Kd.R_typed (zO HO_5)) (by decide) hg);replace HB:=Aside0.mk (hb);clear HO_5;clear ho hb hg hat));go_roundg k1;(case measure=>have:=HK1.out;omega);case rel=>exact⟨(y393),(wrap64 (x21_1+1)),(zE _),H,⟨by have:=HK1.out;omega⟩,⟨by(with_reducible repeat(first|apply Kd.R_alloc|apply Kd.R_drewN|apply Kd.R_drew));exact HO395.out⟩,⟨by(with_reducible repeat(first|apply Kd.R_alloc|apply Kd.R_drewN|apply Kd.R_drew));exact Kd.R_mono HO_19.out (fun _ hk=>trivial)⟩,⟨zb _⟩⟩
     rw[if_neg c34]at H;exact absurd H (by simp)
   replace H:=zB1 H;by_cases c18:x5_1.length<4398046511104
   ·rw[if_pos c18]at H;have LMc18:=Aside0.mk c18;clear c18;obtain⟨y383,hy383⟩:∃ y_:List (S124),y_=(x5_1++[(⟨3,0,t375⟩:S124)]):=⟨_,rfl⟩;(replace H:(impl_ReadExpr.l0 k1 a0 y383 t368 (t368.length:Int) (wrap64 (x21_1+1)))=some (r1,r2):=by first|(rw[hy383];with_reducible exact H)|(have H2_:=(Option.bind_some _ _).symm.trans H;rw[hy383];with_reducible exact H2_)|(have H2_:=(Option.bind_some _ _).symm.trans H;with_reducible exact H2_)|with_reducible exact H|(rw[hy383];exact H)|exact H);have Ny383:=Aside0.mk hy383;clear hy383;replace H:=Aside0.mk H;have p374:0<=(x21_1:Int):=of_decide_eq_true (za _);have q374:x21_1<(t368.length:Int):=of_decide_eq_true (za _);obtain⟨ad374,e374,hx374_0⟩:=Kd.at_string (Kd.R_reads' HO_19.out).2.2 x21_1 p374 q374;cases e374;replace p374:=eq_true p374;replace q374:=eq_true q374;go_wp2_with (first|(refine zcf (f:=115) rfl Tryz.func115 (strings_CutPrefix.calls (rdOf ByteArray.empty t368 x21_1) (⟨#[35]⟩:ByteArray) t375 true _ A13.out) (fun nd=>?_))|((with_reducible refine gate_callee (f:=113) rfl ?_);refine zc (some 32) Tryz.func113 #[.string (rdOf ByteArray.empty t368 x21_1),.int .i64 10,.int .i64 64] ?_;(with_reducible refine(strconv_ParseInt.calls (rdOf ByteArray.empty t368 x21_1) 10 64 t377 t378 _ (GW.below HG.out (zb _)) A14.out).mono ?_);rintro e w19 ⟨⟨ev_,rfl,hev_⟩,hb⟩;clear hev_;refine⟨_,rfl,?_⟩;replace HO_5:=Aside0.mk (Kd.R_below (zO HO_5) hb);replace HO_19:=Aside0.mk (Kd.R_below (zO HO_19) hb);replace HB:=zt w hb;(try clear hb);(try clear hb2);(try clear hk);(try clear hi);(try simp only[errW_none,errW_some]))|((with_reducible refine gate_callee (f:=105) rfl ?_);refine zc (some 35) Tryz.func105 #[] ?_;(with_reducible refine(impl_opWords.calls t379 _ (GW.below HG.out (zb _)) A15.out).mono ?_);rintro e w20 ⟨v380,rfl,ho0,hb⟩;refine⟨_,rfl,?_⟩;have HO381:=Aside0.mk (Kd.R_lower (Kd.R_new' ho0 (Kd.R_lt (zO HO_19))) (below_size (zb _)));replace HO_5:=Aside0.mk (Kd.R_below (zO HO_5) hb);replace HO_19:=Aside0.mk (Kd.R_elder' (zO HO_19) (Kd.R_base ho0) hb);replace HB:=zt w hb;(try clear hb);(try clear hb2);(try clear hk);(try clear hi);(try clear ho0);obtain⟨Ao21,co21,eo21⟩:=Kd.R_slice HO381.out;subst eo21)|((with_reducible refine gate_callee (f:=116) rfl ?_);refine zc (some 37) Tryz.func116 #[.slice Ao21 t379.length co21,.string (rdOf ByteArray.empty t368 x21_1)] ?_;(with_reducible refine(slices_Index_string_string.calls k1 _ _ t379 (rdOf ByteArray.empty t368 x21_1) t382 _ ?side1 ?side2 A16.out).mono ?_);(case side1=>repeat(first|exact(Kd.R_reads' HO381.out).2.2|(with_reducible refine Kd.C_alloc ?_ _)|(with_reducible refine Kd.C_drewN ?_ _)|(with_reducible refine Kd.C_drew ?_)));(case side2=>exact(Kd.R_reads' HO381.out).2.1);rintro e w' ⟨rfl,⟨nd,rfl⟩⟩;refine⟨_,rfl,?_⟩)|((with_reducible refine gate_builtin (b:=.append) (xs:=#[.tmp 45,.tmp 48]) rfl ?_);at_builtin;refine Kd.R_append k124 (w0:=w) w.heap.size rfl (.tmp 45) (.tmp 48) 75 124 (.agg #[(.int .i64 0),(.int .i64 0),(.string ⟨#[]⟩)]) 32 rfl Tryz.underlying75 info124 rfl (by decide) (by omega) u5 x5_1 (⟨3,0,t375⟩:S124) [.int .i64 3,.int .i64 0,.string t375] (fun _=>True) (fun _=>False) rfl rfl ?aP (fun _ hk=>hk.elim) ?aF ?aO ?aB ?aS ?aL ?_;(case aP=>exact k124_mkM _ _ _ (⟨3,0,t375⟩:S124));(case aB=>exact(zb _));(case aF=>exact(fun _ _=>trivial));(case aO=>exact(zO HO_5));(case aS=>exact(below_size (zb _)));(case aL=>have:=LMc18.out;omega);intro v384 w22 ho hb hg hat;rw[<-Ny383.out]at ho;have HO385:=Aside0.mk (ho);replace HO_19:=Aside0.mk (Kd.R_over' (zO HO_19) (Kd.R_typed (zO HO_5)) (by decide) hg);replace HO381:=Aside0.mk (Kd.R_over' (zO HO381) (Kd.R_typed (zO HO_5)) (by decide) hg);replace HB:=Aside0.mk (hb);clear HO_5;clear ho hb hg hat));go_roundg k1;(case measure=>have:=HK1.out;omega);case rel=>exact⟨(y383),(wrap64 (x21_1+1)),(zE _),H,⟨by have:=HK1.out;omega⟩,⟨by(with_reducible repeat(first|apply Kd.R_alloc|apply Kd.R_drewN|apply Kd.R_drew));exact HO385.out⟩,⟨by(with_reducible repeat(first|apply Kd.R_alloc|apply Kd.R_drewN|apply Kd.R_drew));exact Kd.R_mono HO_19.out (fun _ hk=>trivial)⟩,⟨zb _⟩⟩
   rw[if_neg c18]at H;exact absurd H (by simp)
  revert H;refine zM fun t396 A39 H=>?_;cases t396
  ·replace H:=zB0 H;simp only[Option.some.injEq,Prod.mk.injEq]at H;obtain⟨rfl,rfl⟩:=H;obtain⟨Ao49,co49,eo49⟩:=Kd.R_slice HO_5.out;subst eo49;go_wp2_with (first|((with_reducible refine gate_callee (f:=57) rfl ?_);refine zc (some 69) Tryz.func57 #[.slice Ao49 x5_1.length co49] ?_;(with_reducible refine(impl_ExprOk.calls k1 _ _ x5_1 false _ ?side1 ?side2 A39.out).mono ?_);(case side1=>repeat(first|exact(Kd.R_reads' HO_5.out).2.2|(with_reducible refine Kd.C_alloc ?_ _)|(with_reducible refine Kd.C_drewN ?_ _)|(with_reducible refine Kd.C_drew ?_)));(case side2=>exact(Kd.R_reads' HO_5.out).2.1);rintro e w50 ⟨rfl,hb⟩;refine⟨_,rfl,?_⟩;replace HO_5:=Aside0.mk (Kd.R_below (zO HO_5) hb);replace HO_19:=Aside0.mk (Kd.R_below (zO HO_19) hb);replace HB:=zt w hb;(try clear hb);(try clear hb2);(try clear hk);(try clear hi)));go_ret2;exact⟨_,by first|rfl|(simp[errW_none,errW_some] <;> rfl)|(simp[*,errW_none,errW_some] <;> rfl),by first|exact Kd.R_nil _ _ _ _ _|exact Kd.N_nil _ _ _ _ _|exact Kd.V_nil _ _ _ _ _|exact Kd.Q_nil _ _ _ _ _|exact Kd.S_nil _ _ _ _ _,zb _⟩
  replace H:=zB1 H;revert H;refine zM fun t397 A41 H=>?_;revert H;refine zKn (fun _ _ H=>?_) fun _ _ _ H=>?_
  ·simp only[Option.some.injEq,Prod.mk.injEq]at H;obtain⟨rfl,rfl⟩:=H;obtain⟨Ao43,co43,eo43⟩:=Kd.R_slice HO_5.out;subst eo43;go_wp2_with (first|((with_reducible refine gate_callee (f:=57) rfl ?_);refine zc (some 69) Tryz.func57 #[.slice Ao43 x5_1.length co43] ?_;(with_reducible refine(impl_ExprOk.calls k1 _ _ x5_1 true _ ?side1 ?side2 A39.out).mono ?_);(case side1=>repeat(first|exact(Kd.R_reads' HO_5.out).2.2|(with_reducible refine Kd.C_alloc ?_ _)|(with_reducible refine Kd.C_drewN ?_ _)|(with_reducible refine Kd.C_drew ?_)));(case side2=>exact(Kd.R_reads' HO_5.out).2.1);rintro e w44 ⟨rfl,hb⟩;refine⟨_,rfl,?_⟩;replace HO_5:=Aside0.mk (Kd.R_below (zO HO_5) hb);replace HO_19:=Aside0.mk (Kd.R_below (zO HO_19) hb);replace HB:=zt w hb;(try clear hb);(try clear hb2);(try clear hk);(try clear hi))|(go_at_call 62;(with_reducible refine(impl_exprText.calls k1 _ _ x5_1 t397 _ ?side1 ?side2 (GW.below HG.out (zb _)) A41.out).mono ?_);(case side1=>repeat(first|exact(Kd.R_reads' HO_5.out).2.2|(with_reducible refine Kd.C_alloc ?_ _)|(with_reducible refine Kd.C_drewN ?_ _)|(with_reducible refine Kd.C_drew ?_)));(case side2=>exact(Kd.R_reads' HO_5.out).2.1);rintro e w45 ⟨rfl,hb⟩;replace HO_5:=Aside0.mk (Kd.R_below (zO HO_5) hb);replace HO_19:=Aside0.mk (Kd.R_below (zO HO_19) hb);replace HB:=zt w hb;(try clear hb);(try clear hb2);(try clear hk);(try clear hi)));go_ret2;exact⟨_,by first|rfl|(simp[errW_none,errW_some] <;> rfl)|(simp[*,errW_none,errW_some] <;> rfl),by(with_reducible repeat(first|apply Kd.R_alloc|apply Kd.R_drewN|apply Kd.R_drew));exact HO_5.out,zb _⟩
  simp only[Option.some.injEq,Prod.mk.injEq]at H;obtain⟨rfl,rfl⟩:=H;obtain⟨Ao46,co46,eo46⟩:=Kd.R_slice HO_5.out;subst eo46;go_wp2_with (first|((with_reducible refine gate_callee (f:=57) rfl ?_);refine zc (some 69) Tryz.func57 #[.slice Ao46 x5_1.length co46] ?_;(with_reducible refine(impl_ExprOk.calls k1 _ _ x5_1 true _ ?side1 ?side2 A39.out).mono ?_);(case side1=>repeat(first|exact(Kd.R_reads' HO_5.out).2.2|(with_reducible refine Kd.C_alloc ?_ _)|(with_reducible refine Kd.C_drewN ?_ _)|(with_reducible refine Kd.C_drew ?_)));(case side2=>exact(Kd.R_reads' HO_5.out).2.1);rintro e w47 ⟨rfl,hb⟩;refine⟨_,rfl,?_⟩;replace HO_5:=Aside0.mk (Kd.R_below (zO HO_5) hb);replace HO_19:=Aside0.mk (Kd.R_below (zO HO_19) hb);replace HB:=zt w hb;(try clear hb);(try clear hb2);(try clear hk);(try clear hi))|(go_at_call 62;(with_reducible refine(impl_exprText.calls k1 _ _ x5_1 t397 _ ?side1 ?side2 (GW.below HG.out (zb _)) A41.out).mono ?_);(case side1=>repeat(first|exact(Kd.R_reads' HO_5.out).2.2|(with_reducible refine Kd.C_alloc ?_ _)|(with_reducible refine Kd.C_drewN ?_ _)|(with_reducible refine Kd.C_drew ?_)));(case side2=>exact(Kd.R_reads' HO_5.out).2.1);rintro e w48 ⟨rfl,hb⟩;replace HO_5:=Aside0.mk (Kd.R_below (zO HO_5) hb);replace HO_19:=Aside0.mk (Kd.R_below (zO HO_19) hb);replace HB:=zt w hb;(try clear hb);(try clear hb2);(try clear hk);(try clear hi)));go_ret2;exact⟨_,by first|rfl|(simp[errW_none,errW_some] <;> rfl)|(simp[*,errW_none,errW_some] <;> rfl),by first|exact Kd.R_nil _ _ _ _ _|exact Kd.N_nil _ _ _ _ _|exact Kd.V_nil _ _ _ _ _|exact Kd.Q_nil _ _ _ _ _|exact Kd.S_nil _ _ _ _ _,zb _⟩
end Go.Proofs.YtlacpadpdfccmaaGreatDoor.PFnExactReadObject
