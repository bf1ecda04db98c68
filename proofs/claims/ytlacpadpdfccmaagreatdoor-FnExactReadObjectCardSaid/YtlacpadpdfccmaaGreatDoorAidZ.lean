/-
Steps of a walk in short words: what such a step asks is shown by the tactics that stand with the step's own words;with no program in sight.
-/
import Derived.Test.YtlacpadpdfccmaaGreatDoorAidA
import Derived.Test.YtlacpadpdfccmaaGreatDoorWLast
import Derived.Test.YtlacpadpdfccmaaGreatDoorWMore
import Derived.Test.YtlacpadpdfccmaaGreatDoorWTab
namespace Go.Proofs.YtlacpadpdfccmaaGreatDoor.Z
open Go.RowKit Go.Proofs.YtlacpadpdfccmaaGreatDoor.Aid Go.Proofs.YtlacpadpdfccmaaGreatDoorW.PrintWords Go.Proofs.YtlacpadpdfccmaaGreatDoorW.PrintLast Go.Proofs.YtlacpadpdfccmaaGreatDoorW.PrintMore
set_option linter.unusedVariables false
def zl:Nat->Nat->List Bool
  |0,_=>[]
  |n+1,b=>(b%2==1)::zl n (b / 2)
def zm(n b:Nat):Array Bool:=(zl n b).toArray
theorem zg{p:Prop}(h:Aside0 p):p:=h.out
theorem zb(p:Prop)(h:p:=by repeat(first|(with_reducible first|exact HB.out|apply below_alloc|apply pw_below_drewN|apply below_drew1|refine below_set ?_ (zg (by assumption)))|exact HB.out)):p:=h
theorem zs(w:World){W:World}{g:Nat}(hg:g=W.heap.size)(h:Below w.heap.size w W:=by repeat(first|(with_reducible first|exact HB.out|apply below_alloc|apply pw_below_drewN|apply below_drew1|refine below_set ?_ (zg (by assumption)))|exact HB.out)):Aside0 (w.heap.size<=g):=⟨by rw[hg];exact below_size h⟩
theorem zt(w:World){W w1:World}(hb:Below W.heap.size W w1)(h:Below w.heap.size w W:=by repeat(first|(with_reducible first|exact HB.out|apply below_alloc|apply pw_below_drewN|apply below_drew1|refine below_set ?_ (zg (by assumption)))|exact HB.out)):Aside0 (Below w.heap.size w w1):=⟨below_step h hb⟩
theorem zrow{w:World}{g:Nat}{t:TypeId}{cs cs':Array Value}(h:w.heap[g]?=some (.cells cs t (0,0)))(e:cs=cs'):w.heap[g]?=some (.cells cs' t (0,0)):=e ▸ h
theorem zfar{w:World}{g b i:Nat}{t:TypeId}{cs:Array Value}(hp:Aside0 (g≠b))(u:Value)(h:w.heap[g]?=some (.cells cs t (0,0))):(w.setCell ⟨b,i,none⟩ u).heap[g]?=some (.cells cs t (0,0)):=blk_far h hp.out u
theorem zset{w:World}{g:Nat}{t:TypeId}{cs:Array Value}(h:w.heap[g]?=some (.cells cs t (0,0)))(i:Nat)(u:Value):(w.setCell ⟨g,i,none⟩ u).heap[g]?=some (.cells (cs.setIfInBounds i u) t (0,0)):=blk_put h i u rfl
theorem zr{w W:World}{g:Nat}{o:Obj}(B:Aside0 (w.heap[g]?=some o))(h:w.heap[g]?=some o->W.heap[g]?=some o:=by intro hh;(with_reducible repeat(first|refine blk_drewN ?_ _|refine blk_drew ?_|refine blk_alloc ?_ _));exact hh):W.heap[g]?=some o:=h B.out
theorem zw(p:Prop)(h:p:=by apply zrow;(with_reducible repeat(first|apply blk_drewN|apply blk_drew|apply blk_alloc|apply zset|(apply zfar;assumption)));(exact zg (by with_reducible assumption));(first|(with_reducible rfl)|(simp only[List.setIfInBounds_toArray,List.set_cons_zero,List.set_cons_succ];done)|rfl)):p:=h
theorem zk{w W w1:World}{g:Nat}{o:Obj}(B:Aside0 (w.heap[g]?=some o))(hb:Below W.heap.size W w1)(h:w.heap[g]?=some o->W.heap[g]?=some o:=by intro hh;(with_reducible repeat(first|refine blk_drewN ?_ _|refine blk_drew ?_|refine blk_alloc ?_ _));exact hh):Aside0 (w1.heap[g]?=some o):=⟨blk_below (h B.out) hb⟩
theorem zkw{W w1:World}{g:Nat}{o:Obj}(hb:Below W.heap.size W w1)(h:W.heap[g]?=some o:=by apply zrow;(with_reducible repeat(first|apply blk_drewN|apply blk_drew|apply blk_alloc|apply zset|(apply zfar;assumption)));(exact zg (by with_reducible assumption));(first|(with_reducible rfl)|(simp only[List.setIfInBounds_toArray,List.set_cons_zero,List.set_cons_succ];done)|rfl)):Aside0 (w1.heap[g]?=some o):=⟨blk_below h hb⟩
theorem zl1{w:World}{g:Nat}(h:g<w.heap.size)(m:Nat):g<(w.drewN m).heap.size:=h
theorem zl2{w:World}{g:Nat}(h:g<w.heap.size):g<w.drew.heap.size:=h
theorem zl3{w:World}{g:Nat}(h:g<w.heap.size)(o:Obj):g<(w.alloc o).heap.size:=by have:=(below_alloc (Below.refl w.heap.size w) o).size;omega
theorem zl4{w:World}{g:Nat}(h:g<w.heap.size)(p:Addr)(u:Value):g<(w.setCell p u).heap.size:=by simpa[World.setCell]using h
theorem zlt{w W:World}{g g1:Nat}{o:Obj}(B:Aside0 (w.heap[g]?=some o))(hg:g1=W.heap.size)(h:g<w.heap.size->g<W.heap.size:=by intro hh;(with_reducible repeat(first|refine zl1 ?_ _|refine zl2 ?_|refine zl3 ?_ _|refine zl4 ?_ _ _));exact hh):Aside0 (g≠g1):=⟨by rw[hg];exact Nat.ne_of_lt (h (blk_lt B.out))⟩
theorem zgt{g g1:Nat}(h:Aside0 (g≠g1)):Aside0 (g1≠g):=⟨fun e=>h.out e.symm⟩
theorem ze(p:Prop)(h:p:=by first|rfl|(simp[errW_none,errW_some] <;> rfl)|(simp[*,errW_none,errW_some] <;> rfl)):p:=h
theorem zE(p:Prop)(h:p:=by first|rfl|(simp;done)|(simp[*];done)):p:=h
theorem zd(p:Prop)(h:p:=by repeat(first|exact Drawn0.refl _|apply Drawn0.step)):p:=h
theorem za(p:Prop)(h:p:=by first|(with_reducible assumption)|assumption):p:=h
theorem zc0{w:World}{g:Nat}{t:TypeId}{x0:Value}{r:List Value}(B:Aside0 (w.heap[g]?=some (.cells (List.toArray (x0::r)) t (0,0)))):w.cell? ⟨g,0,none⟩=some x0:=(blk_cell B.out 0).trans rfl
theorem zc1{w:World}{g:Nat}{t:TypeId}{x0 x1:Value}{r:List Value}(B:Aside0 (w.heap[g]?=some (.cells (List.toArray (x0::x1::r)) t (0,0)))):w.cell? ⟨g,1,none⟩=some x1:=(blk_cell B.out 1).trans rfl
theorem zc2{w:World}{g:Nat}{t:TypeId}{x0 x1 x2:Value}{r:List Value}(B:Aside0 (w.heap[g]?=some (.cells (List.toArray (x0::x1::x2::r)) t (0,0)))):w.cell? ⟨g,2,none⟩=some x2:=(blk_cell B.out 2).trans rfl
theorem zc3{w:World}{g:Nat}{t:TypeId}{x0 x1 x2 x3:Value}{r:List Value}(B:Aside0 (w.heap[g]?=some (.cells (List.toArray (x0::x1::x2::x3::r)) t (0,0)))):w.cell? ⟨g,3,none⟩=some x3:=(blk_cell B.out 3).trans rfl
theorem zc4{w:World}{g:Nat}{t:TypeId}{x0 x1 x2 x3 x4:Value}{r:List Value}(B:Aside0 (w.heap[g]?=some (.cells (List.toArray (x0::x1::x2::x3::x4::r)) t (0,0)))):w.cell? ⟨g,4,none⟩=some x4:=(blk_cell B.out 4).trans rfl
theorem zc5{w:World}{g:Nat}{t:TypeId}{x0 x1 x2 x3 x4 x5:Value}{r:List Value}(B:Aside0 (w.heap[g]?=some (.cells (List.toArray (x0::x1::x2::x3::x4::x5::r)) t (0,0)))):w.cell? ⟨g,5,none⟩=some x5:=(blk_cell B.out 5).trans rfl
section
variable {P:Program} {ops:Array Oper} {rest:List Oper} {o:Oper} {a:Act} {Q:Exit->Act->World->Prop}
theorem zbx{W:World}(N:Tmp)(cs:Array Value)(t:TypeId)(h:∀ g,g=W.heap.size->∀ w1,w1.heap[g]?=some (.cells cs t (0,0))->Below W.heap.size W w1->wpList P ops Q rest (a.put o.dst (.pointer (some ⟨g,0,none⟩))) w1)
    (hd:o.dst=some N:=by rfl) (hgd:o.guard=none:=by rfl) (hrun:(execOp a.eval o).run P W = .ok (.value (.pointer (some ⟨W.heap.size,0,none⟩))) (W.alloc (.cells cs t (0,0))):=by first|(go_simp;done)|(go_simp;rfl)):wpList P ops Q (o::rest) a W:=box_event hgd hd hrun h
end
section
variable {P:Program} {ops:Array Oper} {Q:Exit->Act->World->Prop} {md:Region.Mode} {S:World->Prop} {ds:List Nat}
theorem zp(i N:Nat)(l':Array Bool){oi:Oper}{v:Value}{fuel:Nat}{l:Array Bool}{a a':Act}{w:World}(h:wpAnyLast P md ops Q S ds fuel l' a' w)(hi:ops[i]?=some oi:=by exact rfl)(hN:oi.dst=some N:=by exact rfl)
    (hc:anyB md ops l l' i=true:=by exact any_of HT_.out (by kernel_rfl)) (hQ:∀ c a w,Q (.panic c) (a.put oi.dst v) w->Q (.panic c) a w:=by exact fun _ _ _ h=>h)
    (hy:Yields P ops oi v a:=by refine Or.inl ⟨by rfl,?_⟩;intro w';go_simp;with_reducible rfl)
    (ha:a.put (some N) v=a':=by simp only[Act.put,List.setIfInBounds_toArray,List.set_cons_zero,List.set_cons_succ,i64_w,i32_w];rfl):wpAnyLast P md ops Q S ds (fuel+1) l a w:=pure_ l' hi hN hc hQ hy ha h
theorem zu(i N:Nat)(l':Array Bool){oi:Oper}{fuel:Nat}{l:Array Bool}{a a':Act}{w:World}(h:wpAnyLast P md ops Q S ds fuel l' a' w)(hi:ops[i]?=some oi:=by exact rfl)(hN:oi.dst=some N:=by exact rfl)
    (hc:anyB md ops l l' i=true:=by exact any_of HT_.out (by kernel_rfl)) (hQ:∀ c a w,Q (.panic c) (a.put oi.dst undef) w->Q (.panic c) a w:=by exact fun _ _ _ h=>h)
    (hy:Yields P ops oi undef a:=by exact Or.inr ⟨by rfl,rfl⟩)
    (ha:a.put (some N) undef=a':=by simp only[Act.put,List.setIfInBounds_toArray,List.set_cons_zero,List.set_cons_succ,i64_w,i32_w];rfl):wpAnyLast P md ops Q S ds (fuel+1) l a w:=pure_ l' hi hN hc hQ hy ha h
theorem zq{fuel:Nat}{l:Array Bool}{a a':Act}{w:World}(h:wpAnyLast P md ops Q S ds fuel l a' w)(ha:a=a':=by(try show Act.put _ (some _) _=_);simp only[Act.put,List.setIfInBounds_toArray,List.set_cons_zero,List.set_cons_succ,i64_w,i32_w];rfl):wpAnyLast P md ops Q S ds fuel l a w:=norm_ ha h
theorem zc{rest:List Oper}{oi:Oper}{a:Act}{w:World}(N:Option Tmp){f:FuncId}{fn:Func}(hf:P.funcs[f]?=some fn)(args:Array Value){as:Array Operand}{ts:Array TypeId}
    (h:Calls P f args w fun e w'=>∃ v,e = .returned v/\wpList P ops Q rest (a.put N v) w') (hd:oi.dst=N:=by exact rfl) (hg:oi.guard=none:=by exact rfl) (hname:(fn.name == "runtime.NumGoroutine")=false:=by kernel_rfl) (hb:fn.body.isSome=true:=by exact rfl)
    (hop:oi.op = .call { callee:=.value (.func f),args:=as,argTypes:=ts}:=by exact rfl) (hargs:as.map a.eval=args:=by(try simp only[List.map_toArray,List.map_cons,List.map_nil]);first|done|rfl|(simp only[List.length_drop,List.length_take];rfl)):wpList P ops Q (oi::rest) a w:=goesL_ N hd hg hf hname hb args hop hargs h
theorem zi{oi:Oper}{N:Option Tmp}{a:Act}{w:World}{K:Act->World->Prop}{f:FuncId}{fn:Func}(hf:P.funcs[f]?=some fn)(args:Array Value){as:Array Operand}{ts:Array TypeId}
    (h:Calls P f args w fun e w'=>∃ v,e = .returned v/\K (a.put N v) w') (hname:(fn.name == "runtime.NumGoroutine")=false:=by kernel_rfl) (hb:fn.body.isSome=true:=by exact rfl)
    (hw:Region.wanted oi (yielded ops a.tmps)=true:=by rfl) (hN:oi.dst=N:=by exact rfl) (hop:oi.op = .call { callee:=.value (.func f),args:=as,argTypes:=ts}:=by exact rfl) (hargs:as.map a.eval=args:=by(try simp only[List.map_toArray,List.map_cons,List.map_nil]);first|done|rfl|(simp only[List.length_drop,List.length_take];rfl)):if Region.wanted oi (yielded ops a.tmps)=true then Oper.wp P oi a w K Q else K (a.put N undef) w:=goes_ hf hname hb args hw hN hop hargs h
theorem zy(i N:Nat)(l':Array Bool){oi:Oper}{v:Value}{fuel:Nat}{l:Array Bool}{a a':Act}{w:World}(hS:S w)(h:wpAnyLast P md ops Q S ds fuel l' a' w)(hi:ops[i]?=some oi:=by exact rfl)(hN:oi.dst=some N:=by exact rfl)
    (hc:takeB md ops ds l l' i=true:=by first|exact take_ofW HT_.out HW_.out (by kernel_rfl)|kernel_rfl) (hQ:∀ c a w,Q (.panic c) (a.put oi.dst v) w->Q (.panic c) a w:=by exact fun _ _ _ h=>h)
    (hy:YieldsIf P ops S oi v a:=by refine Or.inl ⟨by rfl,?_⟩;intro w' hS9;(repeat(obtain⟨_,hS9⟩:=hS9));go_simp;with_reducible rfl)
    (ha:a.put (some N) v=a':=by simp only[Act.put,List.setIfInBounds_toArray,List.set_cons_zero,List.set_cons_succ,i64_w,i32_w];rfl):wpAnyLast P md ops Q S ds (fuel+1) l a w:=take_ l' hi hN hc hQ hy hS ha h
end
theorem zx{w wr:World}(HB:Aside0 (Below w.heap.size w wr)){ad:Addr}{v:Value}(h:w.cell? ad=some v):wr.cell? ad=some v:=(HB.out.cell (World.block_lt_of_cell? w _ h)).trans h
theorem zF3{w:World}{g:Nat}{t:TypeId}{x0 x1 x2:Value}(B:Aside0 (w.heap[g]?=some (.cells #[x0,x1,x2] t (0,0)))):w.cell? ⟨g,0,none⟩=some x0/\w.cell? ⟨g,1,none⟩=some x1/\w.cell? ⟨g,2,none⟩=some x2/\w.frozen? ⟨g,0,none⟩=false/\w.frozen? ⟨g,1,none⟩=false/\w.frozen? ⟨g,2,none⟩=false:=⟨zc0 B,zc1 B,zc2 B,blk_frozen B.out 0,blk_frozen B.out 1,blk_frozen B.out 2⟩
theorem zF4{w:World}{g:Nat}{t:TypeId}{x0 x1 x2 x3:Value}(B:Aside0 (w.heap[g]?=some (.cells #[x0,x1,x2,x3] t (0,0)))):w.cell? ⟨g,0,none⟩=some x0/\w.cell? ⟨g,1,none⟩=some x1/\w.cell? ⟨g,2,none⟩=some x2/\w.cell? ⟨g,3,none⟩=some x3/\w.frozen? ⟨g,0,none⟩=false/\w.frozen? ⟨g,1,none⟩=false/\w.frozen? ⟨g,2,none⟩=false/\w.frozen? ⟨g,3,none⟩=false:=⟨zc0 B,zc1 B,zc2 B,zc3 B,blk_frozen B.out 0,blk_frozen B.out 1,blk_frozen B.out 2,blk_frozen B.out 3⟩
theorem zF6{w:World}{g:Nat}{t:TypeId}{x0 x1 x2 x3 x4 x5:Value}(B:Aside0 (w.heap[g]?=some (.cells #[x0,x1,x2,x3,x4,x5] t (0,0)))):w.cell? ⟨g,0,none⟩=some x0/\w.cell? ⟨g,1,none⟩=some x1/\w.cell? ⟨g,2,none⟩=some x2/\w.cell? ⟨g,3,none⟩=some x3/\w.cell? ⟨g,4,none⟩=some x4/\w.cell? ⟨g,5,none⟩=some x5/\w.frozen? ⟨g,0,none⟩=false/\w.frozen? ⟨g,1,none⟩=false/\w.frozen? ⟨g,2,none⟩=false/\w.frozen? ⟨g,3,none⟩=false/\w.frozen? ⟨g,4,none⟩=false/\w.frozen? ⟨g,5,none⟩=false:=⟨zc0 B,zc1 B,zc2 B,zc3 B,zc4 B,zc5 B,blk_frozen B.out 0,blk_frozen B.out 1,blk_frozen B.out 2,blk_frozen B.out 3,blk_frozen B.out 4,blk_frozen B.out 5⟩
theorem zz1:(⟨#[32]⟩:ByteArray).size=1:=rfl
theorem zz2:(⟨#[10]⟩:ByteArray).size=1:=rfl
theorem zz3:(⟨#[115,101,99,116,105,111,110,32]⟩:ByteArray).size=8:=rfl
theorem zz4:(⟨#[112,97,116,99,104,32]⟩:ByteArray).size=6:=rfl
theorem zz5:(⟨#[115,121,109,98,111,108,32]⟩:ByteArray).size=7:=rfl
theorem zz6:(⟨#[97,115,115,101,114,116,32]⟩:ByteArray).size=7:=rfl
end Go.Proofs.YtlacpadpdfccmaaGreatDoor.Z
