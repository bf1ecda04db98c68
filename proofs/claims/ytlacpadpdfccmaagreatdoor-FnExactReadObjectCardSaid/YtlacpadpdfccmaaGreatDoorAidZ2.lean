/-
More steps of a walk in short words: if-steps,calls,boxes and cells;with no program in sight.
-/
import Derived.Test.YtlacpadpdfccmaaGreatDoorAidZ
import Derived.Test.YtlacpadpdfccmaaGreatDoorWGuard
namespace Go.Proofs.YtlacpadpdfccmaaGreatDoor.Z
open Go.RowKit Go.Proofs.YtlacpadpdfccmaaGreatDoor.Aid Go.Proofs.YtlacpadpdfccmaaGreatDoorW.PrintWords Go.Proofs.YtlacpadpdfccmaaGreatDoorW.PrintLast Go.Proofs.YtlacpadpdfccmaaGreatDoorW.PrintMore
set_option linter.unusedVariables false
section
variable {α β:Type} {x y:Option α} {r:α}
theorem zI{G p:Prop}[inst:Decidable p](h1:decide p=true->x=some r->G)(h2:decide p=false->y=some r->G)(h:(if p then x else y)=some r):G:=by
  by_cases c:p
  · exact h1 (decide_eq_true c) (by rw[if_pos c]at h;exact h)
  · exact h2 (decide_eq_false c) (by rw[if_neg c]at h;exact h)
theorem zJ{G p:Prop}[inst:Decidable p](h1:decide p=true->x=some r->G)(h:(if p then x else none)=some r):G:=zI h1 (fun _ q=>absurd q (by simp)) h
theorem zIg{G:Prop}{a b:Int}(h1:decide (b<a)=true->x=some r->G)(h2:decide (b<a)=false->y=some r->G)(h:(if a > b then x else y)=some r):G:=zI h1 h2 h
theorem zIh{G:Prop}{a b:Int}(h1:decide (b<=a)=true->x=some r->G)(h2:decide (b<=a)=false->y=some r->G)(h:(if a>=b then x else y)=some r):G:=zI h1 h2 h
theorem zK{G:Prop}[BEq β][LawfulBEq β]{a b:β}[inst:Decidable (a=b)](h1:(a==b)=true->(a !=b)=false->x=some r->G)(h2:(a==b)=false->(a !=b)=true->y=some r->G)(h:(if a=b then x else y)=some r):G:=by
  by_cases c:a=b
  · exact h1 (beq_iff_eq.mpr c) (bne_eq_false_iff_eq.mpr c) (by rw[if_pos c]at h;exact h)
  · exact h2 (beq_eq_false_iff_ne.mpr c) (bne_iff_ne.mpr c) (by rw[if_neg c]at h;exact h)
theorem zKn{G:Prop}[BEq β][LawfulBEq β]{a b:β}[inst:Decidable (a=b)](h1:(a==b)=true->(a !=b)=false->x=some r->G)(h2:¬ a=b->(a==b)=false->(a !=b)=true->y=some r->G)(h:(if a=b then x else y)=some r):G:=zK h1 (fun c=>h2 (beq_eq_false_iff_ne.mp c) c) h
theorem zKkn{G:Prop}[BEq β][LawfulBEq β]{a b:β}[inst:Decidable (a=b)](h1:a=b->(a==b)=true->(a !=b)=false->x=some r->G)(h2:¬ a=b->(a==b)=false->(a !=b)=true->y=some r->G)(h:(if a=b then x else y)=some r):G:=zKn (fun c=>h1 (beq_iff_eq.mp c) c) h2 h
theorem zTjk{G p:Prop}[inst:Decidable p](h1:p->p=True->decide p=true->x=some r->G)(h:(if p then x else none)=some r):G:=zJ (fun c=>h1 (of_decide_eq_true c) (eq_true (of_decide_eq_true c)) c) h
theorem zLjk{G:Prop}{a b:Nat}(h1:a<=b->(a<=b)=True->decide (a<=b)=true->(b<a)=False->x=some r->G)(h:(if a<=b then x else none)=some r):G:=zJ (fun c=>h1 (of_decide_eq_true c) (eq_true (of_decide_eq_true c)) c (eq_false (Nat.not_lt.2 (of_decide_eq_true c)))) h
theorem zM{G:Prop}{γ:Type}{x':Option γ}{f:γ->Option α}(h1:∀ t,Aside0 (x'=some t)->f t=some r->G)(h:x'.bind f=some r):G:=by
  obtain⟨t,a,q⟩:=Option.bind_eq_some_iff.mp h
  exact h1 t ⟨a⟩ q
theorem zB1(h:(if true=true then x else y)=some r):x=some r:=h
theorem zB0(h:(if false=true then x else y)=some r):y=some r:=h
theorem zTj{G p:Prop}[inst:Decidable p](h1:p=True->decide p=true->x=some r->G)(h:(if p then x else none)=some r):G:=zJ (fun c=>h1 (eq_true (of_decide_eq_true c)) c) h
end
section
variable {P:Program} {ops:Array Oper} {rest:List Oper} {oi:Oper} {a:Act} {w:World} {Q:Exit->Act->World->Prop} {f:FuncId} {fn:Func} {args:Array Value} {as:Array Operand} {ts:Array TypeId} {N:Option Tmp} {v:Value}
theorem zcf(hop:oi.op = .call { callee:=.value (.func f),args:=as,argTypes:=ts})(hf:P.funcs[f]?=some fn)(hc:Calls P f args w fun e w'=>e = .returned v/\Drawn0 w w')(h:∀ nd,wpList P ops Q rest (a.put N v) (w.drewN nd))(hd:oi.dst=N:=by exact rfl)(hg:oi.guard=none:=by exact rfl)(hname:(fn.name == "runtime.NumGoroutine")=false:=by kernel_rfl)(hb:fn.body.isSome=true:=by exact rfl)
    (hargs:as.map a.eval=args:=by(try simp only[List.map_toArray,List.map_cons,List.map_nil]);first|done|rfl|(simp only[List.length_drop,List.length_take];rfl)):wpList P ops Q (oi::rest) a w:=
  goesL_ N hd hg hf hname hb args hop hargs (hc.mono fun e w'=>by rintro⟨rfl,⟨nd,rfl⟩⟩;exact⟨_,rfl,h nd⟩)
theorem zcg{R:World->Prop}(hop:oi.op = .call { callee:=.value (.func f),args:=as,argTypes:=ts})(hf:P.funcs[f]?=some fn)(hc:Calls P f args w fun e w'=>e = .returned v/\R w')(h:∀ w',R w'->wpList P ops Q rest (a.put N v) w')(hd:oi.dst=N:=by exact rfl)(hg:oi.guard=none:=by exact rfl)(hname:(fn.name == "runtime.NumGoroutine")=false:=by kernel_rfl)(hb:fn.body.isSome=true:=by exact rfl)
    (hargs:as.map a.eval=args:=by(try simp only[List.map_toArray,List.map_cons,List.map_nil]);first|done|rfl|(simp only[List.length_drop,List.length_take];rfl)):wpList P ops Q (oi::rest) a w:=
  goesL_ N hd hg hf hname hb args hop hargs (hc.mono fun e w'=>by rintro⟨rfl,q⟩;exact⟨_,rfl,h _ q⟩)
theorem zby{W:World}(w:World)(N:Tmp)(hd:oi.dst=some N)(cs:Array Value)(t:TypeId)(h:∀ g,g=W.heap.size->∀ w1,Below W.heap.size W w1->Aside0 (w1.heap[g]?=some (.cells cs t (0,0)))->Aside0 (w.heap.size<=g)->Aside0 (Below w.heap.size w w1)->wpList P ops Q rest (a.put oi.dst (.pointer (some ⟨g,0,none⟩))) w1)
    (hgd:oi.guard=none:=by rfl) (hrun:(execOp a.eval oi).run P W = .ok (.value (.pointer (some ⟨W.heap.size,0,none⟩))) (W.alloc (.cells cs t (0,0))):=by first|(go_simp;done)|(go_simp;rfl))
    (hB:Below w.heap.size w W:=by repeat(first|(with_reducible first|exact HB.out|apply below_alloc|apply pw_below_drewN|apply below_drew1|refine below_set ?_ (zg (by assumption)))|exact HB.out)):wpList P ops Q (oi::rest) a W:=
  box_event hgd hd hrun fun g hg w1 hx hb=>h g hg w1 hb ⟨hx⟩ ⟨by rw[hg];exact below_size hB⟩ ⟨below_step hB hb⟩
theorem zbg{W:World}(w:World)(N:Tmp)(hd:oi.dst=some N)(cs:Array Value)(t:TypeId)(h:∀ g,g=W.heap.size->∀ w1,Below W.heap.size W w1->Aside0 (w1.heap[g]?=some (.cells cs t (0,0)))->Aside0 (w.heap.size<=g)->Aside0 (Below w.heap.size w w1)->wpList P ops Q rest (a.put oi.dst (.pointer (some ⟨g,0,none⟩))) w1)
    (hw:Region.wanted oi (yielded ops a.tmps)=true:=by rfl) (hrun:(execOp a.eval { oi with guard:=none}).run P W = .ok (.value (.pointer (some ⟨W.heap.size,0,none⟩))) (W.alloc (.cells cs t (0,0))):=by dsimp only;first|(go_simp;done)|(go_simp;rfl))
    (hB:Below w.heap.size w W:=by repeat(first|(with_reducible first|exact HB.out|apply below_alloc|apply pw_below_drewN|apply below_drew1|refine below_set ?_ (zg (by assumption)))|exact HB.out)):wpList P ops Q (oi::rest) a W:=
  gate_guard hw (box_event rfl hd hrun fun g hg w1 hx hb=>h g hg w1 hb ⟨hx⟩ ⟨by rw[hg];exact below_size hB⟩ ⟨below_step hB hb⟩)
end
theorem zCb{α:Type}{K:Kd α}{w wm W:World}{A:Option Addr}{n:Nat}{l:List α}(HR:Aside0 (Kd.C K w A n l))(HB:Aside0 (Below w.heap.size w wm))(h:Kd.C K wm A n l->Kd.C K W A n l:=by intro q;(with_reducible repeat(first|exact q|refine Kd.C_alloc ?_ _|refine Kd.C_drewN ?_ _|refine Kd.C_drew ?_))):Kd.C K W A n l:=h (Kd.C_below HR.out HB.out)
theorem zO{p q:Prop}(h:Aside0 q)(h2:q->p:=by intro z;(with_reducible repeat(first|apply Kd.R_alloc|apply Kd.R_drewN|apply Kd.R_drew));exact z):p:=h2 h.out
theorem zD{p:Prop}(h:p:=by first|exact⟨rfl,_,World.drewN_drewN _ _ _⟩|exact⟨rfl,_,Eq.trans (World.drewN_drewN _ _ _) (congrArg (World.drewN _) (Nat.add_assoc _ _ _))⟩):p:=h
end Go.Proofs.YtlacpadpdfccmaaGreatDoor.Z
