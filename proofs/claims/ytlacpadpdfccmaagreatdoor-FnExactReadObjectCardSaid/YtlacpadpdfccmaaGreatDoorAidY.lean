/-
Three rows that a call owns,no block in two of them;with no program in sight.
-/
import Derived.Test.YtlacpadpdfccmaaGreatDoorAidX
namespace Go.Proofs.YtlacpadpdfccmaaGreatDoor.Aid
open Go.RowKit Go.Proofs.YtlacpadpdfccmaaGreatDoorW.PrintWords
set_option linter.unusedVariables false
section
variable {α β γ:Type} {d1:Kd α} {d2:Kd β} {d3:Kd γ} {e1 e2 e3:Nat} {base:Nat} {v1 v2 v3:Value} {s:List α} {y:List β} {a:List γ} {fr fr':Nat->Prop} {W W' w0:World}
def OwnO(d1:Kd α)(e1:Nat)(d2:Kd β)(e2:Nat)(d3:Kd γ)(e3:Nat)(fr:Nat->Prop)(base:Nat)(v1 v2 v3:Value)(s:List α)(y:List β)(a:List γ)(W:World):Prop:=
  ∃ o1 o2 o3:Nat->Prop,((∀ k,o1 k->¬ o2 k)/\(∀ k,o1 k->¬ o3 k)/\(∀ k,o2 k->¬ o3 k)/\(∀ k,fr k->¬ o1 k/\¬ o2 k/\¬ o3 k))/\Kd.S d1 e1 W base o1 v1 s/\Kd.S d2 e2 W base o2 v2 y/\Kd.S d3 e3 W base o3 v3 a
theorem OwnO.nil(d1:Kd α)(e1:Nat)(d2:Kd β)(e2:Nat)(d3:Kd γ)(e3:Nat)(fr:Nat->Prop)(base:Nat)(W:World):OwnO d1 e1 d2 e2 d3 e3 fr base (.slice none 0 0) (.slice none 0 0) (.slice none 0 0) [] [] [] W:=
  ⟨fun _=>False,fun _=>False,fun _=>False,⟨fun _ h=>h.elim,fun _ h=>h.elim,fun _ h=>h.elim,fun _ _=>⟨id,id,id⟩⟩,Kd.S_nil _ _ _ _ _,Kd.S_nil _ _ _ _ _,Kd.S_nil _ _ _ _ _⟩
theorem OwnO.call(h:OwnO d1 e1 d2 e2 d3 e3 fr base v1 v2 v3 s y a W)(hb:Below W.heap.size W W')(fr':Nat->Prop)(hn:∀ k,fr' k->W.heap.size<=k):OwnO d1 e1 d2 e2 d3 e3 fr' base v1 v2 v3 s y a W':=by
  obtain⟨o1,o2,o3,⟨h1,h2,h3,_⟩,s1,s2,s3⟩:=h
  refine⟨fun k=>o1 k/\k<W.heap.size,fun k=>o2 k/\k<W.heap.size,fun k=>o3 k/\k<W.heap.size,⟨fun k q r=>h1 k q.1 r.1,fun k q r=>h2 k q.1 r.1,fun k q r=>h3 k q.1 r.1,fun k q=>?_⟩,Kd.S_old s1 hb,Kd.S_old s2 hb,Kd.S_old s3 hb⟩
  have:=hn k q
  exact⟨fun r=>by omega,fun r=>by omega,fun r=>by omega⟩
theorem OwnO.keep(h:OwnO d1 e1 d2 e2 d3 e3 fr base v1 v2 v3 s y a W)(hb:Below W.heap.size W W'):OwnO d1 e1 d2 e2 d3 e3 fr base v1 v2 v3 s y a W':=by
  obtain⟨o1,o2,o3,h0,s1,s2,s3⟩:=h
  exact⟨o1,o2,o3,h0,Kd.S_below s1 hb,Kd.S_below s2 hb,Kd.S_below s3 hb⟩
theorem OwnO.free(h:OwnO d1 e1 d2 e2 d3 e3 fr base v1 v2 v3 s y a W)(hf:∀ k,fr' k->fr k):OwnO d1 e1 d2 e2 d3 e3 fr' base v1 v2 v3 s y a W:=by
  obtain⟨o1,o2,o3,⟨h1,h2,h3,h4⟩,s1,s2,s3⟩:=h
  exact⟨o1,o2,o3,⟨h1,h2,h3,fun k q=>h4 k (hf k q)⟩,s1,s2,s3⟩
theorem OwnO.set(h:OwnO d1 e1 d2 e2 d3 e3 fr base v1 v2 v3 s y a W){g t:Nat}{cells:Array Value}(hg:W.heap[g]?=some (.cells cells t (0,0)))(ht:∀ q,q ∈ (e1::d1.E)++((e2::d2.E)++(e3::d3.E))->q≠t)(j:Nat)(u:Value):OwnO d1 e1 d2 e2 d3 e3 fr base v1 v2 v3 s y a (W.setCell ⟨g,j,none⟩ u):=by
  obtain⟨o1,o2,o3,h0,s1,s2,s3⟩:=h
  exact⟨o1,o2,o3,h0,Kd.S_set s1 hg (fun q hq=>ht q (List.mem_append_left _ hq)) j u,Kd.S_set s2 hg (fun q hq=>ht q (List.mem_append_right _ (List.mem_append_left _ hq))) j u,Kd.S_set s3 hg (fun q hq=>ht q (List.mem_append_right _ (List.mem_append_right _ hq))) j u⟩
theorem OwnO.forms(h:OwnO d1 e1 d2 e2 d3 e3 fr base v1 v2 v3 s y a W):∃ A1 c1 A2 c2 A3 c3,v1 = .slice A1 s.length c1/\v2 = .slice A2 y.length c2/\v3 = .slice A3 a.length c3/\s.length<=c1/\y.length<=c2/\a.length<=c3/\Kd.C d1 W A1 s.length s/\Kd.C d2 W A2 y.length y/\Kd.C d3 W A3 a.length a:=by
  obtain⟨o1,o2,o3,_,s1,s2,s3⟩:=h
  obtain⟨A1,c1,q1,q2,q3⟩:=Kd.S_reads s1
  obtain⟨A2,c2,r1,r2,r3⟩:=Kd.S_reads s2
  obtain⟨A3,c3,t1,t2,t3⟩:=Kd.S_reads s3
  exact⟨A1,c1,A2,c2,A3,c3,q1,r1,t1,q2,r2,t2,q3,r3,t3⟩
theorem S_own{δ:Type}{d:Kd δ}{e:Nat}{ok:Nat->Prop}{v:Value}{xs:List δ}(h:Kd.S d e W base ok v xs):∀ k,v.ownBlock=some k->ok k:=(Kd.S_R h).1
theorem S_of_R{δ:Type}{d:Kd δ}(hE:d.E=[]){e:Nat}{ok:Nat->Prop}{v:Value}{xs:List δ}(h:Kd.R d e W base ok v xs):Kd.S d e W base ok v xs:=by
  apply Kd.S_bare
  obtain⟨h0,inner,ho,hr⟩:=h
  refine⟨h0,inner,ho,hr.imp_ (fun p c hp=>?_)⟩
  refine d.M_mono (fun k hk=>?_) (d.M_bound hp)
  obtain⟨_,_,_,q,hq,_⟩:=hk
  rw[hE]at hq
  cases hq
theorem OwnO.grow1{o1 o2 o3:Nat->Prop}{v1':Value}{s':List α}(h0:(∀ k,o1 k->¬ o2 k)/\(∀ k,o1 k->¬ o3 k)/\(∀ k,o2 k->¬ o3 k)/\(∀ k,fr k->¬ o1 k/\¬ o2 k/\¬ o3 k))(s1:Kd.S d1 e1 W base o1 v1 s)(s2:Kd.S d2 e2 W base o2 v2 y)(s3:Kd.S d3 e3 W base o3 v3 a)
    (hs:Kd.S d1 e1 W' base (fun k=>o1 k\/fr k\/W.heap.size<=k) v1' s') (hk:∀ k,k<W.heap.size->¬ o1 k->W'.heap[k]?=W.heap[k]?):OwnO d1 e1 d2 e2 d3 e3 (fun _=>False) base v1' v2 v3 s' y a W':=by
  obtain⟨h1,h2,h3,h4⟩:=h0
  refine⟨_,fun k=>o2 k/\k<W.heap.size,fun k=>o3 k/\k<W.heap.size,⟨fun k q r=>?_,fun k q r=>?_,fun k q r=>h3 k q.1 r.1,fun _ q=>q.elim⟩,hs,?_,?_⟩
  · rcases q with q|q|q
    · exact h1 k q r.1
    · exact(h4 k q).2.1 r.1
    · omega
  · rcases q with q|q|q
    · exact h2 k q r.1
    · exact(h4 k q).2.2 r.1
    · omega
  · exact Kd.S_mono (Kd.S_step (Kd.S_bound s2) (fun k q hlt=>hk k hlt (fun r=>h1 k r q.1))) (fun k q=>⟨q.1,q.2.2.1⟩)
  · exact Kd.S_mono (Kd.S_step (Kd.S_bound s3) (fun k q hlt=>hk k hlt (fun r=>h2 k r q.1))) (fun k q=>⟨q.1,q.2.2.1⟩)
theorem OwnO.rot(h:OwnO d1 e1 d2 e2 d3 e3 fr base v1 v2 v3 s y a W):OwnO d2 e2 d3 e3 d1 e1 fr base v2 v3 v1 y a s W:=by
  obtain⟨o1,o2,o3,⟨h1,h2,h3,h4⟩,s1,s2,s3⟩:=h
  exact⟨o2,o3,o1,⟨h3,fun k q r=>h1 k r q,fun k q r=>h2 k r q,fun k q=>⟨(h4 k q).2.1,(h4 k q).2.2,(h4 k q).1⟩⟩,s2,s3,s1⟩
end
section
variable {α β γ:Type} {d1:Kd α} {d2:Kd β} {d3:Kd γ} {e1 e2 e3:Nat} {base:Nat} {v1 v2 v3:Value} {s:List α} {y:List β} {l:List γ} {fr:Nat->Prop} {W w0:World}
variable {P:Program} {ops:Array Oper} {rest:List Oper} {o:Oper} {a:Act} {Q:Exit->Act->World->Prop} {Kc:Act->World->Prop}
theorem OwnO.app(hgd:o.guard=none)(t:TypeId)(z:Value)(bytes:Nat)(so x:Operand)
    (ho:o.op = .call { callee:=.builtin .append,args:=#[so,x],argTypes:=#[t,t]})
    (ht:P.underlying t=some (.slice e1)) (hinfo:(P.info? e1).map (fun i=>(i.zero,i.size,i.bytes))=some (some z,d1.sz,bytes)) (hz:z.cells.size=d1.sz) (hs0:0<d1.sz) (hb0:0<bytes)
    (p:α) (cs:List Value) (hs:a.eval so=v1) (hx:a.eval x = .slice (some ⟨W.heap.size,0,none⟩) 1 1)
    (HO:OwnO d1 e1 d2 e2 d3 e3 fr base v1 v2 v3 s y l W) (hp:d1.M W base fr p cs) (HB:Below base w0 W) (hbase:base<=W.heap.size) (hl:(s.length+1)*bytes<=140737488355328)
    (h:∀ v1' w1,OwnO d1 e1 d2 e2 d3 e3 (fun _=>False) base v1' v2 v3 (s++[p]) y l w1->Below base w0 w1->W.grownBy w1 v1.ownBlock->(∀ k,v1.ownBlock=some k->∃ cells,W.heap[k]?=some (.cells cells e1 (0,0)))->wpList P ops Q rest (a.put o.dst v1') w1):wpList P ops Q (o::rest) a (W.alloc (.cells cs.toArray e1)):=by
  obtain⟨o1,o2,o3,h0,s1,s2,s3⟩:=HO
  have hty:=Kd.S_typed s1
  refine Kd.S_append d1 base hgd so x t e1 z bytes ho ht hinfo hz hs0 hb0 v1 s p cs (fun k=>o1 k\/fr k\/W.heap.size<=k) fr hs hx hp (fun k q=>⟨.inr (.inl q),fun e=>(h0.2.2.2 k q).1 (S_own s1 k e.symm)⟩) (fun k q=>.inr (.inr q)) (Kd.S_mono s1 (fun k q=>⟨.inl q,fun r=>(h0.2.2.2 k r).1 q⟩)) HB hbase hl ?_
  intro v1' w1 q1 q2 q3 _
  exact h v1' w1 (OwnO.grow1 h0 s1 s2 s3 q1 (fun k hlt hn=>q3.block k hlt (fun e=>hn (S_own s1 k e.symm)))) q2 q3 hty
theorem OwnO.app_step(hw:Region.wanted o (yielded ops a.tmps)=true)(t:TypeId)(z:Value)(bytes:Nat)(so x:Operand)
    (ho:o.op = .call { callee:=.builtin .append,args:=#[so,x],argTypes:=#[t,t]})
    (ht:P.underlying t=some (.slice e1)) (hinfo:(P.info? e1).map (fun i=>(i.zero,i.size,i.bytes))=some (some z,d1.sz,bytes)) (hz:z.cells.size=d1.sz) (hs0:0<d1.sz) (hb0:0<bytes)
    (p:α) (cs:List Value) (hs:a.eval so=v1) (hx:a.eval x = .slice (some ⟨W.heap.size,0,none⟩) 1 1)
    (HO:OwnO d1 e1 d2 e2 d3 e3 fr base v1 v2 v3 s y l W) (hp:d1.M W base fr p cs) (HB:Below base w0 W) (hbase:base<=W.heap.size) (hl:(s.length+1)*bytes<=140737488355328)
    (h:∀ v1' w1,OwnO d1 e1 d2 e2 d3 e3 (fun _=>False) base v1' v2 v3 (s++[p]) y l w1->Below base w0 w1->W.grownBy w1 v1.ownBlock->(∀ k,v1.ownBlock=some k->∃ cells,W.heap[k]?=some (.cells cells e1 (0,0)))->Kc (a.put o.dst v1') w1) :
    if Region.wanted o (yielded ops a.tmps)=true then Oper.wp P o a (W.alloc (.cells cs.toArray e1)) Kc Q else Kc (a.put o.dst undef) (W.alloc (.cells cs.toArray e1)):=by
  obtain⟨o1,o2,o3,h0,s1,s2,s3⟩:=HO
  have hty:=Kd.S_typed s1
  refine Kd.S_append_step d1 base hw so x t e1 z bytes ho ht hinfo hz hs0 hb0 v1 s p cs (fun k=>o1 k\/fr k\/W.heap.size<=k) fr hs hx hp (fun k q=>⟨.inr (.inl q),fun e=>(h0.2.2.2 k q).1 (S_own s1 k e.symm)⟩) (fun k q=>.inr (.inr q)) (Kd.S_mono s1 (fun k q=>⟨.inl q,fun r=>(h0.2.2.2 k r).1 q⟩)) HB hbase hl ?_
  intro v1' w1 q1 q2 q3 _
  exact h v1' w1 (OwnO.grow1 h0 s1 s2 s3 q1 (fun k hlt hn=>q3.block k hlt (fun e=>hn (S_own s1 k e.symm)))) q2 q3 hty
end
theorem OwnO.lend {α β γ:Type} {d1:Kd α} {d2:Kd β} {d3:Kd γ} {e1 e2 e3 base g n c:Nat} {v2 v3:Value} {s:List α} {y:List β} {a:List γ} {fr:Nat->Prop} {W:World} (h:OwnO d1 e1 d2 e2 d3 e3 fr base (.slice (some ⟨g,0,none⟩) n c) v2 v3 s y a W) (hfr:∀ k,fr k->k<W.heap.size) (z:α) (i:Nat) (hi:i<n) :
    ∃ (oki:Nat->Prop) (cs:List Value),cs.length=d1.sz/\d1.M W base oki (s.getD i z) cs/\(∀ j u,cs[j]?=some u->W.cell? ⟨g,i*d1.sz+j,none⟩=some u)/\(∀ j,W.frozen? ⟨g,i*d1.sz+j,none⟩=false)/\(∀ k,oki k->k<W.heap.size/\k≠g/\¬ fr k)/\(∀ k,fr k->k≠g)/\g<W.heap.size/\(∃ cells,W.heap[g]?=some (.cells cells e1 (0,0))) ∧
      ∀ (W':World) (x':α) (seg:List Value) (j:Nat),W.heap.size<=W'.heap.size->(∀ k,k<W.heap.size->¬ oki k->W'.heap[k]?=W.heap[k]?)->d1.M W' base (fun k=>oki k\/fr k\/W.heap.size<=k) x' (cs.take j++seg++cs.drop (j+seg.length))->j+seg.length<=d1.sz →
        OwnO d1 e1 d2 e2 d3 e3 (fun _=>False) base (.slice (some ⟨g,0,none⟩) n c) v2 v3 (s.set i x') y a (W'.setCells g (i*d1.sz+j) seg)/\W'.grownBy (W'.setCells g (i*d1.sz+j) seg) (some g):=by
  obtain⟨o1,o2,o3,⟨h1,h2,h3,h4⟩,s1,s2,s3⟩:=h
  have hg1:o1 g:=S_own s1 g rfl
  have hgl:g<W.heap.size:=Kd.S_lt s1 g rfl
  have hgt:=Kd.S_typed s1 g rfl
  replace s1:=Kd.S_mono (ok':=fun k=>o1 k/\k<W.heap.size) (Kd.S_bound s1) (fun k q=>⟨q.1,q.2.2.1⟩)
  obtain⟨oki,cs,hcl,hM,hce,hfz,hoki,hH⟩:=Kd.S_elem s1 z (i:Int) (by omega) (by omega)
  rw[Int.toNat_natCast]at hM hce hfz
  refine⟨oki,cs,hcl,hM,hce,hfz,fun k q=>⟨(hoki k q).1.2,(hoki k q).2,fun r=>(h4 k r).1 (hoki k q).1.1⟩,fun k q e=>(h4 k q).1 (e ▸ hg1),hgl,hgt,?_⟩
  intro W' x' seg j hsz hch hM' hj
  have hH1:Kd.H d1 e1 W base (fun k=>(o1 k\/fr k\/W.heap.size<=k)/\¬ (fr k\/W.heap.size<=k)) (.slice (some ⟨g,0,none⟩) n c) s (i:Int) oki cs:=
    Kd.H_mono hH (fun k q=>⟨.inl q.1,fun r=>r.elim (fun r=>(h4 k r).1 q.1) (fun r=>by have:=q.2;omega)⟩)
  have hH2:=Kd.H_step (w1:=W') hH1 (fun k _ hn hlt=>hch k hlt hn)
  obtain⟨q1,q2⟩:=Kd.S_seg (okg:=fun k=>fr k\/W.heap.size<=k) (ok:=fun k=>o1 k\/fr k\/W.heap.size<=k) hH2 (by omega) (by omega) (seg:=seg) (j:=j) hj (x':=x') hM' (fun k q=>q) (fun k q=>⟨.inr q,fun e=>q.elim (fun r=>(h4 k r).1 (e ▸ hg1)) (fun r=>by omega)⟩)
  rw[Int.toNat_natCast]at q1 q2
  refine⟨⟨_,fun k=>o2 k/\k<W.heap.size,fun k=>o3 k/\k<W.heap.size,⟨fun k q r=>?_,fun k q r=>?_,fun k q r=>h3 k q.1 r.1,fun _ q=>q.elim⟩,q1,?_,?_⟩,q2⟩
  · rcases q with q|q|q
    · exact h1 k q r.1
    · exact(h4 k q).2.1 r.1
    · omega
  · rcases q with q|q|q
    · exact h2 k q r.1
    · exact(h4 k q).2.2 r.1
    · omega
  · refine Kd.S_mono (Kd.S_step (Kd.S_bound s2) (fun k q hlt=>?_)) (fun k q=>⟨q.1,q.2.2.1⟩)
    have hk:k≠g:=fun e=>h1 g hg1 (e ▸ q.1)
    exact(q2.block k (Nat.lt_of_lt_of_le hlt hsz) (fun e=>hk (by injection e))).trans (hch k hlt (fun r=>h1 k (hoki k r).1.1 q.1))
  · refine Kd.S_mono (Kd.S_step (Kd.S_bound s3) (fun k q hlt=>?_)) (fun k q=>⟨q.1,q.2.2.1⟩)
    have hk:k≠g:=fun e=>h2 g hg1 (e ▸ q.1)
    exact(q2.block k (Nat.lt_of_lt_of_le hlt hsz) (fun e=>hk (by injection e))).trans (hch k hlt (fun r=>h2 k (hoki k r).1.1 q.1))
theorem blk_grown{W w1:World}{v:Value}{e g t:Nat}{cells:Array Value}(hb:W.heap[g]?=some (.cells cells t (0,0)))(hg:W.grownBy w1 v.ownBlock)(hty:∀ k,v.ownBlock=some k->∃ cells,W.heap[k]?=some (.cells cells e (0,0)))(ht:t≠e):w1.heap[g]?=some (.cells cells t (0,0)):=by
  have hlt:g<W.heap.size:=(Array.getElem?_eq_some_iff.1 hb).1
  refine(hg.block g hlt (fun he=>?_)).trans hb
  obtain⟨c2,h2⟩:=hty g he.symm
  rw[hb]at h2
  injection h2 with h2
  injection h2 with _ h3
  exact ht h3
theorem cell_same{w W:World}{g i:Nat}{oki:Nat->Prop}{v:Value}(h:∀ k,k<w.heap.size->¬ oki k->W.heap[k]?=w.heap[k]?)(hl:g<w.heap.size)(hn:¬ oki g)(hc:w.cell? ⟨g,i,none⟩=some v)(hf:w.frozen? ⟨g,i,none⟩=false):W.cell? ⟨g,i,none⟩=some v/\W.frozen? ⟨g,i,none⟩=false:=by
  have e:=h g hl hn
  constructor
  · simp only[World.cell?]at hc ⊢
    rw[e]
    exact hc
  · simp only[World.frozen?]at hf ⊢
    rw[e]
    exact hf
theorem ne_types{W:World}{g h t t':Nat}{cs cs':Array Value}(hg:W.heap[g]?=some (.cells cs t (0,0)))(hh:W.heap[h]?=some (.cells cs' t' (0,0)))(ht:t≠t'):g≠h:=by
  intro e
  rw[e,hh]at hg
  injection hg with hg
  injection hg with _ h3
  exact ht h3.symm
theorem S_typ{δ:Type}{d:Kd δ}{e t base:Nat}{W:World}{ok:Nat->Prop}{v:Value}{xs:List δ}(h:Kd.S d e W base ok v xs)(ht:∀ q,q ∈ e::d.E->q≠t):Kd.S d e W base (fun k=>ok k/\k<W.heap.size/\∃ q cells,q≠t/\W.heap[k]?=some (.cells cells q (0,0))) v xs:=
  Kd.S_mono (Kd.S_bound h) (fun k hk=>by
    obtain⟨h1,_,h2,q,hq,cells,hc⟩:=hk
    exact⟨h1,h2,q,cells,ht q hq,hc⟩)
theorem typ_not{W:World}{k t:Nat}{cs:Array Value}{P Q:Prop}(hk:W.heap[k]?=some (.cells cs t (0,0)))(h:P/\Q/\∃ q cells,q≠t/\W.heap[k]?=some (.cells cells q (0,0))):False:=by
  obtain⟨_,_,q,cells,hq,hc⟩:=h
  rw[hk]at hc
  injection hc with hc
  injection hc with _ h3
  exact hq h3.symm
end Go.Proofs.YtlacpadpdfccmaaGreatDoor.Aid
