/-
A region in whatever order: some cells stay as they are until its last operation comes up;with no program in sight.
-/
import Derived.Deep.RegionHeld3
import Derived.WalkKit
namespace Go.Proofs.YtlacpadpdfccmaaGreatDoor.Aid
open Go
set_option linter.unusedVariables false
section
variable {P:Program} {ops:Array Oper} {Q:Exit->Act->World->Prop} {md:Region.Mode} {n:Nat} {W X:World->Prop}
def Until(n:Nat)(W X:World->Prop)(l:Array Bool)(w:World):Prop:=W w/\(l.getD n false=false->X w)
def AnyG(P:Program)(md:Region.Mode)(ops:Array Oper)(Q:Exit->Act->World->Prop)(n:Nat)(W X:World->Prop):Nat->Array Bool->Act->World->Prop
  |0,l,a,w=>Region.ready md ops l=[]/\Q .normal a w
  |f+1,l,a,w=>(Region.ready md ops l=[]->Q .normal a w)/\∀ i ∈ Region.ready md ops l,wpOp P ops Q i (fun a' w'=>Until n W X (l.setIfInBounds i true) w'/\AnyG P md ops Q n W X f (l.setIfInBounds i true) a' w') a w
theorem AnyG.plain:∀(f:Nat) (l:Array Bool) (a:Act) (w:World),AnyG P md ops Q n W X f l a w->wpAny P md ops Q f l a w
  |0,_,_,_,h=>h
  |f+1,_,_,_,h=>⟨h.1,fun i hi=>wpOp_mono (fun a' w' q=>AnyG.plain f _ a' w' q.2) (h.2 i hi)⟩
def waitsOn(md:Region.Mode)(ops:Array Oper)(n i:Nat):Bool:=n !=i&&match ops[n]? with
  |some o=>o.after.any fun e=>Region.binds md e&&e.on==i
  |none=>false
theorem AnyG.take_ {i:Nat} {o:Oper} {v:Value} (hi:ops[i]?=some o) (hsel:Region.noSelect ops=true) (hwt:waitsOn md ops n i=true)
    (hQ:∀ c a w,Q (.panic c) (a.put o.dst v) w->Q (.panic c) a w) :
    ∀ (f:Nat) (l:Array Bool) (a:Act) (w:World),
      (∀ j oj,ops[j]?=some oj->j≠i->l.getD j true=false->(∀ e ∈ oj.after,Region.binds md e=true->e.on≠i)->o.apart ops oj=true) →
      i ∈ Region.ready md ops l->l.getD n false=false->YieldsIf P ops (fun w=>W w/\X w) o v a->W w->X w →
      AnyG P md ops Q n W X f (l.setIfInBounds i true) (a.put o.dst v) w->AnyG P md ops Q n W X (f+1) l a w:=by
  simp only[waitsOn,Bool.and_eq_true,bne_iff_ne,ne_eq]at hwt
  obtain⟨hni,hwt⟩:=hwt
  have away:∀ {l:Array Bool} {j:Nat},i ∈ Region.ready md ops l->j ∈ Region.ready md ops l->j≠n:=by
    rintro l j hr hj rfl
    obtain⟨h0,oj,hoj,hall⟩:=mem_ready.1 hj
    rw[hoj]at hwt
    simp only[Array.any_eq_true,Bool.and_eq_true,beq_iff_eq]at hwt
    obtain⟨x,hx,hb,he⟩:=hwt
    have h1:=hall _ (Array.getElem_mem hx) hb
    have h2:=(mem_ready.1 hr).1
    rw[he]at h1
    rcases Nat.lt_or_ge i l.size with h'|h'
    · simp[h']at h1 h2
      rw[h2]at h1
      cases h1
    · simp[Array.getElem?_eq_none h']at h1
  intro f
  induction f with
  | zero=>
    intro l a w hfree hr hn hy hW hX H
    refine⟨fun h=>(by rw[h]at hr;cases hr),fun j hj=>?_⟩
    by_cases hji:j=i
    · subst hji
      exact hy.wpOp hi ⟨hW,hX⟩ ⟨⟨hW,fun _=>hX⟩,H⟩
    · have:=ready_mono hj hji
      rw[H.1]at this
      cases this
  | succ f ih=>
    intro l a w hfree hr hn hy hW hX H
    refine⟨fun h=>(by rw[h]at hr;cases hr),fun j hj=>?_⟩
    by_cases hji:j=i
    · subst hji
      exact hy.wpOp hi ⟨hW,hX⟩ ⟨⟨hW,fun _=>hX⟩,H⟩
    · have hjn:=away hr hj
      have h1:=H.2 j (ready_mono hj hji)
      obtain⟨hjun,oj,hoj,hall⟩:=mem_ready.1 hj
      have hnot:∀ e ∈ oj.after,Region.binds md e=true->e.on≠i:=fun e he hb heq=>by
        have h1:=hall e he hb
        have h0:=(mem_ready.1 hr).1
        rw[heq]at h1
        rcases Nat.lt_or_ge i l.size with h'|h'
        · simp[h']at h0 h1
          rw[h0]at h1
          cases h1
        · simp[Array.getElem?_eq_none h']at h1
      have h2:=wpOp_putIf hoj (hfree j oj hoj hji hjun hnot) (fun cs b=>Region.noSelect_spec hsel i o cs b hi) (fun cs b=>Region.noSelect_spec hsel j oj cs b hoj) hQ hy h1
      refine wpOp_mono (fun a' w' q=>?_) h2
      obtain⟨q1,⟨q2,q3⟩,q4⟩:=q
      have hx:X w':=q3 (by rw[getD_set_ne false hjn,getD_set_ne false (Ne.symm hni)];exact hn)
      refine⟨⟨q2,fun _=>hx⟩,ih (l.setIfInBounds j true) a' w' (fun k ok hk hki hun hno=>hfree k ok hk hki ?_ hno) (ready_mono hr (Ne.symm hji)) (by rw[getD_set_ne false hjn];exact hn) q1 q2 hx ?_⟩
      · by_cases hjk:j=k
        · subst hjk
          exact hjun
        · rw[getD_set_ne true hjk]at hun
          exact hun
      · rw[Array.setIfInBounds_comm _ _ hji]
        exact q4
theorem AnyG.take(i:Nat){o:Oper}{v:Value}{f:Nat}{l:Array Bool}{a:Act}{w:World}(hi:ops[i]?=some o)(hc:(Region.noSelect ops&&waitsOn md ops n i&&Region.free md ops l i&&(Region.ready md ops l).contains i&&!l.getD n false)=true)
    (hQ:∀ c a w,Q (.panic c) (a.put o.dst v) w->Q (.panic c) a w) (hwd:Region.wanted o (yielded ops a.tmps)=true) (hy:∀ w,W w->X w->(execOp a.eval o).run P w = .ok (.value v) w) (hS:W w/\X w)
    (h:AnyG P md ops Q n W X f (l.setIfInBounds i true) (a.put o.dst v) w):AnyG P md ops Q n W X (f+1) l a w:=by
  simp only[Bool.and_eq_true,Bool.not_eq_true']at hc
  exact AnyG.take_ hi hc.1.1.1.1 hc.1.1.1.2 hQ f l a w (Region.free_spec hi hc.1.1.2) (by simpa using hc.1.2) hc.2 (.inl ⟨hwd,fun w q=>hy w q.1 q.2⟩) hS.1 hS.2 h
theorem AnyG.t(i:Nat){o:Oper}{v:Value}{f:Nat}{l:Array Bool}{a a':Act}{w:World}(hS:W w/\X w)(h:AnyG P md ops Q n W X f (l.setIfInBounds i true) a' w)(hi:ops[i]?=some o:=by rfl)
    (hc:(Region.noSelect ops&&waitsOn md ops n i&&Region.free md ops l i&&(Region.ready md ops l).contains i&&!l.getD n false)=true:=by kernel_rfl) (hwd:Region.wanted o (yielded ops a.tmps)=true:=by rfl)
    (hy:∀ w,W w->X w->(execOp a.eval o).run P w = .ok (.value v) w:=by(intro w h1 h2;(try dsimp only at h1 h2);go_simp;try with_reducible rfl)) (hQ:∀ c a w,Q (.panic c) (a.put o.dst v) w->Q (.panic c) a w:=by exact fun _ _ _ h=>h)
    (ha:a.put o.dst v=a':=by(simp only[Act.put,List.setIfInBounds_toArray,List.set_cons_zero,List.set_cons_succ];rfl)):AnyG P md ops Q n W X (f+1) l a w:=
  AnyG.take i hi hc hQ hwd hy hS (ha ▸ h)
theorem AnyG.one(i:Nat){o:Oper}{f:Nat}{l:Array Bool}{a:Act}{w:World}(hi:ops[i]?=some o)(hr:Region.ready md ops l=[i])
    (h:∀ K:Act->World->Prop,Shut (∀ a w,Until n W X (l.setIfInBounds i true) w->(Until n W X (l.setIfInBounds i true) w->AnyG P md ops Q n W X f (l.setIfInBounds i true) a w)->K a w)->if Region.wanted o (yielded ops a.tmps)=true then Oper.wp P o a w K Q else K (a.put o.dst undef) w):AnyG P md ops Q n W X (f+1) l a w:=by
  refine⟨fun q=>(by rw[hr]at q;cases q),fun j hj=>?_⟩
  rw[hr]at hj
  obtain rfl:=List.mem_singleton.1 hj
  exact wpOp_step hi (fun K' hK=>h K' (fun a w q r=>hK a w ⟨q,r q⟩))
theorem AnyG.done{l:Array Bool}{a:Act}{w:World}(hr:Region.ready md ops l=[])(h:Q .normal a w):∀ f,AnyG P md ops Q n W X f l a w
  |0=>⟨hr,h⟩
  |_+1=>⟨fun _=>h,by rw[hr];simp⟩
theorem AnyG.begin(n:Nat)(W X:World->Prop){id:Nat}{a:Act}{w:World}(hm:P.follows .mixedOrders=true)(hS:W w.drew/\X w.drew)
    (h:W w.drew/\X w.drew->AnyG P .any ops Q n W X ops.size (Array.replicate ops.size false) a w.drew):(Code.region id ops true).wp P Q a w:=
  wp_region_any hm (AnyG.plain _ _ _ _ (h hS))
end
end Go.Proofs.YtlacpadpdfccmaaGreatDoor.Aid
