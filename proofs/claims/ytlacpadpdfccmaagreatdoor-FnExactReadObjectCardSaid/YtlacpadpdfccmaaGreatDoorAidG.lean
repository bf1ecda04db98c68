/-
Rows that list package-level variables with what they hold: a start that fits,and what a walk has of them;with no program in sight.
-/
import Derived.Test.YtlacpadpdfccmaaGreatDoorAidA
import Derived.HandedShaped
import Derived.LaidLaws
import Derived.LaidHandle
import Derived.Lib.LaidTab
import Derived.Shelf.Vars
import Derived.Handed
import Derived.Lay
namespace Go.Proofs.YtlacpadpdfccmaaGreatDoor.Aid
open Go.RowKit Go.Lib Go.Proofs.YtlacpadpdfccmaaGreatDoorW.PrintWords Go.Proofs.YtlacpadpdfccmaaGreatDoorW.PrintLast Go.Proofs.YtlacpadpdfccmaaGreatDoorW.PrintMore
set_option linter.unusedVariables false
theorem handed_and_shaped{H:Type}{enc:TypeId×Value->H}{a:Assume}{C:Checked}{os:Os}{f:FuncId}{fn:Func}{s:ChangeSpec}{conds:List PathCond}{apart fresh handsOn again:Bool}{X:World->Array Value->Prop}
    (hX:∀(w w':World) (args:Array Value),w.heap=w'.heap->X w args->X w' args)
    (own:ownKnob C.prog.godebug=none) (started:os.Started) (noInit:C.prog.inits.idxOf? f=none) (hfn:C.prog.funcs[f]?=some fn)
    (witness:∃(w:World) (tape:Tape) (i:Input),w.os=os/\(w.forCall tape i).Shaped C.prog/\i.vars=[]/\Input.okWide C.prog (w.forCall tape i) .any w.heap.size f i ∧
      ((s.pre enc C.prog fn conds apart (w.forCall tape i).memory i.args/\X (w.forCall tape i).memory i.args)/\sizedMet enc C.prog fn (OpenSpec.ofChange s) apart (w.forCall tape i).memory i.args)/\a.holds C.prog (lone (Frame.enter C.prog f i.args .normal) [] (w.forCall tape i)))
    (contract:∀(W:World) (base:Nat) (args:Array Value) (ds gs:List (DataW H)) (before:List MemPlace),
      (∀(j:Nat) t v,fn.params[j]?=some t->args[j]?=some v->Value.okWide C.prog W .any base t v) →
      DataW.Whole enc C.prog fn.params.toList s.vars apart W args.toList ds gs before->X W args->W.ShapedOpen C.prog →
      Calls C.prog f args W fun e W'=>∃ v,e = .returned v/\s.post enc C.prog fn apart fresh handsOn again W args v W') :
    ReturnsInHanded a C os f .any (fun w args=>(s.pre enc C.prog fn conds apart w args/\X w args)/\sizedMet enc C.prog fn (OpenSpec.ofChange s) apart w args) (s.post enc C.prog fn apart fresh handsOn again):=by
  refine returnsInHanded_of_calls own started noInit witness ?_
  intro w tape i _ hsh _ hok hpre hholds
  obtain⟨_,_,_,fn',hfn',_,_,_,_,hval⟩:=hok
  have e:fn'=fn:=Option.some.inj (hfn'.symm.trans hfn)
  subst e
  obtain⟨⟨⟨ds,gs,before,hw,hc⟩,hx⟩,hz⟩:=hpre
  have hw':=DataW.Whole.of_heap (w':=w.forCall tape i) (by rfl) hw
  refine(contract (w.forCall tape i) w.heap.size i.args ds gs before hval hw' (hX _ _ _ (by rfl) hx) hsh).mono fun e W' ⟨v,he,hp⟩=>?_
  subst he
  exact ChangeSpec.post_blind hp
theorem witness_ref{H:Type}{enc:TypeId×Value->H}{C:Checked}{os:Os}{f:FuncId}{fn:Func}{s:ChangeSpec}{conds:List PathCond}{apart:Bool}{X:World->Array Value->Prop}(modest:Bool)(w0:World)(args:Array Value)(fuel:Nat)(hos:w0.os=os)
    (hv:(w0.forCall (fun _ _=>0) ⟨#[],args,[]⟩).variablesRefB C.prog=true)
    (hr:((w0.forCall (fun _ _=>0) ⟨#[],args,[]⟩).heap.toList.drop C.prog.globals.size).take ((begin C.prog (fun _ _=>0) default).world.heap.size - C.prog.globals.size) =
      (begin C.prog (fun _ _=>0) default).world.heap.toList.drop C.prog.globals.size)
    (hok:Input.okWideB C.prog (w0.forCall (fun _ _=>0) ⟨#[],args,[]⟩) f ⟨#[],args,[]⟩=true)
    (hpre:s.preB enc C.prog fn conds apart (w0.forCall (fun _ _=>0) ⟨#[],args,[]⟩).memory args fuel=true)
    (hsz:s.sizedB enc C.prog fn apart (w0.forCall (fun _ _=>0) ⟨#[],args,[]⟩).memory args fuel=true)
    (hx:X (w0.forCall (fun _ _=>0) ⟨#[],args,[]⟩).memory args) :
    ∃ (w:World) (tape:Tape) (i:Input),w.os=os/\(w.forCall tape i).Shaped C.prog/\i.vars=[]/\Input.okWide C.prog (w.forCall tape i) .any w.heap.size f i ∧
      ((s.pre enc C.prog fn conds apart (w.forCall tape i).memory i.args/\X (w.forCall tape i).memory i.args)/\sizedMet enc C.prog fn (OpenSpec.ofChange s) apart (w.forCall tape i).memory i.args)/\({ modest:=modest}:Assume).holds C.prog (lone (Frame.enter C.prog f i.args .normal) [] (w.forCall tape i)):=
  ⟨w0,fun _ _=>0,⟨#[],args,[]⟩,hos,World.shaped_of_RefB hv hr,(Input.okWide_of_okWideB (base:=0) hok).1,(Input.okWide_of_okWideB hok).2,⟨⟨ChangeSpec.pre_of_preB hpre,hx⟩,sizedMet_of_sizedB hsz⟩,by
    simp only[Assume.holds]
    exact⟨by simp,by simp,fun _=>Modest.zero,by simp,by simp⟩⟩
def flatV:Nat->DataW Unit->List Value
  |0,_=>[]
  |_+1,.lit (.int k n)=>[.int k n]
  |f+1,.agg ps=>ps.flatMap (flatV f)
  |_+1,_=>[]
def layOne(P:Program)(w:World)(x:String×DataW Unit):World:=
  match P.globalNamed x.1 with
  |some g=>{ w with heap:=w.heap.modify g fun
      |.cells _ t frozen=>.cells (flatV 4 x.2).toArray t frozen
      |o=>o}
  |none=>w
def layAll(P:Program)(w:World)(l:List (String×DataW Unit)):World:=l.foldl (layOne P) w
theorem layOne_os(P:Program)(w:World)(x:String×DataW Unit):(layOne P w x).os=w.os:=by
  unfold layOne
  split <;> rfl
theorem layAll_os(P:Program):∀(l:List (String×DataW Unit)) (w:World),(layAll P w l).os=w.os
  |[],w=>rfl
  |x::r,w=>(layAll_os P r (layOne P w x)).trans (layOne_os P w x)
theorem tab_of_vars{P:Program}{W:World}{name:String}{k:IntKind}{zs:List Int}{g:Nat}{t e:TypeId}{n:Nat}
    (hg:P.globalNamed name=some g) (hty:(P.globals[g]?).map (·.type)=some t) (ht:P.underlying t=some (.array n e)) (he:P.underlying e=some (.int k)) (hce:P.cellsOf e=1) (hct:P.cellsOf t=n) :
    ∀(l:List (String×DataW Unit)) (ps:List MemPlace),DataW.LaidVars P W l ps->(name,tabData k zs) ∈ l->TabIs P W name k zs
  |[],_,_,h=>by cases h
  | (n',d)::r,ps,h,hm=>by
    obtain⟨g',t',cs,fuel,p,q,hg',ht',hvar,hd,hr,_⟩:=h
    rcases List.mem_cons.1 hm with e'|hm'
    · obtain⟨rfl,rfl⟩:=Prod.mk.inj e'
      obtain rfl:=Option.some.inj (hg.symm.trans hg')
      obtain rfl:=Option.some.inj (hty.symm.trans ht')
      unfold TabIs
      rw[hvar,<-cells_of_tab ht he hce hct hd]
    · exact tab_of_vars hg hty ht he hce hct r q hr hm'
theorem tab_of_laid{P:Program}{W:World}{name:String}{k:IntKind}{zs:List Int}{g:Nat}{t e:TypeId}{n:Nat}{l:List (String×DataW Unit)}
    (hg:P.globalNamed name=some g) (hty:(P.globals[g]?).map (·.type)=some t) (ht:P.underlying t=some (.array n e)) (he:P.underlying e=some (.int k)) (hce:P.cellsOf e=1) (hct:P.cellsOf t=n)
    (h:laidMet P l W) (hm:(name,tabData k zs) ∈ l):TabIs P W name k zs:=by
  obtain⟨ps,h1,_⟩:=h
  exact tab_of_vars hg hty ht he hce hct l ps h1 hm
theorem laidMet_of_H{P:Program}{W:World}{l:List (String×DataW Unit)}(hf:l.filter (fun x=>x.2.handleName?.isSome)=[])(h:laidMetH P l W):laidMet P l W:=by
  unfold laidMetH at h
  rw[hf]at h
  exact h
theorem laidMet_perm{P:Program}{w:World}{l l':List (String×DataW Unit)}(hp:l.Perm l')(h:laidMet P l w):laidMet P l' w:=by
  obtain⟨ps,h1,h2,h3⟩:=h
  obtain⟨ps',h4,h5⟩:=Lay.LaidVars_perm hp h1
  exact⟨ps',h4,h5.nodup_iff.1 h2,fun b off hm=>h3 b off (h5.mem_iff.2 hm)⟩
theorem laidMet_put{P:Program}{w:World}(pre post:List (String×DataW Unit))(x:String×DataW Unit)(h:laidMet P ((pre++post)++[x]) w):laidMet P (pre++(x::post)) w:=
  laidMet_perm (by rw[List.append_assoc];exact List.Perm.append_left pre (List.perm_append_comm (l₁:=post) (l₂:=[x]))) h
def VarIf(P:Program)(w:World)(name:String):Prop:=∃ u v,w.var? P name=some #[.iface u v]
theorem iface_of_vars {P:Program} {W:World} {name:String} {g:Nat} {t:TypeId} {ms:Array (String×TypeId)} {tn:String} {dd d0:DataW Unit}
    (hg:P.globalNamed name=some g) (hty:(P.globals[g]?).map (·.type)=some t) (hi:P.underlying t=some (.interface ms)) (he:dd = .iface tn d0) :
    ∀(l:List (String×DataW Unit)) (ps:List MemPlace),DataW.LaidVars P W l ps->(name,dd) ∈ l->VarIf P W name
  |[],_,_,h=>by cases h
  | (n',d)::r,ps,h,hm=>by
    obtain⟨g',t',cs,fuel,p,q,hg',ht',hvar,hd,hr,_⟩:=h
    rcases List.mem_cons.1 hm with e'|hm'
    · obtain⟨rfl,rfl⟩:=Prod.mk.inj e'
      obtain rfl:=Option.some.inj (hg.symm.trans hg')
      obtain rfl:=Option.some.inj (hty.symm.trans ht')
      rw[he]at hd
      obtain⟨_,u,v,hcs,_⟩:=iface_of_trod hi hd
      refine⟨u,v,?_⟩
      rw[hvar]
      have:cs=#[.iface u v]:=by
        apply Array.toList_inj.1
        rw[hcs]
      rw[this]
    · exact iface_of_vars hg hty hi he r q hr hm'
theorem iface_of_laid{P:Program}{W:World}{name:String}{g:Nat}{t:TypeId}{ms:Array (String×TypeId)}{tn:String}{dd d0:DataW Unit}{l:List (String×DataW Unit)}
    (hg:P.globalNamed name=some g) (hty:(P.globals[g]?).map (·.type)=some t) (hi:P.underlying t=some (.interface ms)) (he:dd = .iface tn d0) (h:laidMet P l W) (hm:(name,dd) ∈ l):VarIf P W name:=by
  obtain⟨ps,h1,_⟩:=h
  exact iface_of_vars hg hty hi he l ps h1 hm
theorem TabIs.below{P:Program}{w w':World}{name:String}{k:IntKind}{zs:List Int}(h:TabIs P w name k zs)(hb:Below w.heap.size w w'):TabIs P w' name k zs:=by
  unfold TabIs World.var? at h ⊢
  cases hg:P.globalNamed name with
  |none=>rw[hg]at h;cases h
  | some g=>
    rw[hg]at h
    simp only[Option.bind_some]at h ⊢
    cases ho:w.heap[g]? with
    |none=>rw[ho]at h;cases h
    | some o=>
      have hlt:g<w.heap.size:=(Array.getElem?_eq_some_iff.1 ho).1
      rw[hb.block g hlt]
      exact h
theorem max_below{w w':World}{a:Addr}{k:IntKind}(h:∃ m,w.cell? a=some (.int k m))(hb:Below w.heap.size w w'):∃ m,w'.cell? a=some (.int k m):=by
  obtain⟨m,hm⟩:=h
  exact⟨m,pw_cell_below hb hm⟩
theorem VarIf.below{P:Program}{w w':World}{name:String}(h:VarIf P w name)(hb:Below w.heap.size w w'):VarIf P w' name:=by
  obtain⟨u,v,h⟩:=h
  refine⟨u,v,?_⟩
  unfold World.var? at h ⊢
  cases hg:P.globalNamed name with
  |none=>rw[hg]at h;cases h
  | some g=>
    rw[hg]at h
    simp only[Option.bind_some]at h ⊢
    cases ho:w.heap[g]? with
    |none=>rw[ho]at h;cases h
    | some o=>
      have hlt:g<w.heap.size:=(Array.getElem?_eq_some_iff.1 ho).1
      rw[hb.block g hlt]
      exact h
end Go.Proofs.YtlacpadpdfccmaaGreatDoor.Aid
