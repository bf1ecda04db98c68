/-
The law FnExactReadObject of the given program returns true for every input and leaves its arguments as they were;condition: the package-level variables of its row hold what the program lays in them.
-/
import Derived.Test.YtlacpadpdfccmaaGreatDoorRows
import Derived.Test.YtlacpadpdfccmaaGreatDoorPFnExactReadObjectx3
import Derived.Test.YtlacpadpdfccmaaGreatDoorKinFnExactReadObject
import Derived.Test.YtlacpadpdfccmaaGreatDoorPureFnExactReadObject
import Derived.WalkKit
import Derived.ProofKit
import Derived.OpenShut
import Derived.ShutString
import Derived.ChangeOld
import Derived.Below
import Derived.SizedLaws
import Derived.Test.YtlacpadpdfccmaaGreatDoorGlobFnExactReadObject
import Derived.Test.YtlacpadpdfccmaaGreatDoorTie
import Derived.Test.YtlacpadpdfccmaaGreatDoorCards
import Derived.SevenTiedAt
import Derived.Lib.LaidCaseMet
import Derived.PinnedBridge
import Derived.Test.YtlacpadpdfccmaaGreatDoorShelf
import Derived.LaidLaws
import Derived.Test.YtlacpadpdfccmaaGreatDoorWSized
namespace Go.Proofs.YtlacpadpdfccmaaGreatDoor.fnExactReadObject
open Go.ChangeShapes Go.WideShapes Go.ChangeAt Go.RowKit Go.Proofs.YtlacpadpdfccmaaGreatDoor.Aid Go.Proofs.YtlacpadpdfccmaaGreatDoor.Kin Go.Proofs.YtlacpadpdfccmaaGreatDoor.PFnExactReadObject Go.Proofs.YtlacpadpdfccmaaGreatDoorW.PrintWords
open Go.ChangeMaps (open_string shut_string)
set_option linter.unusedVariables false
theorem own:ownKnob Tryz.prog.godebug=none:=by kernel_rfl
theorem laidOut:laidOutB Tryz.prog=true:=by kernel_rfl
noncomputable def laidWorld(os:Os):World:=
  let N:=(World.settled Tryz.prog os).heap.size
  let w0:=layAll Tryz.prog (World.holding Tryz.prog os ⟨#[.cells Lib.caseCells5 225,.cells #[.string ⟨#[118,97,108,117,101,32,111,117,116,32,111,102,32,114,97,110,103,101]⟩] 216 (0,0),.cells #[.string ⟨#[105,110,118,97,108,105,100,32,115,121,110,116,97,120]⟩] 216 (0,0)],#[],[]⟩) [("math/bits.deBruijn32tab",Rows.laid_math_bits_deBruijn32tab),("math/bits.deBruijn64tab",Rows.laid_math_bits_deBruijn64tab),("internal/strconv.uint64pow10",Rows.laid_internal_strconv_uint64pow10),("unicode/utf8.acceptRanges",Rows.laid_unicode_utf8_acceptRanges),("unicode/utf8.first",Rows.laid_unicode_utf8_first)]
  { w0 with heap:=((w0.heap.modify 5 fun|.cells _ t frozen=>.cells #[.iface 214 (.pointer (some ⟨N+1,0,none⟩))] t frozen|o=>o).modify 4 fun|.cells _ t frozen=>.cells #[.iface 214 (.pointer (some ⟨N+2,0,none⟩))] t frozen|o=>o).modify 6 fun
      |.cells _ t frozen=>.cells #[.slice (some ⟨N,0,none⟩) 336 336] t frozen
      |o=>o}
set_option maxRecDepth 100000 in
theorem laidWorld_os(os:Os):(laidWorld os).os=os:=by
  unfold laidWorld
  dsimp only
  rw[layAll_os]
  rfl
theorem laidWorld_met(os:Os)(args:Array Value):laidMetH Tryz.prog Rows.fnExactReadObjectRow.laid ((laidWorld os).forCall (fun _ _=>0) ⟨#[],args,[]⟩).memory:=by
  have h:=Go.Proofs.laidMet_with_case (P:=Tryz.prog) (ρ:=Tryz.lays203_ren) { Tryz.lays203 with} (by kernel_rfl) ⟨by kernel_rfl,by kernel_rfl,by kernel_rfl,by kernel_rfl,by kernel_rfl,by kernel_rfl⟩
    (w:=((laidWorld os).forCall (fun _ _=>0) ⟨#[],args,[]⟩).memory) (l:=[("math/bits.deBruijn32tab",Rows.laid_math_bits_deBruijn32tab),("math/bits.deBruijn64tab",Rows.laid_math_bits_deBruijn64tab),("internal/strconv.uint64pow10",Rows.laid_internal_strconv_uint64pow10),("unicode/utf8.acceptRanges",Rows.laid_unicode_utf8_acceptRanges),("strconv.ErrRange",Rows.laid_strconv_ErrRange),("strconv.ErrSyntax",Rows.laid_strconv_ErrSyntax)]++[("unicode/utf8.first",Rows.laid_unicode_utf8_first)]) 10 (by kernel_rfl) (by kernel_rfl) (by kernel_rfl) ((World.settled Tryz.prog default).heap.size) 225 (of_decide_eq_true (by kernel_rfl)) (by kernel_rfl) (by kernel_rfl) (by kernel_rfl)
  rw[<-Go.Pinned.caseRanges_eq]at h
  refine laidMetH_of_parts ?_ (by kernel_rfl)
  have e:(Rows.fnExactReadObjectRow.laid.filter fun x=>x.2.handleName?.isNone)=[("math/bits.deBruijn32tab",Rows.laid_math_bits_deBruijn32tab),("math/bits.deBruijn64tab",Rows.laid_math_bits_deBruijn64tab),("internal/strconv.uint64pow10",Rows.laid_internal_strconv_uint64pow10),("unicode/utf8.acceptRanges",Rows.laid_unicode_utf8_acceptRanges),("strconv.ErrRange",Rows.laid_strconv_ErrRange),("strconv.ErrSyntax",Rows.laid_strconv_ErrSyntax)]++(("unicode.CaseRanges",Go.Pinned.caseRanges)::[("unicode/utf8.first",Rows.laid_unicode_utf8_first)]):=by kernel_rfl
  rw[e]
  exact laidMet_put [("math/bits.deBruijn32tab",Rows.laid_math_bits_deBruijn32tab),("math/bits.deBruijn64tab",Rows.laid_math_bits_deBruijn64tab),("internal/strconv.uint64pow10",Rows.laid_internal_strconv_uint64pow10),("unicode/utf8.acceptRanges",Rows.laid_unicode_utf8_acceptRanges),("strconv.ErrRange",Rows.laid_strconv_ErrRange),("strconv.ErrSyntax",Rows.laid_strconv_ErrSyntax)] [("unicode/utf8.first",Rows.laid_unicode_utf8_first)] ("unicode.CaseRanges",Go.Pinned.caseRanges) h
theorem gw_of{W:World}(h:laidMetH Tryz.prog Rows.fnExactReadObjectRow.laid W)(hsh:W.ShapedOpen Tryz.prog):GW W:=by
  have hl:=laidMet_of_H (by kernel_rfl) h
  exact⟨trivial,iface_of_laid (P:=Tryz.prog) (g:=4) (t:=93) (dd:=Rows.laid_strconv_ErrSyntax) (by kernel_rfl) (by kernel_rfl) Tryz.underlying93 rfl hl (by show _ ∈ [("math/bits.deBruijn32tab",Rows.laid_math_bits_deBruijn32tab),("math/bits.deBruijn64tab",Rows.laid_math_bits_deBruijn64tab),("internal/strconv.uint64pow10",Rows.laid_internal_strconv_uint64pow10),("unicode/utf8.acceptRanges",Rows.laid_unicode_utf8_acceptRanges),("strconv.ErrRange",Rows.laid_strconv_ErrRange),("strconv.ErrSyntax",Rows.laid_strconv_ErrSyntax),("unicode.CaseRanges",Rows.laid_unicode_CaseRanges),("unicode/utf8.first",Rows.laid_unicode_utf8_first)];exact List.mem_cons_of_mem _ (List.mem_cons_of_mem _ (List.mem_cons_of_mem _ (List.mem_cons_of_mem _ (List.mem_cons_of_mem _ (List.mem_cons_self)))))),iface_of_laid (P:=Tryz.prog) (g:=5) (t:=93) (dd:=Rows.laid_strconv_ErrRange) (by kernel_rfl) (by kernel_rfl) Tryz.underlying93 rfl hl (by show _ ∈ [("math/bits.deBruijn32tab",Rows.laid_math_bits_deBruijn32tab),("math/bits.deBruijn64tab",Rows.laid_math_bits_deBruijn64tab),("internal/strconv.uint64pow10",Rows.laid_internal_strconv_uint64pow10),("unicode/utf8.acceptRanges",Rows.laid_unicode_utf8_acceptRanges),("strconv.ErrRange",Rows.laid_strconv_ErrRange),("strconv.ErrSyntax",Rows.laid_strconv_ErrSyntax),("unicode.CaseRanges",Rows.laid_unicode_CaseRanges),("unicode/utf8.first",Rows.laid_unicode_utf8_first)];exact List.mem_cons_of_mem _ (List.mem_cons_of_mem _ (List.mem_cons_of_mem _ (List.mem_cons_of_mem _ (List.mem_cons_self))))),cell_of_shapedOpen_int (P:=Tryz.prog) (g:=0) (t:=3) hsh (of_decide_eq_true (by kernel_rfl)) (zero:=#[.int .i64 0]) (by kernel_rfl) rfl (by kernel_rfl) (by kernel_rfl) (by kernel_rfl),tab_of_laid (P:=Tryz.prog) (g:=1) (t:=193) (e:=170) (n:=20) (by kernel_rfl) (by kernel_rfl) (by kernel_rfl) (by kernel_rfl) (by kernel_rfl) (by kernel_rfl) hl (by show _ ∈ [("math/bits.deBruijn32tab",Rows.laid_math_bits_deBruijn32tab),("math/bits.deBruijn64tab",Rows.laid_math_bits_deBruijn64tab),("internal/strconv.uint64pow10",Rows.laid_internal_strconv_uint64pow10),("unicode/utf8.acceptRanges",Rows.laid_unicode_utf8_acceptRanges),("strconv.ErrRange",Rows.laid_strconv_ErrRange),("strconv.ErrSyntax",Rows.laid_strconv_ErrSyntax),("unicode.CaseRanges",Rows.laid_unicode_CaseRanges),("unicode/utf8.first",Rows.laid_unicode_utf8_first)];rw[show Lib.tabData .u64 Lib.pow10Tab=(Rows.laid_internal_strconv_uint64pow10:DataW Unit)from by kernel_rfl];exact List.mem_cons_of_mem _ (List.mem_cons_of_mem _ (List.mem_cons_self))),tab_of_laid (P:=Tryz.prog) (g:=8) (t:=218) (e:=5) (n:=64) (by kernel_rfl) (by kernel_rfl) (by kernel_rfl) (by kernel_rfl) (by kernel_rfl) (by kernel_rfl) hl (by show _ ∈ [("math/bits.deBruijn32tab",Rows.laid_math_bits_deBruijn32tab),("math/bits.deBruijn64tab",Rows.laid_math_bits_deBruijn64tab),("internal/strconv.uint64pow10",Rows.laid_internal_strconv_uint64pow10),("unicode/utf8.acceptRanges",Rows.laid_unicode_utf8_acceptRanges),("strconv.ErrRange",Rows.laid_strconv_ErrRange),("strconv.ErrSyntax",Rows.laid_strconv_ErrSyntax),("unicode.CaseRanges",Rows.laid_unicode_CaseRanges),("unicode/utf8.first",Rows.laid_unicode_utf8_first)];rw[show Lib.tabData .u8 [0,1,56,2,57,49,28,3,61,58,42,50,38,29,17,4,62,47,59,36,45,43,51,22,53,39,33,30,24,18,12,5,63,55,48,27,60,41,37,16,46,35,44,21,52,32,23,11,54,26,40,15,34,20,31,10,25,14,19,9,13,8,7,6]=(Rows.laid_math_bits_deBruijn64tab:DataW Unit)from by kernel_rfl];exact List.mem_cons_of_mem _ (List.mem_cons_self))⟩
set_option maxRecDepth 100000 in
theorem lifted(os:Os)(started:os.Started)(H:Type)(enc:TypeId×Value->H) :
    ReturnsInHanded {} Tryz.checked os 4 .any (fun w args=>(Rows.fnExactReadObjectSpec.pre enc Tryz.prog Tryz.f4 Rows.fnExactReadObjectRow.domain false w args/\laidMetH Tryz.prog Rows.fnExactReadObjectRow.laid w)/\sizedMet enc Tryz.prog Tryz.f4 (OpenSpec.ofChange Rows.fnExactReadObjectSpec) false w args) (Rows.fnExactReadObjectSpec.post enc Tryz.prog Tryz.f4 false true false false):=by
  refine handed_and_shaped (C:=Tryz.checked) (X:=fun w _=>laidMetH Tryz.prog Rows.fnExactReadObjectRow.laid w) (fun _ _ _ hh h=>h.of_heap hh) own started (by kernel_rfl) Tryz.func4
    (witness_ref (enc:=enc) (C:=Tryz.checked) (os:=os) (X:=fun w _=>laidMetH Tryz.prog Rows.fnExactReadObjectRow.laid w) false (laidWorld os) #[.string ByteArray.empty] 8 (laidWorld_os os) (by kernel_rfl) (by kernel_rfl) (by kernel_rfl) (by kernel_rfl) (by kernel_rfl) (laidWorld_met os _)) ?_
  intro W base args ds gs before hval0 hW hL hsh
  have hgw:=gw_of hL hsh
  have hval:∀(j:Nat) t v,Tryz.f4.params[j]?=some t->args[j]?=some v->Value.okWide Tryz.prog W .any base t v:=hval0
  have hW':=hW
  obtain⟨p,q,hA0,hV,rfl,hfz,hnd⟩:=hW
  have hA:DataW.TrodAll enc Tryz.prog W 0 (fun _=>true) true Tryz.f4.params.toList args.toList ds p:=hA0
  rw[Tryz.params4]at hA hval
  obtain⟨v0,vs0,d0,ds0,p0,q0,hargs,rfl,rfl,h0,r0⟩:=trodAll_cons hA
  obtain⟨rfl,rfl,rfl⟩:=trodAll_nil r0
  obtain rfl:args=#[v0]:=by cases args;simp_all
  obtain⟨rfl,rfl⟩:=trodVars_none hV
  obtain⟨a0,rfl,rfl,rfl,y0⟩:=open_string Tryz.underlying9 (hval 0 9 v0 rfl rfl) h0
  obtain⟨k,hp⟩:=Pure.FnExactReadObject a0 y0
  refine(laws_FnExactReadObject.calls k a0 true W hgw hp).mono fun e W' ⟨he,bel0⟩=>?_
  have bel:Below W.heap.size W W':=bel0
  subst he
  exact⟨_,rfl,_,_,_,[],_,[],hW',trodAll_mk1 (shut_bool Tryz.underlying4 _),(trodAll_cons_mk (shut_string Tryz.underlying9 y0) trodAll_mk0),rfl,bel.frame _,fun h=>by cases h⟩
theorem over:Rows.fnExactReadObjectRow.holds Tryz.pinned (OpenSpec.ofChange Rows.fnExactReadObjectSpec):=
  OpenClaim.holds_of_wide 4 Tryz.f4 rfl rfl rfl rfl rfl rfl rfl ⟨rfl,rfl,rfl,rfl,rfl⟩ rfl rfl rfl rfl rfl (by kernel_rfl) Tryz.func4 (by kernel_rfl)
    (of_decide_eq_true (by kernel_rfl)) (by unfold Func.isWrapper;first|(rw[if_pos (by decide +kernel)];kernel_rfl)|(rw[if_neg (by decide +kernel)];exact⟨rfl,rfl⟩))
    (fun os started H enc _=>lifted os started H enc)
theorem proved:Rows.FnExactReadObjectCardSaid:=
  Claim7.holds_tied_plain_at .later [] [.data,.data,.data,.data,.sentinel,.sentinel,.pinned,.pinned] true (true, "cd6ff4890c7ba74a5843c9584913a68efdf8389e5f8857f4249a0413ffa450b5") true
    over (fun _ h=>by cases h) (by kernel_rfl) (fun _ h=>by cases h) fnExactReadObject_row_tie rfl ⟨rfl,rfl⟩ (by kernel_rfl) rfl
    (fun f fn hf hfn=>by
      obtain rfl:f=4:=Option.some.inj ((show Tryz.prog.funcNamed "loop.example/g00460/laws.FnExactReadObject" = some 4 by kernel_rfl).symm.trans hf) |>.symm
      obtain rfl:fn=Tryz.f4:=(Option.some.inj (Tryz.func4.symm.trans hfn)).symm
      refine⟨by kernel_rfl,fun j t ht=>?_⟩
      rw[Tryz.params4]at ht
      have hm:t ∈ [9]:=by
        have:=List.mem_of_getElem? (by simpa using ht)
        simpa using this
      simp only[List.mem_cons,List.not_mem_nil,or_false]at hm
      rcases hm with rfl
      · exact(show Tryz.prog.wantsStandIn 9=false by kernel_rfl))
    (by kernel_rfl)
#print axioms proved
end Go.Proofs.YtlacpadpdfccmaaGreatDoor.fnExactReadObject
namespace Go.Proofs.YtlacpadpdfccmaaGreatDoor
theorem fnExactReadObject_holds:Rows.FnExactReadObjectCardSaid:=fnExactReadObject.proved
end Go.Proofs.YtlacpadpdfccmaaGreatDoor
