/-
Pieces put together and cut again are the same pieces,with no program in sight.
-/
import Derived.Test.YtlacpadpdfccmaaGreatDoorAidJ
namespace Go.Proofs.YtlacpadpdfccmaaGreatDoor.Aid
set_option linter.unusedSimpArgs false
set_option linter.unusedVariables false
theorem sph_free(c:UInt8):∀ l:List UInt8,c ∉ sph c l
  |[]=>by simp[sph]
  | x::r=>by
    by_cases h:x=c
    · simp[sph,h]
    · simp[sph,h,Ne.symm h,sph_free c r]
theorem spt_free(c:UInt8):∀(l:List UInt8),∀ p ∈ spt c l,c ∉ p
  |[]=>by simp[spt]
  | x :: r=>by
    by_cases h:x=c
    · rw[spt,if_pos h]
      intro p hp
      rcases List.mem_cons.1 hp with rfl|hp
      · exact sph_free c r
      · exact spt_free c r p hp
    · rw[spt,if_neg h]
      exact spt_free c r
theorem sp_free(c:UInt8)(l:List UInt8):∀ p ∈ sp c l,c ∉ p:=by
  intro p hp
  rcases List.mem_cons.1 hp with rfl|hp
  · exact sph_free c l
  · exact spt_free c l p hp
theorem sp_join(c:UInt8):∀(x:List UInt8) (r:List (List UInt8)),(∀ p ∈ x::r,c ∉ p)->sp c (Go.Lib.join (x::r) [c])=x::r
  | x,[],h=>by
    obtain⟨h1,h2⟩:=sp_miss (h x List.mem_cons_self)
    rw[Go.Lib.join_one,sp,h1,h2]
  | x,y::r,h=>by
    have ih:=sp_join c y r (fun p hp=>h p (List.mem_cons_of_mem _ hp))
    have hx:=h x List.mem_cons_self
    rw[join_cons2]
    have e:x++[c]++Go.Lib.join (y::r) [c]=x++c::Go.Lib.join (y::r) [c]:=by simp
    obtain⟨h1,h2⟩:=sp_hit (b:=Go.Lib.join (y::r) [c]) hx
    rw[e,sp,h1,h2]
    rw[sp]at ih
    rw[ih]
theorem join_inj(c:UInt8){xs ys:List (List UInt8)}(hx:∀ p ∈ xs,c ∉ p)(hy:∀ p ∈ ys,c ∉ p)(h0:xs≠[])(h1:ys≠[])(h:Go.Lib.join xs [c]=Go.Lib.join ys [c]):xs=ys:=by
  cases xs with
  |nil=>exact absurd rfl h0
  | cons x r=>
    cases ys with
    |nil=>exact absurd rfl h1
    |cons y s=>rw[<-sp_join c x r hx,<-sp_join c y s hy,h]
end Go.Proofs.YtlacpadpdfccmaaGreatDoor.Aid
