/-
Numerals in decimal with a sign,read again,with no program in sight.
-/
import Derived.Test.YtlacpadpdfccmaaGreatDoorAidN
import Derived.Lib.ItoaNum
import Derived.Lib.ParseIntB
import Derived.Lib.ParseIntBCases
namespace Go.Proofs.YtlacpadpdfccmaaGreatDoor.Aid
open Go.RowKit Go.Proofs.YtlacpadpdfccmaaGreatDoorW.PrintWords
set_option linter.unusedSimpArgs false
set_option linter.unusedVariables false
theorem parse_foldL(M:Nat)(hM:M<=18446744073709551615):∀(l:List UInt8) (acc:Nat),(∀ c ∈ l,digitB c)->foldv acc l<=M->Go.Lib.parseUintM M acc l = .ok (foldv acc l)
  |[],acc,_,_=>rfl
  | c::r,acc,h,hv=>by
    have hc:=h c List.mem_cons_self
    have hg:=foldv_ge r (acc*10+(c.toNat - 48))
    have hv':foldv (acc*10+(c.toNat - 48)) r<=M:=hv
    unfold digitB at hc
    rw[Go.Lib.parseUintM,if_pos hc,if_neg (by omega),if_neg (by omega),parse_foldL M hM r _ (fun d hd=>h d (List.mem_cons_of_mem _ hd)) hv']
    rfl
theorem parseU_dec(n:Nat)(hn:n<=18446744073709551615):Go.Lib.parseUintB 64 (Go.Lib.decDigits n) = .ok n:=by
  obtain⟨h1,h2⟩:=dec_fold n
  unfold Go.Lib.parseUintB
  rw [if_neg (dec_ne n), parse_foldL _ (by decide) _ _ h2 (by rw[h1];have:(2:Nat) ^ 64 - 1=18446744073709551615:=by decide
                                                              omega),h1]
theorem parse_itoa(n:Int)(h0:-9223372036854775808<=n)(h1:n<=9223372036854775807):Go.Lib.parseIntB 64 (Go.Lib.itoa n) = .ok n:=by
  have hp:(2:Nat) ^ (64 - 1)=9223372036854775808:=by decide
  unfold Go.Lib.itoa
  by_cases c:n<0
  · rw[if_pos c,Go.Lib.parseIntB_minus,parseU_dec _ (by omega)]
    show(if _<_ then _ else _)=_
    rw[if_neg (by omega)]
    congr 1
    omega
  · rw[if_neg c]
    have hu:=parseU_dec n.toNat (by omega)
    have hd:=(dec_fold n.toNat).2
    have hne:=dec_ne n.toNat
    generalize Go.Lib.decDigits n.toNat=l at hu hd hne
    cases l with
    |nil=>exact absurd rfl hne
    | cons x r=>
      have hx:=hd x List.mem_cons_self
      unfold digitB at hx
      rw[Go.Lib.parseIntB_plain _ _ _ (by omega) (by omega),hu]
      show(if _<=_ then _ else _)=_
      rw[if_neg (by omega)]
      congr 1
      omega
end Go.Proofs.YtlacpadpdfccmaaGreatDoor.Aid
