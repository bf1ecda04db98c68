/-
What the arguments of the law FnExactSymText are, as data: no program text of the law itself.
-/
import Derived.Test.YtmiebnpmckjidaaDoorPFnExactSymTextx0
import Derived.Test.YtmiebnpmckjidaaDoorAidR
namespace Go.Proofs.YtmiebnpmckjidaaDoor.Kin
open Go.RowKit Go.Proofs.YtmiebnpmckjidaaDoor.Aid Go.Proofs.YtmiebnpmckjidaaDoor.PFnExactSymText Go.Proofs.YtmiebnpmckjidaaDoorW.PrintWords Go.Proofs.YtmiebnpmckjidaaDoorW.PrintLast Go.Proofs.YtmiebnpmckjidaaDoorW.PrintMore Go.Proofs.YtmiebnpmckjidaaDoor.PFnExactHexOf
set_option linter.unusedVariables false
def okT60 (x : S60) : Prop := x.f0.size ≤ maxLen ∧ (Lit.int .i64 x.f1).wf = true ∧ (Lit.int .i64 x.f2).wf = true
theorem rdT60 : Rdb Tryd.prog 60 k60 okT60 := Rdb.weaken (Rdb.iso (fun a => ⟨a.1, a.2.1, a.2.2⟩) (fun _ => rfl) (Rdb.struct Tryd.underlying60 (by kernel_rfl) (by kernel_rfl) (RdF.cons (Rdb.string Tryd.underlying9) (RdF.cons (Rdb.int Tryd.underlying2) (RdF.one (Rdb.int Tryd.underlying2)))))) (fun _ h => h)
end Go.Proofs.YtmiebnpmckjidaaDoor.Kin
