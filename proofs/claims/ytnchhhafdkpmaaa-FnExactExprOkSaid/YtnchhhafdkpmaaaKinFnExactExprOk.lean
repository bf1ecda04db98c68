/-
What the arguments of the law FnExactExprOk are, as data: no program text of the law itself.
-/
import Derived.Test.YtnchhhafdkpmaaaPFnExactExprOkx0
import Derived.Test.YtnchhhafdkpmaaaAidR
namespace Go.Proofs.Ytnchhhafdkpmaaa.Kin
open Go.RowKit Go.Proofs.Ytnchhhafdkpmaaa.Aid Go.Proofs.Ytnchhhafdkpmaaa.PFnExactExprOk Go.Proofs.YtnchhhafdkpmaaaW.PrintWords Go.Proofs.YtnchhhafdkpmaaaW.PrintLast Go.Proofs.YtnchhhafdkpmaaaW.PrintMore
set_option linter.unusedVariables false
def okT81 (x : S81) : Prop := (Lit.int .i64 x.f0).wf = true ∧ (Lit.int .i64 x.f1).wf = true ∧ x.f2.size ≤ maxLen
theorem rdT81 : Rdb Try.prog 81 k81 okT81 := Rdb.weaken (Rdb.iso (fun a => ⟨a.1, a.2.1, a.2.2⟩) (fun _ => rfl) (Rdb.struct Try.underlying81 (by kernel_rfl) (by kernel_rfl) (RdF.cons (Rdb.int Try.underlying2) (RdF.cons (Rdb.int Try.underlying2) (RdF.one (Rdb.string Try.underlying9)))))) (fun _ h => h)
end Go.Proofs.Ytnchhhafdkpmaaa.Kin
