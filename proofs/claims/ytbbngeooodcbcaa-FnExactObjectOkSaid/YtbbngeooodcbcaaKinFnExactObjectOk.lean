/-
What the arguments of the law FnExactObjectOk are, as data: no program text of the law itself.
-/
import Derived.Test.YtbbngeooodcbcaaPFnExactObjectOkx0
import Derived.Test.YtbbngeooodcbcaaAidR
namespace Go.Proofs.Ytbbngeooodcbcaa.Kin
open Go.RowKit Go.Proofs.Ytbbngeooodcbcaa.Aid Go.Proofs.Ytbbngeooodcbcaa.PFnExactObjectOk Go.Proofs.YtbbngeooodcbcaaW.PrintWords Go.Proofs.YtbbngeooodcbcaaW.PrintLast Go.Proofs.YtbbngeooodcbcaaW.PrintMore
set_option linter.unusedVariables false
def okT90 (x : S90) : Prop := (Lit.int .i64 x.f0).wf = true ∧ (Lit.int .i64 x.f1).wf = true ∧ x.f2.size ≤ maxLen
theorem rdT90 : Rdb Try.prog 90 k90 okT90 := Rdb.weaken (Rdb.iso (fun a => ⟨a.1, a.2.1, a.2.2⟩) (fun _ => rfl) (Rdb.struct Try.underlying90 (by kernel_rfl) (by kernel_rfl) (RdF.cons (Rdb.int Try.underlying2) (RdF.cons (Rdb.int Try.underlying2) (RdF.one (Rdb.string Try.underlying9)))))) (fun _ h => h)
def okT100 (x : S100) : Prop := (Lit.int .i64 x.f0).wf = true ∧ (Lit.int .i64 x.f1).wf = true ∧ (x.f2.length ≤ maxLen ∧ ∀ x_ ∈ x.f2, okT90 x_)
theorem rdT100 : Rdb Try.prog 100 k100 okT100 := Rdb.weaken (Rdb.iso (fun a => ⟨a.1, a.2.1, a.2.2⟩) (fun _ => rfl) (Rdb.struct Try.underlying100 (by kernel_rfl) (by kernel_rfl) (RdF.cons (Rdb.int Try.underlying2) (RdF.cons (Rdb.int Try.underlying2) (RdF.one (Rdb.slice z90 Try.underlying66 (by kernel_rfl) rdT90)))))) (fun _ h => h)
def okT62 (x : S62) : Prop := x.f0.size ≤ maxLen ∧ (Lit.int .i64 x.f1).wf = true ∧ (Lit.int .i64 x.f2).wf = true ∧ (Lit.int .i64 x.f3).wf = true ∧ x.f4.size ≤ maxLen ∧ (x.f5.length ≤ maxLen ∧ ∀ x_ ∈ x.f5, okT100 x_)
theorem rdT62 : Rdb Try.prog 62 k62 okT62 := Rdb.weaken (Rdb.iso (fun a => ⟨a.1, a.2.1, a.2.2.1, a.2.2.2.1, a.2.2.2.2.1, a.2.2.2.2.2⟩) (fun _ => rfl) (Rdb.struct Try.underlying62 (by kernel_rfl) (by kernel_rfl) (RdF.cons (Rdb.string Try.underlying9) (RdF.cons (Rdb.int Try.underlying2) (RdF.cons (Rdb.int Try.underlying2) (RdF.cons (Rdb.int Try.underlying2) (RdF.cons (Rdb.string Try.underlying9) (RdF.one (Rdb.slice z100 Try.underlying60 (by kernel_rfl) rdT100))))))))) (fun _ h => h)
def okT64 (x : S64) : Prop := x.f0.size ≤ maxLen ∧ (Lit.int .i64 x.f1).wf = true ∧ (Lit.int .i64 x.f2).wf = true ∧ True
theorem rdT64 : Rdb Try.prog 64 k64 okT64 := Rdb.weaken (Rdb.iso (fun a => ⟨a.1, a.2.1, a.2.2.1, a.2.2.2⟩) (fun _ => rfl) (Rdb.struct Try.underlying64 (by kernel_rfl) (by kernel_rfl) (RdF.cons (Rdb.string Try.underlying9) (RdF.cons (Rdb.int Try.underlying2) (RdF.cons (Rdb.int Try.underlying2) (RdF.one (Rdb.bool Try.underlying4))))))) (fun _ h => h)
end Go.Proofs.Ytbbngeooodcbcaa.Kin
