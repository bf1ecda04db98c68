/-
What the arguments of the law FnExactSectionOk are, as data: no program text of the law itself.
-/
import Derived.Test.YtffmpmgnkhlmdaaPFnExactSectionOkx0
import Derived.Test.YtffmpmgnkhlmdaaAidR
namespace Go.Proofs.Ytffmpmgnkhlmdaa.Kin
open Go.RowKit Go.Proofs.Ytffmpmgnkhlmdaa.Aid Go.Proofs.Ytffmpmgnkhlmdaa.PFnExactSectionOk Go.Proofs.YtffmpmgnkhlmdaaW.PrintWords Go.Proofs.YtffmpmgnkhlmdaaW.PrintLast Go.Proofs.YtffmpmgnkhlmdaaW.PrintMore
set_option linter.unusedVariables false
def okT108 (x : S108) : Prop := (Lit.int .i64 x.f0).wf = true ∧ (Lit.int .i64 x.f1).wf = true ∧ x.f2.size ≤ maxLen
theorem rdT108 : Rdb Try.prog 108 k108 okT108 := Rdb.weaken (Rdb.iso (fun a => ⟨a.1, a.2.1, a.2.2⟩) (fun _ => rfl) (Rdb.struct Try.underlying108 (by kernel_rfl) (by kernel_rfl) (RdF.cons (Rdb.int Try.underlying2) (RdF.cons (Rdb.int Try.underlying2) (RdF.one (Rdb.string Try.underlying9)))))) (fun _ h => h)
def okT179 (x : S179) : Prop := (Lit.int .i64 x.f0).wf = true ∧ (Lit.int .i64 x.f1).wf = true ∧ (x.f2.length ≤ maxLen ∧ ∀ x_ ∈ x.f2, okT108 x_)
theorem rdT179 : Rdb Try.prog 179 k179 okT179 := Rdb.weaken (Rdb.iso (fun a => ⟨a.1, a.2.1, a.2.2⟩) (fun _ => rfl) (Rdb.struct Try.underlying179 (by kernel_rfl) (by kernel_rfl) (RdF.cons (Rdb.int Try.underlying2) (RdF.cons (Rdb.int Try.underlying2) (RdF.one (Rdb.slice z108 Try.underlying42 (by kernel_rfl) rdT108)))))) (fun _ h => h)
end Go.Proofs.Ytffmpmgnkhlmdaa.Kin
