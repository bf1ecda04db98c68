/-
What the arguments of the law FnExactEvalExpr are, as data: no program text of the law itself.
-/
import Derived.Test.YtffmpmgnkhlmdaaPFnExactEvalExprx0
import Derived.Test.YtffmpmgnkhlmdaaAidR
namespace Go.Proofs.Ytffmpmgnkhlmdaa.Kin
open Go.RowKit Go.Proofs.Ytffmpmgnkhlmdaa.Aid Go.Proofs.Ytffmpmgnkhlmdaa.PFnExactEvalExpr Go.Proofs.YtffmpmgnkhlmdaaW.PrintWords Go.Proofs.YtffmpmgnkhlmdaaW.PrintLast Go.Proofs.YtffmpmgnkhlmdaaW.PrintMore
set_option linter.unusedVariables false
def okT108 (x : S108) : Prop := (Lit.int .i64 x.f0).wf = true ∧ (Lit.int .i64 x.f1).wf = true ∧ x.f2.size ≤ maxLen
theorem rdT108 : Rdb Try.prog 108 k108 okT108 := Rdb.weaken (Rdb.iso (fun a => ⟨a.1, a.2.1, a.2.2⟩) (fun _ => rfl) (Rdb.struct Try.underlying108 (by kernel_rfl) (by kernel_rfl) (RdF.cons (Rdb.int Try.underlying2) (RdF.cons (Rdb.int Try.underlying2) (RdF.one (Rdb.string Try.underlying9)))))) (fun _ h => h)
def okT111 (x : S111) : Prop := x.f0.size ≤ maxLen ∧ (Lit.int .i64 x.f1).wf = true ∧ (Lit.int .i64 x.f2).wf = true
theorem rdT111 : Rdb Try.prog 111 k111 okT111 := Rdb.weaken (Rdb.iso (fun a => ⟨a.1, a.2.1, a.2.2⟩) (fun _ => rfl) (Rdb.struct Try.underlying111 (by kernel_rfl) (by kernel_rfl) (RdF.cons (Rdb.string Try.underlying9) (RdF.cons (Rdb.int Try.underlying2) (RdF.one (Rdb.int Try.underlying2)))))) (fun _ h => h)
end Go.Proofs.Ytffmpmgnkhlmdaa.Kin
