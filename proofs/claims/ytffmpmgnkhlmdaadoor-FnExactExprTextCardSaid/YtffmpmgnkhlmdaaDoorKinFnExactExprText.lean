/-
What the arguments of the law FnExactExprText are, as data: no program text of the law itself.
-/
import Derived.Test.YtffmpmgnkhlmdaaDoorPFnExactExprTextx0
import Derived.Test.YtffmpmgnkhlmdaaDoorAidR
namespace Go.Proofs.YtffmpmgnkhlmdaaDoor.Kin
open Go.RowKit Go.Proofs.YtffmpmgnkhlmdaaDoor.Aid Go.Proofs.YtffmpmgnkhlmdaaDoor.PFnExactExprText Go.Proofs.YtffmpmgnkhlmdaaDoorW.PrintWords Go.Proofs.YtffmpmgnkhlmdaaDoorW.PrintLast Go.Proofs.YtffmpmgnkhlmdaaDoorW.PrintMore
set_option linter.unusedVariables false
def okT52 (x : S52) : Prop := (Lit.int .i64 x.f0).wf = true ∧ (Lit.int .i64 x.f1).wf = true ∧ x.f2.size ≤ maxLen
theorem rdT52 : Rdb Tryd.prog 52 k52 okT52 := Rdb.weaken (Rdb.iso (fun a => ⟨a.1, a.2.1, a.2.2⟩) (fun _ => rfl) (Rdb.struct Tryd.underlying52 (by kernel_rfl) (by kernel_rfl) (RdF.cons (Rdb.int Tryd.underlying2) (RdF.cons (Rdb.int Tryd.underlying2) (RdF.one (Rdb.string Tryd.underlying9)))))) (fun _ h => h)
end Go.Proofs.YtffmpmgnkhlmdaaDoor.Kin
