/-
What the arguments of the law FnExactObjectText are, as data: no program text of the law itself.
-/
import Derived.Test.YtlacpadpdfccmaaGreatDoorPFnExactObjectTextx0
import Derived.Test.YtlacpadpdfccmaaGreatDoorAidR
namespace Go.Proofs.YtlacpadpdfccmaaGreatDoor.Kin
open Go.RowKit Go.Proofs.YtlacpadpdfccmaaGreatDoor.Aid Go.Proofs.YtlacpadpdfccmaaGreatDoor.PFnExactObjectText Go.Proofs.YtlacpadpdfccmaaGreatDoorW.PrintWords Go.Proofs.YtlacpadpdfccmaaGreatDoorW.PrintLast Go.Proofs.YtlacpadpdfccmaaGreatDoorW.PrintMore
set_option linter.unusedVariables false
def okT119 (x : S119) : Prop := (Lit.int .i64 x.f0).wf = true ∧ (Lit.int .i64 x.f1).wf = true ∧ x.f2.size ≤ maxLen
theorem rdT119 : Rdb Tryz.prog 119 k119 okT119 := Rdb.weaken (Rdb.iso (fun a => ⟨a.1, a.2.1, a.2.2⟩) (fun _ => rfl) (Rdb.struct Tryz.underlying119 (by kernel_rfl) (by kernel_rfl) (RdF.cons (Rdb.int Tryz.underlying2) (RdF.cons (Rdb.int Tryz.underlying2) (RdF.one (Rdb.string Tryz.underlying9)))))) (fun _ h => h)
def okT150 (x : S150) : Prop := (Lit.int .i64 x.f0).wf = true ∧ (Lit.int .i64 x.f1).wf = true ∧ (x.f2.length ≤ maxLen ∧ ∀ x_ ∈ x.f2, okT119 x_)
theorem rdT150 : Rdb Tryz.prog 150 k150 okT150 := Rdb.weaken (Rdb.iso (fun a => ⟨a.1, a.2.1, a.2.2⟩) (fun _ => rfl) (Rdb.struct Tryz.underlying150 (by kernel_rfl) (by kernel_rfl) (RdF.cons (Rdb.int Tryz.underlying2) (RdF.cons (Rdb.int Tryz.underlying2) (RdF.one (Rdb.slice z119 Tryz.underlying67 (by kernel_rfl) rdT119)))))) (fun _ h => h)
def okT62 (x : S62) : Prop := x.f0.size ≤ maxLen ∧ (Lit.int .i64 x.f1).wf = true ∧ (Lit.int .i64 x.f2).wf = true ∧ (Lit.int .i64 x.f3).wf = true ∧ x.f4.size ≤ maxLen ∧ (x.f5.length ≤ maxLen ∧ ∀ x_ ∈ x.f5, okT150 x_)
theorem rdT62 : Rdb Tryz.prog 62 k62 okT62 := Rdb.weaken (Rdb.iso (fun a => ⟨a.1, a.2.1, a.2.2.1, a.2.2.2.1, a.2.2.2.2.1, a.2.2.2.2.2⟩) (fun _ => rfl) (Rdb.struct Tryz.underlying62 (by kernel_rfl) (by kernel_rfl) (RdF.cons (Rdb.string Tryz.underlying9) (RdF.cons (Rdb.int Tryz.underlying2) (RdF.cons (Rdb.int Tryz.underlying2) (RdF.cons (Rdb.int Tryz.underlying2) (RdF.cons (Rdb.string Tryz.underlying9) (RdF.one (Rdb.slice z150 Tryz.underlying60 (by kernel_rfl) rdT150))))))))) (fun _ h => h)
def okT65 (x : S65) : Prop := x.f0.size ≤ maxLen ∧ (Lit.int .i64 x.f1).wf = true ∧ (Lit.int .i64 x.f2).wf = true ∧ True
theorem rdT65 : Rdb Tryz.prog 65 k65 okT65 := Rdb.weaken (Rdb.iso (fun a => ⟨a.1, a.2.1, a.2.2.1, a.2.2.2⟩) (fun _ => rfl) (Rdb.struct Tryz.underlying65 (by kernel_rfl) (by kernel_rfl) (RdF.cons (Rdb.string Tryz.underlying9) (RdF.cons (Rdb.int Tryz.underlying2) (RdF.cons (Rdb.int Tryz.underlying2) (RdF.one (Rdb.bool Tryz.underlying4))))))) (fun _ h => h)
end Go.Proofs.YtlacpadpdfccmaaGreatDoor.Kin
