/-
The law FnExactTurned of the given program returns true for every input; no condition.
-/
import Derived.Test.YtnchhhafdkpmaaaPFnExactTurnedx2
import Derived.Test.YtnchhhafdkpmaaaAidA
import Derived.Test.YtnchhhafdkpmaaaAidB
import Derived.Test.YtnchhhafdkpmaaaAidR
namespace Go.Proofs.Ytnchhhafdkpmaaa.Pure
open Go.RowKit Go.Proofs.Ytnchhhafdkpmaaa.Aid Go.Proofs.Ytnchhhafdkpmaaa.PFnExactTurned Go.Proofs.YtnchhhafdkpmaaaW.PrintWords Go.Proofs.YtnchhhafdkpmaaaW.PrintLast Go.Proofs.YtnchhhafdkpmaaaW.PrintMore
set_option linter.unusedVariables false
set_option linter.unusedSimpArgs false

theorem spec_l1In_eq (a b c : Int) : spec_l1In.f a b c = some (inR a b c) := by
  unfold spec_l1In.f inR
  by_cases h : a ≥ b
  · rw [if_pos h, decide_eq_true (show b ≤ a from h)]
    rfl
  · rw [if_neg h, decide_eq_false (show ¬ b ≤ a from h)]
    rfl

theorem impl_within_eq (a b c : Int) : impl_within.f a b c = some (inR a b c) := by
  unfold impl_within.f inR
  by_cases h : a ≥ b
  · rw [if_pos h, decide_eq_true (show b ≤ a from h)]
    rfl
  · rw [if_neg h, decide_eq_false (show ¬ b ≤ a from h)]
    rfl

theorem impl_isByte_eq (a : Int) : impl_isByte.f a = some (inR a 0 255) := by
  unfold impl_isByte.f
  rw [impl_within_eq]
  rfl

theorem spec_l4Byte_eq (a : Int) : spec_l4Byte.f a = some (inR a 0 255) := by
  unfold spec_l4Byte.f
  rw [spec_l1In_eq]
  rfl

theorem spec_l3One_eq (b : Bool) : spec_l3One.f b = some b.toInt := by cases b <;> rfl

theorem spec_l4Flags_eq (z n h c : Bool) : spec_l4Flags.f z n h c = some (FL z n h c) := by
  unfold spec_l4Flags.f
  simp only [spec_l3One_eq, Option.bind_some]
  cases z <;> cases n <;> cases h <;> cases c <;> decide +kernel

theorem impl_flags_eq (k : Nat) (z n h c : Bool) : impl_flags.f (k + 2) z n h c = some (FL z n h c) := by
  unfold impl_flags.f
  cases z <;> cases n <;> cases h <;> cases c <;> simp only [if_true, if_false, Bool.false_eq_true, impl_flags.j0, impl_flags.j1] <;> decide +kernel

theorem spec_l4Carry_eq {f : Int} (h0 : 0 ≤ f) (h1 : f ≤ 255) : spec_l4Carry.f f = some (f / 16 % 2) := by
  unfold spec_l4Carry.f
  rw [Int.tdiv_eq_ediv_of_nonneg h0, w64 (by omega) (by omega), Int.tmod_eq_emod_of_nonneg (by omega)]

theorem FnExactTurned_in (k : Nat) {op v f : Int} (ho : 0 ≤ op ∧ op ≤ 7) (hv : 0 ≤ v ∧ v ≤ 255) (hf : 0 ≤ f ∧ f ≤ 255) : laws_FnExactTurned.f (k + 9) op v f = some true := by
  unfold laws_FnExactTurned.f spec_Turned.f impl_Turned.f spec_l4Turned.f
  simp only [spec_l4Byte_eq, impl_isByte_eq, spec_l1In_eq, impl_within_eq, Option.bind_some, inR_pos ho.1 ho.2, inR_pos hv.1 hv.2, inR_pos hf.1 hf.2, if_true, Bool.not_true, impl_Turned.j0, Bool.false_eq_true, if_false,
    spec_l4Carry_eq hf.1 hf.2, impl_flags_eq, spec_l4Flags_eq]
  have e16 : bits .and .i64 (wrap64 (Int.tdiv f 16)) 1 = f / 16 % 2 := by
    rw [Int.tdiv_eq_ediv_of_nonneg hf.1, w64 (by omega) (by omega), and1']
  rw [e16]
  have h3 : f / 16 % 2 = 0 ∨ f / 16 % 2 = 1 := by omega
  have h4 : op = 0 ∨ op = 1 ∨ op = 2 ∨ op = 3 ∨ op = 4 ∨ op = 5 ∨ op = 6 ∨ op = 7 := by omega
  obtain ⟨m, rfl⟩ := to_fin hv.1 hv.2
  clear hv
  rcases h3 with h3 | h3 <;> rw [h3] <;> rcases h4 with rfl | rfl | rfl | rfl | rfl | rfl | rfl | rfl <;> (revert m; decide +kernel)
theorem FnExactTurned : laws_FnExactTurned.Pure := by
  intro op v f _ _ _
  refine ⟨0 + 9, ?_⟩
  by_cases ho : 0 ≤ op ∧ op ≤ 7
  · by_cases hv : 0 ≤ v ∧ v ≤ 255
    · by_cases hf : 0 ≤ f ∧ f ≤ 255
      · exact FnExactTurned_in 0 ho hv hf
      · unfold laws_FnExactTurned.f spec_Turned.f impl_Turned.f
        simp only [spec_l4Byte_eq, impl_isByte_eq, spec_l1In_eq, impl_within_eq, Option.bind_some, inR_pos ho.1 ho.2, inR_pos hv.1 hv.2, inR_neg hf, if_true, Bool.not_false, Bool.false_eq_true, if_false, impl_Turned.j0]
    · unfold laws_FnExactTurned.f spec_Turned.f impl_Turned.f
      simp only [spec_l4Byte_eq, impl_isByte_eq, spec_l1In_eq, impl_within_eq, Option.bind_some, inR_pos ho.1 ho.2, inR_neg hv, if_true, Bool.false_eq_true, if_false, impl_Turned.j0]
  · unfold laws_FnExactTurned.f spec_Turned.f impl_Turned.f
    simp only [spec_l4Byte_eq, impl_isByte_eq, spec_l1In_eq, impl_within_eq, Option.bind_some, inR_neg ho, if_true, Bool.false_eq_true, if_false, impl_Turned.j0]

end Go.Proofs.Ytnchhhafdkpmaaa.Pure
