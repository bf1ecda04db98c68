/-
The law FnExactDaa of the given program returns true for every input; no condition.
-/
import Derived.Test.YtnchhhafdkpmaaaPFnExactDaax2
import Derived.Test.YtnchhhafdkpmaaaAidA
import Derived.Test.YtnchhhafdkpmaaaAidB
namespace Go.Proofs.Ytnchhhafdkpmaaa.Pure
open Go.RowKit Go.Proofs.Ytnchhhafdkpmaaa.Aid Go.Proofs.Ytnchhhafdkpmaaa.PFnExactDaa Go.Proofs.YtnchhhafdkpmaaaW.PrintWords Go.Proofs.YtnchhhafdkpmaaaW.PrintLast Go.Proofs.YtnchhhafdkpmaaaW.PrintMore
set_option linter.unusedVariables false
set_option linter.unusedSimpArgs false

theorem spec_l1In_eq (a b c : Int) : spec_l1In.f a b c = some (inR a b c) := by
  unfold spec_l1In.f inR
  by_cases h : a ≥ b
  · rw [if_pos h, decide_eq_true (show b ≤ a from h)]
    rfl
  · rw [if_neg h, decide_eq_false (show ¬ b ≤ a from h)]
    rfl

theorem impl_within_eq (a b c : Int) : impl_within.f a b c = some (inR a b c) := by
  unfold impl_within.f inR
  by_cases h : a ≥ b
  · rw [if_pos h, decide_eq_true (show b ≤ a from h)]
    rfl
  · rw [if_neg h, decide_eq_false (show ¬ b ≤ a from h)]
    rfl

theorem impl_isByte_eq (a : Int) : impl_isByte.f a = some (inR a 0 255) := by
  unfold impl_isByte.f
  rw [impl_within_eq]
  rfl

theorem spec_l4Byte_eq (a : Int) : spec_l4Byte.f a = some (inR a 0 255) := by
  unfold spec_l4Byte.f
  rw [spec_l1In_eq]
  rfl

theorem spec_l3One_eq (b : Bool) : spec_l3One.f b = some b.toInt := by cases b <;> rfl

theorem spec_l4Flags_eq (z n h c : Bool) : spec_l4Flags.f z n h c = some (FL z n h c) := by
  unfold spec_l4Flags.f
  simp only [spec_l3One_eq, Option.bind_some]
  cases z <;> cases n <;> cases h <;> cases c <;> decide +kernel

theorem impl_flags_eq (k : Nat) (z n h c : Bool) : impl_flags.f (k + 2) z n h c = some (FL z n h c) := by
  unfold impl_flags.f
  cases z <;> cases n <;> cases h <;> cases c <;> simp only [if_true, if_false, Bool.false_eq_true, impl_flags.j0, impl_flags.j1] <;> decide +kernel

theorem impl_has_eq (f g : Int) : impl_has.f f g = some (bits .and .i64 f g != 0) := rfl

theorem spec_l4Carry_eq {f : Int} (h0 : 0 ≤ f) (h1 : f ≤ 255) : spec_l4Carry.f f = some (f / 16 % 2) := by
  unfold spec_l4Carry.f
  rw [Int.tdiv_eq_ediv_of_nonneg h0, w64 (by omega) (by omega), Int.tmod_eq_emod_of_nonneg (by omega)]

theorem FnExactDaa_in (k : Nat) {a f : Int} (ha : 0 ≤ a ∧ a ≤ 255) (hf : 0 ≤ f ∧ f ≤ 255) : laws_FnExactDaa.f a f = some true := by
  unfold laws_FnExactDaa.f spec_Daa.f impl_Daa.f
  simp only [if_pos ha, if_pos hf, Option.bind_some]
  unfold spec_Daa.out impl_Daa.out
  simp only [bit64 hf.1 hf.2, bit32 hf.1 hf.2, bit16 hf.1 hf.2]
  have e32 : Int.tmod (wrap64 (Int.tdiv f 32)) 2 = f / 32 % 2 := by
    rw [Int.tdiv_eq_ediv_of_nonneg hf.1, w64 (by omega) (by omega), Int.tmod_eq_emod_of_nonneg (by omega)]
  have e64 : Int.tmod (wrap64 (Int.tdiv f 64)) 2 = f / 64 % 2 := by
    rw [Int.tdiv_eq_ediv_of_nonneg hf.1, w64 (by omega) (by omega), Int.tmod_eq_emod_of_nonneg (by omega)]
  have e16 : Int.tmod (wrap64 (Int.tdiv f 16)) 2 = f / 16 % 2 := by
    rw [Int.tdiv_eq_ediv_of_nonneg hf.1, w64 (by omega) (by omega), Int.tmod_eq_emod_of_nonneg (by omega)]
  rw [e32, e64, e16]
  have h1 : f / 32 % 2 = 0 ∨ f / 32 % 2 = 1 := by omega
  have h2 : f / 64 % 2 = 0 ∨ f / 64 % 2 = 1 := by omega
  have h3 : f / 16 % 2 = 0 ∨ f / 16 % 2 = 1 := by omega
  obtain ⟨m, rfl⟩ := to_fin ha.1 ha.2
  clear ha
  rcases h1 with h1 | h1 <;> rcases h2 with h2 | h2 <;> rcases h3 with h3 | h3 <;> rw [h1, h2, h3] <;> (revert m; decide +kernel)
theorem FnExactDaa : laws_FnExactDaa.Pure := by
  intro a f _ _
  by_cases ha : 0 ≤ a ∧ a ≤ 255
  · by_cases hf : 0 ≤ f ∧ f ≤ 255
    · exact FnExactDaa_in 0 ha hf
    · unfold laws_FnExactDaa.f spec_Daa.f impl_Daa.f
      simp only [if_pos ha, if_neg hf, Option.bind_some]
      rfl
  · unfold laws_FnExactDaa.f spec_Daa.f impl_Daa.f
    simp only [if_neg ha, Option.bind_some]
    rfl

end Go.Proofs.Ytnchhhafdkpmaaa.Pure
