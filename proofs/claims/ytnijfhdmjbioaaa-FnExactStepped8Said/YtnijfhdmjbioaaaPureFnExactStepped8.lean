/-
The law FnExactStepped8 of the given program returns true for every input; no condition.
-/
import Derived.Test.YtnijfhdmjbioaaaPFnExactStepped8x1
import Derived.Test.YtnijfhdmjbioaaaAidA
import Derived.Test.YtnijfhdmjbioaaaAidB
import Derived.Test.YtnijfhdmjbioaaaAidR
namespace Go.Proofs.Ytnijfhdmjbioaaa.Pure
open Go.RowKit Go.Proofs.Ytnijfhdmjbioaaa.Aid Go.Proofs.Ytnijfhdmjbioaaa.PFnExactStepped8 Go.Proofs.YtnijfhdmjbioaaaW.PrintWords Go.Proofs.YtnijfhdmjbioaaaW.PrintLast Go.Proofs.YtnijfhdmjbioaaaW.PrintMore
set_option linter.unusedVariables false
set_option linter.unusedSimpArgs false

theorem spec_l1In_eq (a b c : Int) : spec_l1In.f a b c = some (inR a b c) := by
  unfold spec_l1In.f inR
  by_cases h : a ≥ b
  · rw [if_pos h, decide_eq_true (show b ≤ a from h)]
    rfl
  · rw [if_neg h, decide_eq_false (show ¬ b ≤ a from h)]
    rfl

theorem impl_within_eq (a b c : Int) : impl_within.f a b c = some (inR a b c) := by
  unfold impl_within.f inR
  by_cases h : a ≥ b
  · rw [if_pos h, decide_eq_true (show b ≤ a from h)]
    rfl
  · rw [if_neg h, decide_eq_false (show ¬ b ≤ a from h)]
    rfl

theorem impl_isByte_eq (a : Int) : impl_isByte.f a = some (inR a 0 255) := by
  unfold impl_isByte.f
  rw [impl_within_eq]
  rfl

theorem spec_l4Byte_eq (a : Int) : spec_l4Byte.f a = some (inR a 0 255) := by
  unfold spec_l4Byte.f
  rw [spec_l1In_eq]
  rfl

theorem spec_l3One_eq (b : Bool) : spec_l3One.f b = some b.toInt := by cases b <;> rfl

theorem spec_l4Flags_eq (z n h c : Bool) : spec_l4Flags.f z n h c = some (FL z n h c) := by
  unfold spec_l4Flags.f
  simp only [spec_l3One_eq, Option.bind_some]
  cases z <;> cases n <;> cases h <;> cases c <;> decide +kernel

theorem impl_flags_eq (k : Nat) (z n h c : Bool) : impl_flags.f (k + 2) z n h c = some (FL z n h c) := by
  unfold impl_flags.f
  cases z <;> cases n <;> cases h <;> cases c <;> simp only [if_true, if_false, Bool.false_eq_true, impl_flags.j0, impl_flags.j1] <;> decide +kernel

theorem impl_has_eq (f g : Int) : impl_has.f f g = some (bits .and .i64 f g != 0) := rfl

theorem spec_l4Carry_eq {f : Int} (h0 : 0 ≤ f) (h1 : f ≤ 255) : spec_l4Carry.f f = some (f / 16 % 2) := by
  unfold spec_l4Carry.f
  rw [Int.tdiv_eq_ediv_of_nonneg h0, w64 (by omega) (by omega), Int.tmod_eq_emod_of_nonneg (by omega)]

theorem spec_Stepped8_eq (k : Nat) (v f : Int) (d : Bool) : spec_Stepped8.f (k + 3) v f d = some (stepped8 v f d) := by
  unfold spec_Stepped8.f stepped8
  simp only [spec_l4Byte_eq, Option.bind_some, spec_Stepped8.j0, spec_l4Flags_eq]
  by_cases h1 : 0 ≤ v ∧ v ≤ 255
  · rw [inR_pos h1.1 h1.2]
    by_cases h2 : 0 ≤ f ∧ f ≤ 255
    · rw [inR_pos h2.1 h2.2]
      simp only [if_true, Bool.and_self, Bool.not_true, Bool.false_eq_true, if_false]
      rw [spec_l4Carry_eq h2.1 h2.2, w64 (n := v + 255) (by omega) (by omega), w64 (n := v + 1) (by omega) (by omega), Int.tmod_eq_emod_of_nonneg (a := v + 255) (by omega), Int.tmod_eq_emod_of_nonneg (a := v + 1) (by omega), Int.tmod_eq_emod_of_nonneg (a := v) (by omega)]
      cases d <;> rfl
    · rw [inR_neg h2]
      rfl
  · rw [inR_neg h1]
    rfl

theorem impl_Stepped8_eq (k : Nat) (v f : Int) (d : Bool) : impl_Stepped8.f (k + 3) v f d = some (stepped8 v f d) := by
  unfold impl_Stepped8.f stepped8
  simp only [impl_isByte_eq, Option.bind_some, impl_Stepped8.j0, impl_flags_eq, impl_has_eq]
  by_cases h1 : 0 ≤ v ∧ v ≤ 255
  · rw [inR_pos h1.1 h1.2]
    by_cases h2 : 0 ≤ f ∧ f ≤ 255
    · rw [inR_pos h2.1 h2.2]
      simp only [if_true, Bool.and_self, Bool.not_true, Bool.false_eq_true, if_false]
      rw [bit16 h2.1 h2.2, and255', and255', and15', w64 (n := v - 1) (by omega) (by omega), w64 (n := v + 1) (by omega) (by omega), show (v - 1) % 256 = (v + 255) % 256 from by omega]
      cases d <;> rfl
    · rw [inR_neg h2]
      rfl
  · rw [inR_neg h1]
    rfl

theorem FnExactStepped8 : laws_FnExactStepped8.Pure := by
  intro v f d _ _
  refine ⟨0 + 3, ?_⟩
  unfold laws_FnExactStepped8.f
  rw [spec_Stepped8_eq, impl_Stepped8_eq]
  simp

end Go.Proofs.Ytnijfhdmjbioaaa.Pure
