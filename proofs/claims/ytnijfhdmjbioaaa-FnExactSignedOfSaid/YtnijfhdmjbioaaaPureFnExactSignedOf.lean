/-
The law FnExactSignedOf of the given program returns true for every input; no condition.
-/
import Derived.Test.YtnijfhdmjbioaaaPFnExactSignedOfx1
import Derived.Test.YtnijfhdmjbioaaaAidA
import Derived.Test.YtnijfhdmjbioaaaAidB
import Derived.Test.YtnijfhdmjbioaaaAidR
namespace Go.Proofs.Ytnijfhdmjbioaaa.Pure
open Go.RowKit Go.Proofs.Ytnijfhdmjbioaaa.Aid Go.Proofs.Ytnijfhdmjbioaaa.PFnExactSignedOf Go.Proofs.YtnijfhdmjbioaaaW.PrintWords Go.Proofs.YtnijfhdmjbioaaaW.PrintLast Go.Proofs.YtnijfhdmjbioaaaW.PrintMore
set_option linter.unusedVariables false
set_option linter.unusedSimpArgs false

theorem spec_l1In_eq (a b c : Int) : spec_l1In.f a b c = some (inR a b c) := by
  unfold spec_l1In.f inR
  by_cases h : a ≥ b
  · rw [if_pos h, decide_eq_true (show b ≤ a from h)]
    rfl
  · rw [if_neg h, decide_eq_false (show ¬ b ≤ a from h)]
    rfl

theorem impl_within_eq (a b c : Int) : impl_within.f a b c = some (inR a b c) := by
  unfold impl_within.f inR
  by_cases h : a ≥ b
  · rw [if_pos h, decide_eq_true (show b ≤ a from h)]
    rfl
  · rw [if_neg h, decide_eq_false (show ¬ b ≤ a from h)]
    rfl

theorem impl_isByte_eq (a : Int) : impl_isByte.f a = some (inR a 0 255) := by
  unfold impl_isByte.f
  rw [impl_within_eq]
  rfl

theorem spec_SignedOf_eq (a : Int) : spec_SignedOf.f a = some (sgn a) := by
  unfold spec_SignedOf.f sgn
  rw [spec_l1In_eq]
  by_cases h : 0 ≤ a ∧ a ≤ 255
  · rw [inR_pos h.1 h.2]
    simp only [Option.bind_some, if_true]
    by_cases h2 : a > 127
    · rw [if_pos h2, if_pos h2, w64 (by omega) (by omega)]
    · rw [if_neg h2, if_neg h2]
  · rw [inR_neg h]
    rfl

theorem impl_SignedOf_eq (a : Int) : impl_SignedOf.f a = some (sgn a) := by
  unfold impl_SignedOf.f sgn
  rw [impl_isByte_eq]
  by_cases h : 0 ≤ a ∧ a ≤ 255
  · rw [inR_pos h.1 h.2]
    simp only [Option.bind_some, if_true]
    by_cases h2 : a > 127
    · rw [if_pos h2, if_pos h2, w64 (by omega) (by omega)]
    · rw [if_neg h2, if_neg h2]
  · rw [inR_neg h]
    rfl

theorem FnExactSignedOf : laws_FnExactSignedOf.Pure := by
  intro a _
  unfold laws_FnExactSignedOf.f
  rw [spec_SignedOf_eq, impl_SignedOf_eq]
  simp

end Go.Proofs.Ytnijfhdmjbioaaa.Pure
