/-
The law FnExactAddSigned of the given program returns true for every input; no condition.
-/
import Derived.Test.YtnchhhafdkpmaaaPFnExactAddSignedx1
import Derived.Test.YtnchhhafdkpmaaaAidA
import Derived.Test.YtnchhhafdkpmaaaAidB
import Derived.Test.YtnchhhafdkpmaaaAidR
namespace Go.Proofs.Ytnchhhafdkpmaaa.Pure
open Go.RowKit Go.Proofs.Ytnchhhafdkpmaaa.Aid Go.Proofs.Ytnchhhafdkpmaaa.PFnExactAddSigned Go.Proofs.YtnchhhafdkpmaaaW.PrintWords Go.Proofs.YtnchhhafdkpmaaaW.PrintLast Go.Proofs.YtnchhhafdkpmaaaW.PrintMore
set_option linter.unusedVariables false
set_option linter.unusedSimpArgs false

theorem spec_l1In_eq (a b c : Int) : spec_l1In.f a b c = some (inR a b c) := by
  unfold spec_l1In.f inR
  by_cases h : a ≥ b
  · rw [if_pos h, decide_eq_true (show b ≤ a from h)]
    rfl
  · rw [if_neg h, decide_eq_false (show ¬ b ≤ a from h)]
    rfl

theorem impl_within_eq (a b c : Int) : impl_within.f a b c = some (inR a b c) := by
  unfold impl_within.f inR
  by_cases h : a ≥ b
  · rw [if_pos h, decide_eq_true (show b ≤ a from h)]
    rfl
  · rw [if_neg h, decide_eq_false (show ¬ b ≤ a from h)]
    rfl

theorem impl_isByte_eq (a : Int) : impl_isByte.f a = some (inR a 0 255) := by
  unfold impl_isByte.f
  rw [impl_within_eq]
  rfl

theorem impl_isWord_eq (a : Int) : impl_isWord.f a = some (inR a 0 65535) := by
  unfold impl_isWord.f
  rw [impl_within_eq]
  rfl

theorem spec_l4Byte_eq (a : Int) : spec_l4Byte.f a = some (inR a 0 255) := by
  unfold spec_l4Byte.f
  rw [spec_l1In_eq]
  rfl

theorem spec_l4Word_eq (a : Int) : spec_l4Word.f a = some (inR a 0 65535) := by
  unfold spec_l4Word.f
  rw [spec_l1In_eq]
  rfl

theorem spec_l3One_eq (b : Bool) : spec_l3One.f b = some b.toInt := by cases b <;> rfl

theorem spec_l4Flags_eq (z n h c : Bool) : spec_l4Flags.f z n h c = some (FL z n h c) := by
  unfold spec_l4Flags.f
  simp only [spec_l3One_eq, Option.bind_some]
  cases z <;> cases n <;> cases h <;> cases c <;> decide +kernel

theorem impl_flags_eq (k : Nat) (z n h c : Bool) : impl_flags.f (k + 2) z n h c = some (FL z n h c) := by
  unfold impl_flags.f
  cases z <;> cases n <;> cases h <;> cases c <;> simp only [if_true, if_false, Bool.false_eq_true, impl_flags.j0, impl_flags.j1] <;> decide +kernel

theorem spec_SignedOf_eq (a : Int) : spec_SignedOf.f a = some (sgn a) := by
  unfold spec_SignedOf.f sgn
  rw [spec_l1In_eq]
  by_cases h : 0 ≤ a ∧ a ≤ 255
  · rw [inR_pos h.1 h.2]
    simp only [Option.bind_some, if_true]
    by_cases h2 : a > 127
    · rw [if_pos h2, if_pos h2, w64 (by omega) (by omega)]
    · rw [if_neg h2, if_neg h2]
  · rw [inR_neg h]
    rfl

theorem impl_SignedOf_eq (a : Int) : impl_SignedOf.f a = some (sgn a) := by
  unfold impl_SignedOf.f sgn
  rw [impl_isByte_eq]
  by_cases h : 0 ≤ a ∧ a ≤ 255
  · rw [inR_pos h.1 h.2]
    simp only [Option.bind_some, if_true]
    by_cases h2 : a > 127
    · rw [if_pos h2, if_pos h2, w64 (by omega) (by omega)]
    · rw [if_neg h2, if_neg h2]
  · rw [inR_neg h]
    rfl

theorem spec_AddSigned_eq (k : Nat) (sp b : Int) : spec_AddSigned.f (k + 3) sp b = some (addSigned sp b) := by
  unfold spec_AddSigned.f addSigned
  simp only [spec_l4Word_eq, spec_l4Byte_eq, Option.bind_some, spec_AddSigned.j0, spec_l4Flags_eq, spec_SignedOf_eq]
  by_cases h1 : 0 ≤ sp ∧ sp ≤ 65535
  · rw [inR_pos h1.1 h1.2]
    by_cases h2 : 0 ≤ b ∧ b ≤ 255
    · rw [inR_pos h2.1 h2.2]
      have hs := sgn_in b
      simp only [if_true, Bool.and_self, Bool.not_true, Bool.false_eq_true, if_false]
      rw [Int.tmod_eq_emod_of_nonneg h1.1, Int.tmod_eq_emod_of_nonneg h1.1, Int.tmod_eq_emod_of_nonneg h2.1, w64 (n := sp % 16 + b % 16) (by omega) (by omega), w64 (n := sp % 256 + b) (by omega) (by omega),
        w64 (n := sp + sgn b) (by omega) (by omega), w64 (n := sp + sgn b + 65536) (by omega) (by omega), Int.tmod_eq_emod_of_nonneg (by omega), show (sp + sgn b + 65536) % 65536 = (sp + sgn b) % 65536 from by omega]
    · rw [inR_neg h2]
      rfl
  · rw [inR_neg h1]
    rfl

theorem impl_AddSigned_eq (k : Nat) (sp b : Int) : impl_AddSigned.f (k + 3) sp b = some (addSigned sp b) := by
  unfold impl_AddSigned.f addSigned
  simp only [impl_isWord_eq, impl_isByte_eq, Option.bind_some, impl_AddSigned.j0, impl_flags_eq, impl_SignedOf_eq]
  by_cases h1 : 0 ≤ sp ∧ sp ≤ 65535
  · rw [inR_pos h1.1 h1.2]
    by_cases h2 : 0 ≤ b ∧ b ≤ 255
    · rw [inR_pos h2.1 h2.2]
      have hs := sgn_in b
      simp only [if_true, Bool.and_self, Bool.not_true, Bool.false_eq_true, if_false]
      rw [and15', and15', and255', and65535', w64 (n := sp % 16 + b % 16) (by omega) (by omega), w64 (n := sp % 256 + b) (by omega) (by omega), w64 (n := sp + sgn b) (by omega) (by omega)]
    · rw [inR_neg h2]
      rfl
  · rw [inR_neg h1]
    rfl

theorem FnExactAddSigned : laws_FnExactAddSigned.Pure := by
  intro a b _ _
  refine ⟨0 + 3, ?_⟩
  unfold laws_FnExactAddSigned.f
  rw [spec_AddSigned_eq, impl_AddSigned_eq]
  simp

end Go.Proofs.Ytnchhhafdkpmaaa.Pure
