/-
The law FnExactAddWords of the given program returns true for every input; no condition.
-/
import Derived.Test.YtnijfhdmjbioaaaPFnExactAddWordsx1
import Derived.Test.YtnijfhdmjbioaaaAidA
import Derived.Test.YtnijfhdmjbioaaaAidB
import Derived.Test.YtnijfhdmjbioaaaAidR
namespace Go.Proofs.Ytnijfhdmjbioaaa.Pure
open Go.RowKit Go.Proofs.Ytnijfhdmjbioaaa.Aid Go.Proofs.Ytnijfhdmjbioaaa.PFnExactAddWords Go.Proofs.YtnijfhdmjbioaaaW.PrintWords Go.Proofs.YtnijfhdmjbioaaaW.PrintLast Go.Proofs.YtnijfhdmjbioaaaW.PrintMore
set_option linter.unusedVariables false
set_option linter.unusedSimpArgs false

theorem spec_l1In_eq (a b c : Int) : spec_l1In.f a b c = some (inR a b c) := by
  unfold spec_l1In.f inR
  by_cases h : a ≥ b
  · rw [if_pos h, decide_eq_true (show b ≤ a from h)]
    rfl
  · rw [if_neg h, decide_eq_false (show ¬ b ≤ a from h)]
    rfl

theorem impl_within_eq (a b c : Int) : impl_within.f a b c = some (inR a b c) := by
  unfold impl_within.f inR
  by_cases h : a ≥ b
  · rw [if_pos h, decide_eq_true (show b ≤ a from h)]
    rfl
  · rw [if_neg h, decide_eq_false (show ¬ b ≤ a from h)]
    rfl

theorem impl_isByte_eq (a : Int) : impl_isByte.f a = some (inR a 0 255) := by
  unfold impl_isByte.f
  rw [impl_within_eq]
  rfl

theorem impl_isWord_eq (a : Int) : impl_isWord.f a = some (inR a 0 65535) := by
  unfold impl_isWord.f
  rw [impl_within_eq]
  rfl

theorem spec_l4Byte_eq (a : Int) : spec_l4Byte.f a = some (inR a 0 255) := by
  unfold spec_l4Byte.f
  rw [spec_l1In_eq]
  rfl

theorem spec_l4Word_eq (a : Int) : spec_l4Word.f a = some (inR a 0 65535) := by
  unfold spec_l4Word.f
  rw [spec_l1In_eq]
  rfl

theorem spec_l3One_eq (b : Bool) : spec_l3One.f b = some b.toInt := by cases b <;> rfl

theorem spec_l4Flags_eq (z n h c : Bool) : spec_l4Flags.f z n h c = some (FL z n h c) := by
  unfold spec_l4Flags.f
  simp only [spec_l3One_eq, Option.bind_some]
  cases z <;> cases n <;> cases h <;> cases c <;> decide +kernel

theorem impl_flags_eq (k : Nat) (z n h c : Bool) : impl_flags.f (k + 2) z n h c = some (FL z n h c) := by
  unfold impl_flags.f
  cases z <;> cases n <;> cases h <;> cases c <;> simp only [if_true, if_false, Bool.false_eq_true, impl_flags.j0, impl_flags.j1] <;> decide +kernel

theorem impl_has_eq (f g : Int) : impl_has.f f g = some (bits .and .i64 f g != 0) := rfl

theorem spec_AddWords_eq (a b f : Int) : spec_AddWords.f a b f = some (addWords a b f) := by
  unfold spec_AddWords.f addWords
  simp only [spec_l4Word_eq, spec_l4Byte_eq, spec_l4Flags_eq, Option.bind_some]
  by_cases h1 : 0 ≤ a ∧ a ≤ 65535
  · rw [inR_pos h1.1 h1.2]
    by_cases h2 : 0 ≤ b ∧ b ≤ 65535
    · rw [inR_pos h2.1 h2.2]
      by_cases h3 : 0 ≤ f ∧ f ≤ 255
      · rw [inR_pos h3.1 h3.2]
        simp only [if_true, Bool.and_self]
        rw [Int.tmod_eq_emod_of_nonneg h1.1, Int.tmod_eq_emod_of_nonneg h2.1, w64 (n := a % 4096 + b % 4096) (by omega) (by omega), w64 (n := a + b) (by omega) (by omega), Int.tmod_eq_emod_of_nonneg (a := a + b) (by omega)]
      · rw [inR_neg h3]
        rfl
    · rw [inR_neg h2]
      rfl
  · rw [inR_neg h1]
    rfl

theorem impl_AddWords_eq (k : Nat) (a b f : Int) : impl_AddWords.f (k + 3) a b f = some (addWords a b f) := by
  unfold impl_AddWords.f addWords
  simp only [impl_isWord_eq, impl_isByte_eq, Option.bind_some, impl_AddWords.j0, impl_flags_eq, impl_has_eq]
  by_cases h1 : 0 ≤ a ∧ a ≤ 65535
  · rw [inR_pos h1.1 h1.2]
    by_cases h2 : 0 ≤ b ∧ b ≤ 65535
    · rw [inR_pos h2.1 h2.2]
      by_cases h3 : 0 ≤ f ∧ f ≤ 255
      · rw [inR_pos h3.1 h3.2]
        simp only [if_true, Bool.and_self, Bool.not_true, Bool.false_eq_true, if_false]
        rw [bit128 h3.1 h3.2, and4095', and4095', and65535', w64 (n := a % 4096 + b % 4096) (by omega) (by omega), w64 (n := a + b) (by omega) (by omega)]
      · rw [inR_neg h3]
        rfl
    · rw [inR_neg h2]
      rfl
  · rw [inR_neg h1]
    rfl

theorem FnExactAddWords : laws_FnExactAddWords.Pure := by
  intro a b f _ _ _
  refine ⟨0 + 3, ?_⟩
  unfold laws_FnExactAddWords.f
  rw [spec_AddWords_eq, impl_AddWords_eq]
  simp

end Go.Proofs.Ytnijfhdmjbioaaa.Pure
