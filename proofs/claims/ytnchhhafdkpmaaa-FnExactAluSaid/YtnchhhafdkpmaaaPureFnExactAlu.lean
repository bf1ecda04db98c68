/-
The law FnExactAlu of the given program returns true for every input; no condition.
-/
import Derived.Test.YtnchhhafdkpmaaaPFnExactAlux2
import Derived.Test.YtnchhhafdkpmaaaAidA
import Derived.Test.YtnchhhafdkpmaaaAidB
namespace Go.Proofs.Ytnchhhafdkpmaaa.Pure
open Go.RowKit Go.Proofs.Ytnchhhafdkpmaaa.Aid Go.Proofs.Ytnchhhafdkpmaaa.PFnExactAlu Go.Proofs.YtnchhhafdkpmaaaW.PrintWords Go.Proofs.YtnchhhafdkpmaaaW.PrintLast Go.Proofs.YtnchhhafdkpmaaaW.PrintMore
set_option linter.unusedVariables false
set_option linter.unusedSimpArgs false

theorem spec_l1In_eq (a b c : Int) : spec_l1In.f a b c = some (inR a b c) := by
  unfold spec_l1In.f inR
  by_cases h : a ≥ b
  · rw [if_pos h, decide_eq_true (show b ≤ a from h)]
    rfl
  · rw [if_neg h, decide_eq_false (show ¬ b ≤ a from h)]
    rfl

theorem impl_within_eq (a b c : Int) : impl_within.f a b c = some (inR a b c) := by
  unfold impl_within.f inR
  by_cases h : a ≥ b
  · rw [if_pos h, decide_eq_true (show b ≤ a from h)]
    rfl
  · rw [if_neg h, decide_eq_false (show ¬ b ≤ a from h)]
    rfl

theorem impl_isByte_eq (a : Int) : impl_isByte.f a = some (inR a 0 255) := by
  unfold impl_isByte.f
  rw [impl_within_eq]
  rfl

theorem spec_l4Byte_eq (a : Int) : spec_l4Byte.f a = some (inR a 0 255) := by
  unfold spec_l4Byte.f
  rw [spec_l1In_eq]
  rfl

theorem spec_l3One_eq (b : Bool) : spec_l3One.f b = some b.toInt := by cases b <;> rfl

theorem spec_l4Flags_eq (z n h c : Bool) : spec_l4Flags.f z n h c = some (FL z n h c) := by
  unfold spec_l4Flags.f
  simp only [spec_l3One_eq, Option.bind_some]
  cases z <;> cases n <;> cases h <;> cases c <;> decide +kernel

theorem impl_flags_eq (k : Nat) (z n h c : Bool) : impl_flags.f (k + 2) z n h c = some (FL z n h c) := by
  unfold impl_flags.f
  cases z <;> cases n <;> cases h <;> cases c <;> simp only [if_true, if_false, Bool.false_eq_true, impl_flags.j0, impl_flags.j1] <;> decide +kernel

theorem impl_has_eq (f g : Int) : impl_has.f f g = some (bits .and .i64 f g != 0) := rfl

theorem spec_l4Carry_eq {f : Int} (h0 : 0 ≤ f) (h1 : f ≤ 255) : spec_l4Carry.f f = some (f / 16 % 2) := by
  unfold spec_l4Carry.f
  rw [Int.tdiv_eq_ediv_of_nonneg h0, w64 (by omega) (by omega), Int.tmod_eq_emod_of_nonneg (by omega)]

theorem spec_Alu_eq (k : Nat) (op a b f : Int) : spec_Alu.f (k + 9) op a b f = some (alu op a b f) := by
  unfold spec_Alu.f spec_l4Alu.f alu
  simp only [spec_l1In_eq, spec_l4Byte_eq, Option.bind_some, spec_l4Alu.j0, spec_l4Alu.j1, spec_l4Alu.j2, spec_l4Flags_eq]
  by_cases ho : 0 ≤ op ∧ op ≤ 7
  · by_cases ha : 0 ≤ a ∧ a ≤ 255
    · by_cases hb : 0 ≤ b ∧ b ≤ 255
      · by_cases hf : 0 ≤ f ∧ f ≤ 255
        · rw [inR_pos ho.1 ho.2, inR_pos ha.1 ha.2, inR_pos hb.1 hb.2, inR_pos hf.1 hf.2, spec_l4Carry_eq hf.1 hf.2]
          simp only [if_true, Bool.and_self, Option.bind_some, Bool.false_eq_true, if_false]
          have h4 : op = 0 ∨ op = 1 ∨ op = 2 ∨ op = 3 ∨ op = 4 ∨ op = 5 ∨ op = 6 ∨ op = 7 := by omega
          have hc : 0 ≤ f / 16 % 2 ∧ f / 16 % 2 ≤ 1 := by omega
          generalize f / 16 % 2 = c at hc ⊢
          have add : ∀ c : Int, 0 ≤ c ∧ c ≤ 1 → wrap64 (a + b) = a + b ∧ wrap64 (a + b + c) = a + b + c ∧ wrap64 (a % 16 + b % 16) = a % 16 + b % 16 ∧ wrap64 (a % 16 + b % 16 + c) = a % 16 + b % 16 + c ∧ wrap64 (a - b) = a - b ∧ wrap64 (a - b - c) = a - b - c ∧ wrap64 (b % 16 + c) = b % 16 + c ∧ wrap64 (a - b - c + 512) = a - b - c + 512 ∧ Int.tmod (a + b + c) 256 = (a + b + c) % 256 ∧ Int.tmod (a - b - c + 512) 256 = (a - b - c) % 256 := by
            intro c hc
            refine ⟨w64 (by omega) (by omega), w64 (by omega) (by omega), w64 (by omega) (by omega), w64 (by omega) (by omega), w64 (by omega) (by omega), w64 (by omega) (by omega), w64 (by omega) (by omega), w64 (by omega) (by omega), Int.tmod_eq_emod_of_nonneg (by omega), ?_⟩
            rw [Int.tmod_eq_emod_of_nonneg (by omega)]
            omega
          have ea : Int.tmod a 16 = a % 16 := Int.tmod_eq_emod_of_nonneg ha.1
          have eb : Int.tmod b 16 = b % 16 := Int.tmod_eq_emod_of_nonneg hb.1
          obtain ⟨a1, a2, a3, a4, a5, a6, a7, a8, a9, a10⟩ := add c hc
          obtain ⟨b1, b2, b3, b4, b5, b6, b7, b8, b9, b10⟩ := add 0 (by decide)
          simp only [ea, eb, a1, a2, a3, a4, a5, a6, a7, a8, a9, a10, b2, b4, b6, b7, b8, b9, b10]
          rcases h4 with rfl | rfl | rfl | rfl | rfl | rfl | rfl | rfl <;> simp only [Int.reduceEq, reduceIte, Int.reduceBEq, Bool.false_eq_true, Option.bind_some]
        · rw [inR_neg hf, inR_pos ho.1 ho.2, inR_pos ha.1 ha.2, inR_pos hb.1 hb.2]
          rfl
      · rw [inR_neg hb, inR_pos ho.1 ho.2, inR_pos ha.1 ha.2]
        rfl
    · rw [inR_neg ha, inR_pos ho.1 ho.2]
      rfl
  · rw [inR_neg ho]
    rfl

theorem impl_Alu_eq (k : Nat) (op a b f : Int) : impl_Alu.f (k + 9) op a b f = some (alu op a b f) := by
  unfold impl_Alu.f alu
  simp only [impl_within_eq, impl_isByte_eq, Option.bind_some, impl_Alu.j0, impl_Alu.j1, impl_Alu.j2, impl_Alu.j3, impl_flags_eq, impl_has_eq]
  by_cases ho : 0 ≤ op ∧ op ≤ 7
  · by_cases ha : 0 ≤ a ∧ a ≤ 255
    · by_cases hb : 0 ≤ b ∧ b ≤ 255
      · by_cases hf : 0 ≤ f ∧ f ≤ 255
        · rw [inR_pos ho.1 ho.2, inR_pos ha.1 ha.2, inR_pos hb.1 hb.2, inR_pos hf.1 hf.2, bit16 hf.1 hf.2]
          simp only [if_true, Bool.and_self, Option.bind_some, Bool.false_eq_true, if_false, Bool.not_true]
          have h4 : op = 0 ∨ op = 1 ∨ op = 2 ∨ op = 3 ∨ op = 4 ∨ op = 5 ∨ op = 6 ∨ op = 7 := by omega
          have hc : f / 16 % 2 = 0 ∨ f / 16 % 2 = 1 := by omega
          generalize f / 16 % 2 = c at hc ⊢
          have add : ∀ c : Int, 0 ≤ c ∧ c ≤ 1 → wrap64 (a + b) = a + b ∧ wrap64 (a + b + c) = a + b + c ∧ wrap64 (a % 16 + b % 16) = a % 16 + b % 16 ∧ wrap64 (a % 16 + b % 16 + c) = a % 16 + b % 16 + c ∧ wrap64 (a - b) = a - b ∧ wrap64 (a - b - c) = a - b - c ∧ wrap64 (b % 16 + c) = b % 16 + c := by
            intro c hc
            exact ⟨w64 (by omega) (by omega), w64 (by omega) (by omega), w64 (by omega) (by omega), w64 (by omega) (by omega), w64 (by omega) (by omega), w64 (by omega) (by omega), w64 (by omega) (by omega)⟩
          obtain ⟨a1, a2, a3, a4, a5, a6, a7⟩ := add 1 (by decide)
          obtain ⟨b1, b2, b3, b4, b5, b6, b7⟩ := add 0 (by decide)
          simp only [and15', and255', a1, a2, a3, a4, a5, a6, a7, b2, b4, b6, b7]
          have hx := xor_zero ha.1 ha.2 hb.1 hb.2
          rcases hc with rfl | rfl <;> rcases h4 with rfl | rfl | rfl | rfl | rfl | rfl | rfl | rfl <;> simp only [Int.reduceEq, reduceIte, Int.reduceBEq, Bool.false_eq_true, hx, decide_true, decide_false, Option.bind_some]
        · rw [inR_neg hf, inR_pos ho.1 ho.2, inR_pos ha.1 ha.2, inR_pos hb.1 hb.2]
          rfl
      · rw [inR_neg hb, inR_pos ho.1 ho.2, inR_pos ha.1 ha.2]
        rfl
    · rw [inR_neg ha, inR_pos ho.1 ho.2]
      rfl
  · rw [inR_neg ho]
    rfl

theorem FnExactAlu : laws_FnExactAlu.Pure := by
  intro op a b f _ _ _ _
  refine ⟨0 + 9, ?_⟩
  unfold laws_FnExactAlu.f
  rw [spec_Alu_eq, impl_Alu_eq]
  simp

end Go.Proofs.Ytnchhhafdkpmaaa.Pure
