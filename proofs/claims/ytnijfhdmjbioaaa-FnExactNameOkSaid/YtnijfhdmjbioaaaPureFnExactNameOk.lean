/-
The law FnExactNameOk of the given program returns true for every input; no condition.
-/
import Derived.Test.YtnijfhdmjbioaaaPFnExactNameOkx1
import Derived.Test.YtnijfhdmjbioaaaAidA
import Derived.Test.YtnijfhdmjbioaaaAidB
import Derived.Test.YtnijfhdmjbioaaaAidR
namespace Go.Proofs.Ytnijfhdmjbioaaa.Pure
open Go.RowKit Go.Proofs.Ytnijfhdmjbioaaa.Aid Go.Proofs.Ytnijfhdmjbioaaa.PFnExactNameOk Go.Proofs.YtnijfhdmjbioaaaW.PrintWords Go.Proofs.YtnijfhdmjbioaaaW.PrintLast Go.Proofs.YtnijfhdmjbioaaaW.PrintMore
set_option linter.unusedVariables false
set_option linter.unusedSimpArgs false

theorem impl_within_eq (a b c : Int) : impl_within.f a b c = some (inR a b c) := by
  unfold impl_within.f inR
  by_cases h : a ≥ b
  · rw [if_pos h, decide_eq_true (show b ≤ a from h)]
    rfl
  · rw [if_neg h, decide_eq_false (show ¬ b ≤ a from h)]
    rfl

theorem spec_l1Letter_eq (c : Int) : spec_l1Letter.f c = some (isLet c) := by
  unfold spec_l1Letter.f isLet inR
  by_cases h1 : c ≥ 97
  · by_cases h2 : c ≤ 122
    · simp [h1, h2]
    · by_cases h3 : c = 95
      · simp [h3]
      · simp [h1, h2, h3]
  · by_cases h3 : c = 95
    · simp [h3]
    · simp [h1, h3]

theorem impl_isDigit_eq (c : Int) : impl_isDigit.f c = some (inR c 48 57) := by
  unfold impl_isDigit.f inR
  by_cases h : c ≥ 48
  · rw [if_pos h, decide_eq_true (show 48 ≤ c from h)]
    rfl
  · rw [if_neg h, decide_eq_false (show ¬ 48 ≤ c from h)]
    rfl

theorem impl_isSmall_eq (c : Int) : impl_isSmall.f c = some (inR c 97 122) := by
  unfold impl_isSmall.f inR
  by_cases h : c ≥ 97
  · rw [if_pos h, decide_eq_true (show 97 ≤ c from h)]
    rfl
  · rw [if_neg h, decide_eq_false (show ¬ 97 ≤ c from h)]
    rfl

theorem spec_NameOk_l0 (s : ByteArray) (hs : s.size ≤ 140737488351232) : ∀ (n k i : Nat), i + n = s.size → n < k → spec_NameOk.l0 k s (i : Int) = some (allB isNam s n i) := by
  intro n
  induction n with
  | zero =>
    intro k i hi hk
    obtain ⟨k, rfl⟩ : ∃ m, k = m + 1 := ⟨k - 1, by omega⟩
    simp only [spec_NameOk.l0]
    rw [if_neg (by omega)]
    rfl
  | succ n ih =>
    intro k i hi hk
    obtain ⟨k, rfl⟩ : ∃ m, k = m + 1 := ⟨k - 1, by omega⟩
    have hn := ih k (i + 1) (by omega) (by omega)
    have hw : wrap64 ((i : Int) + 1) = ((i + 1 : Nat) : Int) := by rw [w64 (by omega) (by omega)]; omega
    simp only [spec_NameOk.l0]
    rw [if_pos (by omega), if_pos (by omega), spec_l1Letter_eq, hw, hn]
    simp only [Option.bind_some, allB, isNam, inR]
    by_cases h1 : isLet (bt s i) = true
    · simp [h1]
    · by_cases h2 : bt s i ≥ 48
      · by_cases h3 : bt s i ≤ 57
        · simp [h1, h2, h3]
        · simp [h1, h2, h3]
      · simp [h1, h2]
theorem spec_NameOk_eq (s : ByteArray) (hs : s.size ≤ 140737488351232) (k : Nat) : spec_NameOk.f (k + s.size + 3) s = some (nameOk s) := by
  unfold spec_NameOk.f nameOk
  have hl := spec_NameOk_l0 s hs s.size (k + s.size + 2) 0 (by omega) (by omega)
  simp only [spec_NameOk.j0]
  by_cases h1 : (s.size : Int) < 1
  · rw [if_pos h1, inR_neg (by omega)]
    rfl
  · by_cases h2 : (s.size : Int) > 16
    · rw [if_neg h1, if_pos h2, inR_neg (by omega)]
      rfl
    · rw [if_neg h1, if_neg h2, inR_pos (by omega) (by omega), if_pos (by omega), spec_l1Letter_eq]
      simp only [Option.bind_some, Bool.true_and]
      rw [show ((0 : Nat) : Int) = 0 from rfl] at hl
      rw [hl]
      obtain ⟨n, hn⟩ : ∃ n, s.size = n + 1 := ⟨s.size - 1, by omega⟩
      by_cases h3 : isLet (bt s 0) = true
      · rw [h3, isLet_dig h3]
        simp
      · have h3' : isLet (bt s 0) = false := by simpa using h3
        rw [h3', hn]
        simp only [Bool.not_false, if_true, allB]
        rw [show bt s ((0 : Nat) : Int) = bt s 0 from rfl]
        unfold isNam
        rw [h3']
        cases inR (bt s 0) 48 57 <;> simp

theorem impl_NameOk_l0 (s : ByteArray) (hs : s.size ≤ 140737488351232) : ∀ (n k i : Nat), i + n = s.size → n < k → impl_NameOk.l0 k s (s.size : Int) (i : Int) = some (allB isNam s n i) := by
  intro n
  induction n with
  | zero =>
    intro k i hi hk
    obtain ⟨k, rfl⟩ : ∃ m, k = m + 1 := ⟨k - 1, by omega⟩
    simp only [impl_NameOk.l0]
    rw [if_neg (by omega)]
    rfl
  | succ n ih =>
    intro k i hi hk
    obtain ⟨k, rfl⟩ : ∃ m, k = m + 1 := ⟨k - 1, by omega⟩
    have hn := ih k (i + 1) (by omega) (by omega)
    have hw : wrap64 ((i : Int) + 1) = ((i + 1 : Nat) : Int) := by rw [w64 (by omega) (by omega)]; omega
    simp only [impl_NameOk.l0]
    rw [if_pos (by omega), if_pos (by omega), if_pos (by omega), impl_isSmall_eq, impl_isDigit_eq, hw, hn]
    simp only [Option.bind_some, allB, isNam, isLet]
    by_cases h1 : inR (bt s i) 97 122 = true
    · simp [h1]
    · by_cases h2 : inR (bt s i) 48 57 = true
      · simp [h1, h2]
      · by_cases h3 : bt s i = 95
        · simp [h1, h2, h3]
        · by_cases h4 : bt s i = 46
          · simp [h1, h2, h3, h4]
          · simp [h1, h2, h3, h4]
theorem impl_NameOk_eq (s : ByteArray) (hs : s.size ≤ 140737488351232) (k : Nat) : impl_NameOk.f (k + s.size + 3) s = some (nameOk s) := by
  unfold impl_NameOk.f nameOk
  have hl := impl_NameOk_l0 s hs s.size (k + s.size + 2) 0 (by omega) (by omega)
  simp only [impl_NameOk.j0, impl_within_eq, Option.bind_some]
  by_cases h1 : 1 ≤ (s.size : Int) ∧ (s.size : Int) ≤ 16
  · rw [inR_pos h1.1 h1.2, if_pos rfl, if_pos (by omega), impl_isDigit_eq]
    simp only [Option.bind_some, Bool.true_and]
    rw [show ((0 : Nat) : Int) = 0 from rfl] at hl
    rw [hl]
    cases inR (bt s 0) 48 57 <;> simp
  · rw [inR_neg h1]
    rfl

theorem FnExactNameOk : laws_FnExactNameOk.Pure := by
  intro s hs
  refine ⟨0 + s.size + 3, ?_⟩
  unfold laws_FnExactNameOk.f
  by_cases h : (s.size : Int) > 1048576
  · rw [if_pos h]
  · rw [if_neg h, spec_NameOk_eq s hs, impl_NameOk_eq s hs]
    simp

end Go.Proofs.Ytnijfhdmjbioaaa.Pure
