/-
The law FnExactCartOk, told as a plain function of the argument's parts, answers true for every input.
-/
import Derived.Test.YtnijfhdmjbioaaaPFnExactCartOkx2
import Derived.Test.YtnijfhdmjbioaaaAidA
import Derived.Test.YtnijfhdmjbioaaaAidB
import Derived.Test.YtnijfhdmjbioaaaAidR
namespace Go.Proofs.Ytnijfhdmjbioaaa.Pure
open Go.RowKit Go.Proofs.Ytnijfhdmjbioaaa.Aid Go.Proofs.Ytnijfhdmjbioaaa.PFnExactCartOk Go.Proofs.YtnijfhdmjbioaaaW.PrintWords Go.Proofs.YtnijfhdmjbioaaaW.PrintLast Go.Proofs.YtnijfhdmjbioaaaW.PrintMore
set_option linter.unusedVariables false
set_option linter.unusedSimpArgs false

theorem spec_l1In_eq (a b c : Int) : spec_l1In.f a b c = some (inR a b c) := by
  unfold spec_l1In.f inR
  by_cases h : a ≥ b
  · rw [if_pos h, decide_eq_true (show b ≤ a from h)]
    rfl
  · rw [if_neg h, decide_eq_false (show ¬ b ≤ a from h)]
    rfl

theorem impl_within_eq (a b c : Int) : impl_within.f a b c = some (inR a b c) := by
  unfold impl_within.f inR
  by_cases h : a ≥ b
  · rw [if_pos h, decide_eq_true (show b ≤ a from h)]
    rfl
  · rw [if_neg h, decide_eq_false (show ¬ b ≤ a from h)]
    rfl

theorem impl_isByte_eq (a : Int) : impl_isByte.f a = some (inR a 0 255) := by
  unfold impl_isByte.f
  rw [impl_within_eq]
  rfl

theorem laws_szCart_some (rom : ByteArray) (kind bank : Int) (ram : ByteArray) (rb : Int) (on : Bool) (mode left : Int) : ∃ t, laws_szCart.f rom kind bank ram rb on mode left = some t := by
  unfold laws_szCart.f
  split
  · exact ⟨_, rfl⟩
  · split <;> exact ⟨_, rfl⟩

theorem spec_l5Banks_eq {rom : ByteArray} (hs : rom.size ≤ maxLen) : spec_l5Banks.f rom = some (if romOk rom = true then (rom.size : Int) / 256 else 0) := by
  unfold maxLen at hs
  unfold spec_l5Banks.f romOk
  rw [spec_l1In_eq, w64 (by omega) (by omega)]
  by_cases h1 : (rom.size : Int) % 256 = 0
  · rw [if_pos h1, decide_eq_true h1]
    cases inR ((rom.size : Int) / 256) 2 16 <;> rfl
  · rw [if_neg h1, decide_eq_false h1]
    rfl

theorem spec_CartOk_eq (k : Nat) {rom : ByteArray} (hs : rom.size ≤ maxLen) (kind bank : Int) (ram : ByteArray) (rb : Int) (on : Bool) (mode : Int) : spec_CartOk.f (k + 1) rom kind bank ram rb on mode = some (cartOk rom kind bank ram rb on mode) := by
  unfold spec_CartOk.f cartOk
  rw [spec_l5Banks_eq hs]
  simp only [Option.bind_some, spec_CartOk.j0, spec_l1In_eq]
  by_cases h1 : romOk rom = true
  · have h2 := romOk_iff.1 h1
    rw [if_pos h1, h1, if_neg (by omega)]
    by_cases h3 : (ram.size : Int) = 256
    · by_cases k0 : kind = 0
      · by_cases b1 : bank = 1
        · by_cases b2 : rb = 0
          · cases on <;> simp [h3, k0, b1, b2]
          · simp [h3, k0, b1, b2]
        · simp [h3, k0, b1]
      · by_cases k1 : kind = 1
        · cases inR bank 1 31 <;> cases inR rb 0 3 <;> simp [h3, k0, k1]
        · by_cases k2 : kind = 2
          · cases inR bank 0 255 <;> cases inR rb 0 3 <;> simp [h3, k0, k1, k2]
          · simp [h3, k0, k1, k2]
    · simp [h3]
  · simp [h1]

theorem impl_CartOk_eq (k : Nat) {rom : ByteArray} (hs : rom.size ≤ maxLen) (kind bank : Int) (ram : ByteArray) (rb : Int) (on : Bool) (mode : Int) : impl_CartOk.f (k + 1) rom kind bank ram rb on mode = some (cartOk rom kind bank ram rb on mode) := by
  unfold maxLen at hs
  unfold impl_CartOk.f cartOk romOk
  rw [w64 (by omega) (by omega)]
  simp only [Option.bind_some, impl_CartOk.j0, impl_within_eq, impl_isByte_eq]
  by_cases h0 : (rom.size : Int) % 256 = 0
  · by_cases h1 : inR ((rom.size : Int) / 256) 2 16 = true
    · rw [if_pos h0, h1]
      by_cases h3 : (ram.size : Int) = 256
      · by_cases k0 : kind = 0
        · by_cases b1 : bank = 1
          · by_cases b2 : rb = 0
            · by_cases b3 : mode = 0
              · cases on <;> simp [h0, h3, k0, b1, b2, b3]
              · cases on <;> simp [h0, h3, k0, b1, b2, b3]
            · simp [h0, h3, k0, b1, b2]
          · simp [h0, h3, k0, b1]
        · by_cases k1 : kind = 1
          · cases inR bank 1 31 <;> cases inR rb 0 3 <;> simp [h0, h3, k0, k1]
          · by_cases k2 : kind = 2
            · cases inR bank 0 255 <;> cases inR rb 0 3 <;> simp [h0, h3, k0, k1, k2]
            · simp [h0, h3, k0, k1, k2]
      · simp [h0, h3]
    · simp [h0, h1]
  · simp [h0]

theorem FnExactCartOk (rom : ByteArray) (kind bank : Int) (ram : ByteArray) (rb : Int) (on : Bool) (mode : Int) (hs : rom.size ≤ maxLen) (_ : (Lit.int .i64 kind).wf = true) (_ : (Lit.int .i64 bank).wf = true) (_ : ram.size ≤ maxLen) (_ : (Lit.int .i64 rb).wf = true)
    (_ : (Lit.int .i64 mode).wf = true) : ∃ k, laws_FnExactCartOk.f k rom kind bank ram rb on mode = some true := by
  refine ⟨0 + 1, ?_⟩
  unfold laws_FnExactCartOk.f laws_toCart.f
  obtain ⟨t, ht⟩ := laws_szCart_some rom kind bank ram rb on mode 1048576
  rw [ht]
  simp only [Option.bind_some, spec_CartOk_eq 0 hs, impl_CartOk_eq 0 hs]
  split <;> simp

end Go.Proofs.Ytnijfhdmjbioaaa.Pure
