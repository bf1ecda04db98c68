/-
The law FnExactCartRead, told as a plain function of the argument's parts, answers true for every input.
-/
import Derived.Test.YtnchhhafdkpmaaaPFnExactCartReadx4
import Derived.Test.YtnchhhafdkpmaaaAidA
import Derived.Test.YtnchhhafdkpmaaaAidB
import Derived.Test.YtnchhhafdkpmaaaAidR
namespace Go.Proofs.Ytnchhhafdkpmaaa.Pure
open Go.RowKit Go.Proofs.Ytnchhhafdkpmaaa.Aid Go.Proofs.Ytnchhhafdkpmaaa.PFnExactCartRead Go.Proofs.YtnchhhafdkpmaaaW.PrintWords Go.Proofs.YtnchhhafdkpmaaaW.PrintLast Go.Proofs.YtnchhhafdkpmaaaW.PrintMore
set_option linter.unusedVariables false
set_option linter.unusedSimpArgs false

theorem spec_l1In_eq (a b c : Int) : spec_l1In.f a b c = some (inR a b c) := by
  unfold spec_l1In.f inR
  by_cases h : a ≥ b
  · rw [if_pos h, decide_eq_true (show b ≤ a from h)]
    rfl
  · rw [if_neg h, decide_eq_false (show ¬ b ≤ a from h)]
    rfl

theorem impl_within_eq (a b c : Int) : impl_within.f a b c = some (inR a b c) := by
  unfold impl_within.f inR
  by_cases h : a ≥ b
  · rw [if_pos h, decide_eq_true (show b ≤ a from h)]
    rfl
  · rw [if_neg h, decide_eq_false (show ¬ b ≤ a from h)]
    rfl

theorem impl_isByte_eq (a : Int) : impl_isByte.f a = some (inR a 0 255) := by
  unfold impl_isByte.f
  rw [impl_within_eq]
  rfl

theorem impl_isWord_eq (a : Int) : impl_isWord.f a = some (inR a 0 65535) := by
  unfold impl_isWord.f
  rw [impl_within_eq]
  rfl

theorem spec_l4Word_eq (a : Int) : spec_l4Word.f a = some (inR a 0 65535) := by
  unfold spec_l4Word.f
  rw [spec_l1In_eq]
  rfl

theorem laws_szCart_some (rom : ByteArray) (kind bank : Int) (ram : ByteArray) (rb : Int) (on : Bool) (mode left : Int) : ∃ t, laws_szCart.f rom kind bank ram rb on mode left = some t := by
  unfold laws_szCart.f
  split
  · exact ⟨_, rfl⟩
  · split <;> exact ⟨_, rfl⟩

theorem spec_l5Banks_eq {rom : ByteArray} (hs : rom.size ≤ maxLen) : spec_l5Banks.f rom = some (if romOk rom = true then (rom.size : Int) / 256 else 0) := by
  unfold maxLen at hs
  unfold spec_l5Banks.f romOk
  rw [spec_l1In_eq, w64 (by omega) (by omega)]
  by_cases h1 : (rom.size : Int) % 256 = 0
  · rw [if_pos h1, decide_eq_true h1]
    cases inR ((rom.size : Int) / 256) 2 16 <;> rfl
  · rw [if_neg h1, decide_eq_false h1]
    rfl

theorem spec_CartOk_eq (k : Nat) {rom : ByteArray} (hs : rom.size ≤ maxLen) (kind bank : Int) (ram : ByteArray) (rb : Int) (on : Bool) (mode : Int) : spec_CartOk.f (k + 1) rom kind bank ram rb on mode = some (cartOk rom kind bank ram rb on mode) := by
  unfold spec_CartOk.f cartOk
  rw [spec_l5Banks_eq hs]
  simp only [Option.bind_some, spec_CartOk.j0, spec_l1In_eq]
  by_cases h1 : romOk rom = true
  · have h2 := romOk_iff.1 h1
    rw [if_pos h1, h1, if_neg (by omega)]
    by_cases h3 : (ram.size : Int) = 256
    · by_cases k0 : kind = 0
      · by_cases b1 : bank = 1
        · by_cases b2 : rb = 0
          · cases on <;> simp [h3, k0, b1, b2]
          · simp [h3, k0, b1, b2]
        · simp [h3, k0, b1]
      · by_cases k1 : kind = 1
        · cases inR bank 1 31 <;> cases inR rb 0 3 <;> simp [h3, k0, k1]
        · by_cases k2 : kind = 2
          · cases inR bank 0 255 <;> cases inR rb 0 3 <;> simp [h3, k0, k1, k2]
          · simp [h3, k0, k1, k2]
    · simp [h3]
  · simp [h1]

theorem impl_CartOk_eq (k : Nat) {rom : ByteArray} (hs : rom.size ≤ maxLen) (kind bank : Int) (ram : ByteArray) (rb : Int) (on : Bool) (mode : Int) : impl_CartOk.f (k + 1) rom kind bank ram rb on mode = some (cartOk rom kind bank ram rb on mode) := by
  unfold maxLen at hs
  unfold impl_CartOk.f cartOk romOk
  rw [w64 (by omega) (by omega)]
  simp only [Option.bind_some, impl_CartOk.j0, impl_within_eq, impl_isByte_eq]
  by_cases h0 : (rom.size : Int) % 256 = 0
  · by_cases h1 : inR ((rom.size : Int) / 256) 2 16 = true
    · rw [if_pos h0, h1]
      by_cases h3 : (ram.size : Int) = 256
      · by_cases k0 : kind = 0
        · by_cases b1 : bank = 1
          · by_cases b2 : rb = 0
            · by_cases b3 : mode = 0
              · cases on <;> simp [h0, h3, k0, b1, b2, b3]
              · cases on <;> simp [h0, h3, k0, b1, b2, b3]
            · simp [h0, h3, k0, b1, b2]
          · simp [h0, h3, k0, b1]
        · by_cases k1 : kind = 1
          · cases inR bank 1 31 <;> cases inR rb 0 3 <;> simp [h0, h3, k0, k1]
          · by_cases k2 : kind = 2
            · cases inR bank 0 255 <;> cases inR rb 0 3 <;> simp [h0, h3, k0, k1, k2]
            · simp [h0, h3, k0, k1, k2]
      · simp [h0, h3]
    · simp [h0, h1]
  · simp [h0]

theorem impl_Cart_mapped_eq {rom : ByteArray} {kind bank : Int} {ram : ByteArray} {rb : Int} {on : Bool} {mode : Int} (h : cartOk rom kind bank ram rb on mode = true) : impl_Cart_mapped.f rom kind bank ram rb on mode = some (mappedOf rom bank) := by
  obtain ⟨⟨h1, h2, h3⟩, h4, h5, h6, h7⟩ := cartOk_facts h
  unfold impl_Cart_mapped.f mappedOf
  rw [w64 (by omega) (by omega), if_neg (by omega), Int.tmod_eq_emod_of_nonneg (by omega)]

theorem spec_l5RamBank_eq (rom : ByteArray) (kind bank : Int) (ram : ByteArray) (rb : Int) (on : Bool) (mode : Int) : spec_l5RamBank.f rom kind bank ram rb on mode = some (ramBank kind rb mode) := by
  unfold spec_l5RamBank.f ramBank
  split
  · split <;> rfl
  · rfl

theorem spec_l5Read_eq {rom : ByteArray} {kind bank : Int} {ram : ByteArray} {rb : Int} {on : Bool} {mode : Int} (h : cartOk rom kind bank ram rb on mode = true) {addr : Int} (ha : 0 ≤ addr ∧ addr ≤ 65535) : spec_l5Read.f rom kind bank ram rb on mode addr = some (cartRead rom kind bank ram rb on mode addr) := by
  obtain ⟨h1, h4, h5, h6, h7⟩ := cartOk_facts h
  have hr := romOk_iff.2 h1
  obtain ⟨m0, m1⟩ := mappedOf_in (bank := bank) h1.2.1
  obtain ⟨r0, r1⟩ := ramBank_in (kind := kind) (mode := mode) h6.1 h6.2
  unfold spec_l5Read.f cartRead
  have hs : rom.size ≤ maxLen := by unfold maxLen; omega
  simp only [spec_l1In_eq, spec_l5Banks_eq hs, hr, if_true, Option.bind_some, spec_l5RamBank_eq, wbt]
  by_cases c1 : addr < 256
  · rw [inR_pos ha.1 (by omega), if_pos rfl, if_pos ha.1, if_pos (by omega), if_pos c1]
  · rw [inR_neg (by omega), if_neg (by simp), if_neg c1]
    by_cases c2 : addr < 512
    · rw [inR_pos (by omega) (by omega), if_pos rfl, if_neg (by omega), if_pos c2, Int.tmod_eq_emod_of_nonneg h5.1]
      rw [show bank % ((rom.size : Int) / 256) = mappedOf rom bank from rfl]
      generalize mappedOf rom bank = m at m0 m1 ⊢
      rw [w64 (n := m * 256) (by omega) (by omega), w64 (n := m * 256 + addr) (by omega) (by omega), w64 (n := m * 256 + addr - 256) (by omega) (by omega), if_pos (by omega), if_pos (by omega)]
    · rw [inR_neg (by omega), if_neg (by simp), if_neg c2]
      cases on with
      | false => simp
      | true =>
        by_cases c3 : 40960 ≤ addr ∧ addr ≤ 41023
        · simp only [inR_pos c3.1 c3.2, if_true, Bool.and_self]
          generalize ramBank kind rb mode = m at r0 r1 ⊢
          rw [w64 (n := m * 64) (by omega) (by omega), w64 (n := m * 64 + addr) (by omega) (by omega), w64 (n := m * 64 + addr - 40960) (by omega) (by omega), if_pos (by omega), if_pos (by omega)]
        · rw [inR_neg c3]
          simp

theorem impl_Cart_ramPlace_eq (k : Nat) {rom : ByteArray} {kind bank : Int} {ram : ByteArray} {rb : Int} {on : Bool} {mode : Int} (h : cartOk rom kind bank ram rb on mode = true) {addr : Int} (ha : 0 ≤ addr ∧ addr ≤ 65535) :
    impl_Cart_ramPlace.f (k + 1) rom kind bank ram rb on mode addr = some (if (on && inR addr 40960 41023) = true then ramBank kind rb mode * 64 + addr - 40960 else -1) := by
  obtain ⟨h1, h4, h5, h6, h7⟩ := cartOk_facts h
  unfold impl_Cart_ramPlace.f ramBank
  simp only [impl_within_eq, Option.bind_some, impl_Cart_ramPlace.j0]
  cases on with
  | false => simp
  | true =>
    by_cases c3 : 40960 ≤ addr ∧ addr ≤ 41023
    · rw [inR_pos c3.1 c3.2]
      rw [w64 (n := rb * 64) (by omega) (by omega), w64 (n := 0 * 64 + addr) (by omega) (by omega), w64 (n := rb * 64 + addr) (by omega) (by omega), w64 (n := rb * 64 + addr - 40960) (by omega) (by omega), w64 (n := 0 * 64 + addr - 40960) (by omega) (by omega)]
      by_cases k1 : kind = 1
      · by_cases k2 : mode = 0
        · simp [k1, k2]
        · simp [k1, k2]
      · simp [k1]
    · rw [inR_neg c3]
      simp

theorem impl_Cart_read_eq (k : Nat) {rom : ByteArray} {kind bank : Int} {ram : ByteArray} {rb : Int} {on : Bool} {mode : Int} (h : cartOk rom kind bank ram rb on mode = true) {addr : Int} (ha : 0 ≤ addr ∧ addr ≤ 65535) : impl_Cart_read.f (k + 1) rom kind bank ram rb on mode addr = some (cartRead rom kind bank ram rb on mode addr) := by
  obtain ⟨h1, h4, h5, h6, h7⟩ := cartOk_facts h
  obtain ⟨m0, m1⟩ := mappedOf_in (bank := bank) h1.2.1
  obtain ⟨r0, r1⟩ := ramBank_in (kind := kind) (mode := mode) h6.1 h6.2
  unfold impl_Cart_read.f cartRead
  simp only [impl_Cart_ramPlace_eq k h ha, impl_Cart_mapped_eq h, Option.bind_some, wbt]
  by_cases c1 : addr < 256
  · rw [if_pos c1, if_pos ha.1, if_pos (by omega), if_pos c1]
  · rw [if_neg c1, if_neg c1]
    by_cases c2 : addr < 512
    · rw [if_pos c2, if_pos c2]
      generalize mappedOf rom bank = m at m0 m1 ⊢
      rw [w64 (n := m * 256) (by omega) (by omega), w64 (n := m * 256 + addr) (by omega) (by omega), w64 (n := m * 256 + addr - 256) (by omega) (by omega), if_pos (by omega), if_pos (by omega)]
    · rw [if_neg c2, if_neg c2]
      by_cases c3 : (on && inR addr 40960 41023) = true
      · rw [if_pos c3, if_pos c3]
        have c4 : 40960 ≤ addr ∧ addr ≤ 41023 := by
          simp [inR] at c3
          omega
        generalize ramBank kind rb mode = m at r0 r1 ⊢
        rw [if_pos (by omega), if_pos (by omega), if_pos (by omega)]
      · rw [if_neg c3, if_neg c3, if_neg (by omega)]

theorem spec_CartRead_eq (k : Nat) {rom : ByteArray} (hs : rom.size ≤ maxLen) (kind bank : Int) (ram : ByteArray) (rb : Int) (on : Bool) (mode addr : Int) :
    spec_CartRead.f (k + 1) rom kind bank ram rb on mode addr = some (if (cartOk rom kind bank ram rb on mode && inR addr 0 65535) = true then cartRead rom kind bank ram rb on mode addr else -1) := by
  unfold spec_CartRead.f
  rw [spec_CartOk_eq k hs, spec_l4Word_eq]
  by_cases h : cartOk rom kind bank ram rb on mode = true
  · by_cases ha : inR addr 0 65535 = true
    · simp only [h, ha, Option.bind_some, if_true, spec_l5Read_eq h (inR_iff.1 ha), Bool.and_self]
    · simp [h, ha]
  · simp [h]

theorem impl_CartRead_eq (k : Nat) {rom : ByteArray} (hs : rom.size ≤ maxLen) (kind bank : Int) (ram : ByteArray) (rb : Int) (on : Bool) (mode addr : Int) :
    impl_CartRead.f (k + 1) rom kind bank ram rb on mode addr = some (if (cartOk rom kind bank ram rb on mode && inR addr 0 65535) = true then cartRead rom kind bank ram rb on mode addr else -1) := by
  unfold impl_CartRead.f
  rw [impl_CartOk_eq k hs, impl_isWord_eq]
  by_cases h : cartOk rom kind bank ram rb on mode = true
  · by_cases ha : inR addr 0 65535 = true
    · simp only [h, ha, Option.bind_some, if_true, impl_Cart_read_eq k h (inR_iff.1 ha), Bool.and_self]
    · simp [h, ha]
  · simp [h]

theorem FnExactCartRead (rom : ByteArray) (kind bank : Int) (ram : ByteArray) (rb : Int) (on : Bool) (mode addr : Int) (hs : rom.size ≤ maxLen) (_ : (Lit.int .i64 kind).wf = true) (_ : (Lit.int .i64 bank).wf = true) (_ : ram.size ≤ maxLen) (_ : (Lit.int .i64 rb).wf = true)
    (_ : (Lit.int .i64 mode).wf = true) (_ : (Lit.int .i64 addr).wf = true) : ∃ k, laws_FnExactCartRead.f k rom kind bank ram rb on mode addr = some true := by
  refine ⟨0 + 1, ?_⟩
  unfold laws_FnExactCartRead.f laws_toCart.f
  obtain ⟨t, ht⟩ := laws_szCart_some rom kind bank ram rb on mode 1048576
  rw [ht]
  simp only [Option.bind_some, spec_CartRead_eq 0 hs, impl_CartRead_eq 0 hs]
  split <;> simp

end Go.Proofs.Ytnchhhafdkpmaaa.Pure
