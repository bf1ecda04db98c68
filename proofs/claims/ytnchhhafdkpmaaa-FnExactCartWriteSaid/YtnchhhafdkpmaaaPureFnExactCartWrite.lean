/-
The law FnExactCartWrite, told as a plain function of the arguments' parts, answers true for every input.
-/
import Derived.Test.YtnchhhafdkpmaaaPFnExactCartWritex6
import Derived.Test.YtnchhhafdkpmaaaAidA
import Derived.Test.YtnchhhafdkpmaaaAidB
namespace Go.Proofs.Ytnchhhafdkpmaaa.Pure
open Go.RowKit Go.Proofs.Ytnchhhafdkpmaaa.Aid Go.Proofs.Ytnchhhafdkpmaaa.PFnExactCartWrite Go.Proofs.YtnchhhafdkpmaaaW.PrintWords Go.Proofs.YtnchhhafdkpmaaaW.PrintLast Go.Proofs.YtnchhhafdkpmaaaW.PrintMore
set_option linter.unusedVariables false
set_option linter.unusedSimpArgs false

theorem spec_l1In_eq (a b c : Int) : spec_l1In.f a b c = some (inR a b c) := by
  unfold spec_l1In.f inR
  by_cases h : a ≥ b
  · rw [if_pos h, decide_eq_true (show b ≤ a from h)]
    rfl
  · rw [if_neg h, decide_eq_false (show ¬ b ≤ a from h)]
    rfl

theorem impl_within_eq (a b c : Int) : impl_within.f a b c = some (inR a b c) := by
  unfold impl_within.f inR
  by_cases h : a ≥ b
  · rw [if_pos h, decide_eq_true (show b ≤ a from h)]
    rfl
  · rw [if_neg h, decide_eq_false (show ¬ b ≤ a from h)]
    rfl

theorem impl_isByte_eq (a : Int) : impl_isByte.f a = some (inR a 0 255) := by
  unfold impl_isByte.f
  rw [impl_within_eq]
  rfl

theorem impl_isWord_eq (a : Int) : impl_isWord.f a = some (inR a 0 65535) := by
  unfold impl_isWord.f
  rw [impl_within_eq]
  rfl

theorem spec_l4Byte_eq (a : Int) : spec_l4Byte.f a = some (inR a 0 255) := by
  unfold spec_l4Byte.f
  rw [spec_l1In_eq]
  rfl

theorem spec_l4Word_eq (a : Int) : spec_l4Word.f a = some (inR a 0 65535) := by
  unfold spec_l4Word.f
  rw [spec_l1In_eq]
  rfl

theorem laws_szCart_some (rom : ByteArray) (kind bank : Int) (ram : ByteArray) (rb : Int) (on : Bool) (mode left : Int) : ∃ t, laws_szCart.f rom kind bank ram rb on mode left = some t := by
  unfold laws_szCart.f
  split
  · exact ⟨_, rfl⟩
  · split <;> exact ⟨_, rfl⟩

theorem spec_l5Banks_eq {rom : ByteArray} (hs : rom.size ≤ maxLen) : spec_l5Banks.f rom = some (if romOk rom = true then (rom.size : Int) / 256 else 0) := by
  unfold maxLen at hs
  unfold spec_l5Banks.f romOk
  rw [spec_l1In_eq, w64 (by omega) (by omega)]
  by_cases h1 : (rom.size : Int) % 256 = 0
  · rw [if_pos h1, decide_eq_true h1]
    cases inR ((rom.size : Int) / 256) 2 16 <;> rfl
  · rw [if_neg h1, decide_eq_false h1]
    rfl

theorem spec_CartOk_eq (k : Nat) {rom : ByteArray} (hs : rom.size ≤ maxLen) (kind bank : Int) (ram : ByteArray) (rb : Int) (on : Bool) (mode : Int) : spec_CartOk.f (k + 1) rom kind bank ram rb on mode = some (cartOk rom kind bank ram rb on mode) := by
  unfold spec_CartOk.f cartOk
  rw [spec_l5Banks_eq hs]
  simp only [Option.bind_some, spec_CartOk.j0, spec_l1In_eq]
  by_cases h1 : romOk rom = true
  · have h2 := romOk_iff.1 h1
    rw [if_pos h1, h1, if_neg (by omega)]
    by_cases h3 : (ram.size : Int) = 256
    · by_cases k0 : kind = 0
      · by_cases b1 : bank = 1
        · by_cases b2 : rb = 0
          · cases on <;> simp [h3, k0, b1, b2]
          · simp [h3, k0, b1, b2]
        · simp [h3, k0, b1]
      · by_cases k1 : kind = 1
        · cases inR bank 1 31 <;> cases inR rb 0 3 <;> simp [h3, k0, k1]
        · by_cases k2 : kind = 2
          · cases inR bank 0 255 <;> cases inR rb 0 3 <;> simp [h3, k0, k1, k2]
          · simp [h3, k0, k1, k2]
    · simp [h3]
  · simp [h1]

theorem impl_CartOk_eq (k : Nat) {rom : ByteArray} (hs : rom.size ≤ maxLen) (kind bank : Int) (ram : ByteArray) (rb : Int) (on : Bool) (mode : Int) : impl_CartOk.f (k + 1) rom kind bank ram rb on mode = some (cartOk rom kind bank ram rb on mode) := by
  unfold maxLen at hs
  unfold impl_CartOk.f cartOk romOk
  rw [w64 (by omega) (by omega)]
  simp only [Option.bind_some, impl_CartOk.j0, impl_within_eq, impl_isByte_eq]
  by_cases h0 : (rom.size : Int) % 256 = 0
  · by_cases h1 : inR ((rom.size : Int) / 256) 2 16 = true
    · rw [if_pos h0, h1]
      by_cases h3 : (ram.size : Int) = 256
      · by_cases k0 : kind = 0
        · by_cases b1 : bank = 1
          · by_cases b2 : rb = 0
            · by_cases b3 : mode = 0
              · cases on <;> simp [h0, h3, k0, b1, b2, b3]
              · cases on <;> simp [h0, h3, k0, b1, b2, b3]
            · simp [h0, h3, k0, b1, b2]
          · simp [h0, h3, k0, b1]
        · by_cases k1 : kind = 1
          · cases inR bank 1 31 <;> cases inR rb 0 3 <;> simp [h0, h3, k0, k1]
          · by_cases k2 : kind = 2
            · cases inR bank 0 255 <;> cases inR rb 0 3 <;> simp [h0, h3, k0, k1, k2]
            · simp [h0, h3, k0, k1, k2]
      · simp [h0, h3]
    · simp [h0, h1]
  · simp [h0]

theorem spec_l5RamBank_eq (rom : ByteArray) (kind bank : Int) (ram : ByteArray) (rb : Int) (on : Bool) (mode : Int) : spec_l5RamBank.f rom kind bank ram rb on mode = some (ramBank kind rb mode) := by
  unfold spec_l5RamBank.f ramBank
  split
  · split <;> rfl
  · rfl

theorem impl_Cart_ramPlace_eq (k : Nat) {rom : ByteArray} {kind bank : Int} {ram : ByteArray} {rb : Int} {on : Bool} {mode : Int} (h : cartOk rom kind bank ram rb on mode = true) {addr : Int} (ha : 0 ≤ addr ∧ addr ≤ 65535) :
    impl_Cart_ramPlace.f (k + 1) rom kind bank ram rb on mode addr = some (if (on && inR addr 40960 41023) = true then ramBank kind rb mode * 64 + addr - 40960 else -1) := by
  obtain ⟨h1, h4, h5, h6, h7⟩ := cartOk_facts h
  unfold impl_Cart_ramPlace.f ramBank
  simp only [impl_within_eq, Option.bind_some, impl_Cart_ramPlace.j0]
  cases on with
  | false => simp
  | true =>
    by_cases c3 : 40960 ≤ addr ∧ addr ≤ 41023
    · rw [inR_pos c3.1 c3.2]
      rw [w64 (n := rb * 64) (by omega) (by omega), w64 (n := 0 * 64 + addr) (by omega) (by omega), w64 (n := rb * 64 + addr) (by omega) (by omega), w64 (n := rb * 64 + addr - 40960) (by omega) (by omega), w64 (n := 0 * 64 + addr - 40960) (by omega) (by omega)]
      by_cases k1 : kind = 1
      · by_cases k2 : mode = 0
        · simp [k1, k2]
        · simp [k1, k2]
      · simp [k1]
    · rw [inR_neg c3]
      simp

theorem laws_eqCart_same (rom : ByteArray) (kind bank : Int) (ram : ByteArray) (rb : Int) (on : Bool) (mode : Int) : laws_eqCart.f rom kind bank ram rb on mode rom kind bank ram rb on mode = some true := by
  unfold laws_eqCart.f
  simp

theorem spec_l5Write_eq {k : Nat} (hk : 3 ≤ k) {rom : ByteArray} {kind bank : Int} {ram : ByteArray} {rb : Int} {on : Bool} {mode : Int} (h : cartOk rom kind bank ram rb on mode = true) {addr v : Int} (ha : 0 ≤ addr ∧ addr ≤ 65535) (hv : 0 ≤ v ∧ v ≤ 255) :
    spec_l5Write.f k rom kind bank ram rb on mode addr v = some (cartWrite rom kind bank ram rb on mode addr v) := by
  obtain ⟨k, rfl⟩ : ∃ m, k = m + 3 := ⟨k - 3, by omega⟩
  obtain ⟨h1, h4, h5, h6, h7⟩ := cartOk_facts h
  obtain ⟨r0, r1⟩ := ramBank_in (kind := kind) (mode := mode) h6.1 h6.2
  unfold spec_l5Write.f cartWrite
  simp only [spec_l5Write.j0, spec_l5Write.j1, spec_l1In_eq, Option.bind_some, spec_l5RamBank_eq, Int.tmod_eq_emod_of_nonneg hv.1]
  by_cases k0 : kind = 0
  · rw [if_pos k0, if_pos k0]
  · rw [if_neg k0, if_neg k0]
    by_cases c1 : addr < 128
    · rw [if_pos c1, if_pos c1]
    · rw [if_neg c1, if_neg c1]
      by_cases c2 : addr < 256
      · by_cases k2 : kind = 2
        · simp [c2, k2]
        · simp [c2, k2]
      · by_cases c3 : addr < 384
        · simp [c2, c3]
        · by_cases c4 : addr < 512
          · by_cases k1 : kind = 1
            · simp [c2, c3, c4, k1]
            · simp [c2, c3, c4, k1]
          · cases on with
            | false => simp [c2, c3, c4]
            | true =>
              by_cases c5 : 40960 ≤ addr ∧ addr ≤ 41023
              · rw [inR_pos c5.1 c5.2]
                unfold spec_l5Put.f
                generalize ramBank kind rb mode = m at r0 r1 ⊢
                rw [w64 (n := m * 64) (by omega) (by omega), w64 (n := m * 64 + addr) (by omega) (by omega), w64 (n := m * 64 + addr - 40960) (by omega) (by omega), if_pos (by omega : 0 ≤ m * 64 + addr - 40960), if_pos (by omega : m * 64 + addr - 40960 < (ram.size : Int))]
                simp [c2, c3, c4, setB]
              · rw [inR_neg c5]
                simp [c2, c3, c4]

theorem impl_Cart_written_eq {k : Nat} (hk : 3 ≤ k) {rom : ByteArray} {kind bank : Int} {ram : ByteArray} {rb : Int} {on : Bool} {mode : Int} (h : cartOk rom kind bank ram rb on mode = true) {addr v : Int} (ha : 0 ≤ addr ∧ addr ≤ 65535) (hv : 0 ≤ v ∧ v ≤ 255) :
    impl_Cart_written.f k rom kind bank ram rb on mode addr v = some (cartWrite rom kind bank ram rb on mode addr v) := by
  obtain ⟨k, rfl⟩ : ∃ m, k = m + 3 := ⟨k - 3, by omega⟩
  obtain ⟨h1, h4, h5, h6, h7⟩ := cartOk_facts h
  obtain ⟨r0, r1⟩ := ramBank_in (kind := kind) (mode := mode) h6.1 h6.2
  unfold impl_Cart_written.f cartWrite
  rw [impl_Cart_ramPlace_eq (k + 2) h ha]
  simp only [impl_Cart_written.j0, impl_Cart_written.j1, Option.bind_some, Int.tmod_eq_emod_of_nonneg hv.1, and15']
  by_cases k0 : kind = 0
  · rw [if_pos k0, if_pos k0]
  · rw [if_neg k0, if_neg k0]
    by_cases c1 : addr < 128
    · rw [if_pos c1, if_pos c1]
    · rw [if_neg c1, if_neg c1]
      by_cases c2 : addr < 256
      · by_cases k2 : kind = 2
        · simp [c2, k2]
        · simp [c2, k2]
      · by_cases c3 : addr < 384
        · simp [c2, c3]
        · by_cases c4 : addr < 512
          · have c5 : inR addr 40960 41023 = false := inR_neg (by omega)
            by_cases k1 : kind = 1
            · simp [c2, c3, c4, k1]
            · simp [c2, c3, c4, k1, c5]
          · cases on with
            | false => simp [c2, c3, c4]
            | true =>
              by_cases c5 : 40960 ≤ addr ∧ addr ≤ 41023
              · rw [inR_pos c5.1 c5.2]
                simp only [Bool.and_self, if_true]
                unfold impl_replaced.f
                generalize ramBank kind rb mode = m at r0 r1 ⊢
                rw [if_pos (by omega : 0 ≤ m * 64 + addr - 40960), if_pos (by omega : m * 64 + addr - 40960 < (ram.size : Int)), if_pos (by omega : m * 64 + addr - 40960 ≥ 0)]
                simp [c2, c3, c4, setB]
              · rw [inR_neg c5]
                simp [c2, c3, c4]

theorem spec_CartWrite_eq {k : Nat} (hk : 3 ≤ k) {rom : ByteArray} (hs : rom.size ≤ maxLen) (kind bank : Int) (ram : ByteArray) (rb : Int) (on : Bool) (mode addr v : Int) :
    spec_CartWrite.f k rom kind bank ram rb on mode addr v = some (if (cartOk rom kind bank ram rb on mode && (inR addr 0 65535 && inR v 0 255)) = true then
      ((cartWrite rom kind bank ram rb on mode addr v).1, (cartWrite rom kind bank ram rb on mode addr v).2.1, (cartWrite rom kind bank ram rb on mode addr v).2.2.1, (cartWrite rom kind bank ram rb on mode addr v).2.2.2.1, (cartWrite rom kind bank ram rb on mode addr v).2.2.2.2.1, (cartWrite rom kind bank ram rb on mode addr v).2.2.2.2.2.1, (cartWrite rom kind bank ram rb on mode addr v).2.2.2.2.2.2, true)
      else ((⟨#[]⟩ : ByteArray), 0, 0, (⟨#[]⟩ : ByteArray), 0, false, 0, false)) := by
  obtain ⟨k, rfl⟩ : ∃ m, k = m + 1 := ⟨k - 1, by omega⟩
  unfold spec_CartWrite.f
  rw [spec_CartOk_eq k hs, spec_l4Word_eq, spec_l4Byte_eq]
  by_cases h : cartOk rom kind bank ram rb on mode = true
  · by_cases ha : inR addr 0 65535 = true
    · by_cases hv : inR v 0 255 = true
      · simp only [h, ha, hv, Option.bind_some, if_true, Bool.and_self, spec_l5Write_eq hk h (inR_iff.1 ha) (inR_iff.1 hv)]
      · simp [h, ha, hv]
    · simp [h, ha]
  · simp [h]

theorem impl_CartWrite_eq {k : Nat} (hk : 3 ≤ k) {rom : ByteArray} (hs : rom.size ≤ maxLen) (kind bank : Int) (ram : ByteArray) (rb : Int) (on : Bool) (mode addr v : Int) :
    impl_CartWrite.f k rom kind bank ram rb on mode addr v = some (if (cartOk rom kind bank ram rb on mode && (inR addr 0 65535 && inR v 0 255)) = true then
      ((cartWrite rom kind bank ram rb on mode addr v).1, (cartWrite rom kind bank ram rb on mode addr v).2.1, (cartWrite rom kind bank ram rb on mode addr v).2.2.1, (cartWrite rom kind bank ram rb on mode addr v).2.2.2.1, (cartWrite rom kind bank ram rb on mode addr v).2.2.2.2.1, (cartWrite rom kind bank ram rb on mode addr v).2.2.2.2.2.1, (cartWrite rom kind bank ram rb on mode addr v).2.2.2.2.2.2, true)
      else ((⟨#[]⟩ : ByteArray), 0, 0, (⟨#[]⟩ : ByteArray), 0, false, 0, false)) := by
  obtain ⟨k, rfl⟩ : ∃ m, k = m + 1 := ⟨k - 1, by omega⟩
  unfold impl_CartWrite.f
  rw [impl_CartOk_eq k hs, impl_isWord_eq, impl_isByte_eq]
  by_cases h : cartOk rom kind bank ram rb on mode = true
  · by_cases ha : inR addr 0 65535 = true
    · by_cases hv : inR v 0 255 = true
      · simp only [h, ha, hv, Option.bind_some, if_true, Bool.and_self, impl_Cart_written_eq hk h (inR_iff.1 ha) (inR_iff.1 hv)]
      · simp [h, ha, hv]
    · simp [h, ha]
  · simp [h]

theorem FnExactCartWrite (rom : ByteArray) (kind bank : Int) (ram : ByteArray) (rb : Int) (on : Bool) (mode addr v : Int) (hs : rom.size ≤ maxLen) (_ : (Lit.int .i64 kind).wf = true) (_ : (Lit.int .i64 bank).wf = true) (_ : ram.size ≤ maxLen) (_ : (Lit.int .i64 rb).wf = true)
    (_ : (Lit.int .i64 mode).wf = true) (_ : (Lit.int .i64 addr).wf = true) (_ : (Lit.int .i64 v).wf = true) : ∃ k, laws_FnExactCartWrite.f k rom kind bank ram rb on mode addr v = some true := by
  refine ⟨3, ?_⟩
  unfold laws_FnExactCartWrite.f laws_toCart.f
  obtain ⟨t, ht⟩ := laws_szCart_some rom kind bank ram rb on mode 1048576
  rw [ht]
  simp only [Option.bind_some]
  rw [spec_CartWrite_eq (Nat.le_refl _) hs, impl_CartWrite_eq (Nat.le_refl _) hs]
  simp only [Option.bind_some, laws_eqCart_same, if_true]
  split <;> simp

end Go.Proofs.Ytnchhhafdkpmaaa.Pure
