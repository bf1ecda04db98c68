/-
The law FnExactBusWrite, told as a plain function of the machine's parts, the address and the byte, answers true for every input.
-/
import Derived.Test.YtmgbdbamfljjnaaPFnExactBusWritex12
import Derived.Test.YtmgbdbamfljjnaaAidA
import Derived.Test.YtmgbdbamfljjnaaAidB
import Derived.Test.YtmgbdbamfljjnaaAidC
namespace Go.Proofs.Ytmgbdbamfljjnaa.Pure
open Go.RowKit Go.Proofs.Ytmgbdbamfljjnaa.Aid Go.Proofs.Ytmgbdbamfljjnaa.PFnExactBusWrite Go.Proofs.YtmgbdbamfljjnaaW.PrintWords Go.Proofs.YtmgbdbamfljjnaaW.PrintLast Go.Proofs.YtmgbdbamfljjnaaW.PrintMore
set_option linter.unusedVariables false
set_option linter.unusedSimpArgs false

theorem spec_l1In_eq (a b c : Int) : spec_l1In.f a b c = some (inR a b c) := by
  unfold spec_l1In.f inR
  by_cases h : a ≥ b
  · rw [if_pos h, decide_eq_true (show b ≤ a from h)]
    rfl
  · rw [if_neg h, decide_eq_false (show ¬ b ≤ a from h)]
    rfl

theorem impl_within_eq (a b c : Int) : impl_within.f a b c = some (inR a b c) := by
  unfold impl_within.f inR
  by_cases h : a ≥ b
  · rw [if_pos h, decide_eq_true (show b ≤ a from h)]
    rfl
  · rw [if_neg h, decide_eq_false (show ¬ b ≤ a from h)]
    rfl

theorem impl_isByte_eq (a : Int) : impl_isByte.f a = some (inR a 0 255) := by
  unfold impl_isByte.f
  rw [impl_within_eq]
  rfl

theorem impl_isWord_eq (a : Int) : impl_isWord.f a = some (inR a 0 65535) := by
  unfold impl_isWord.f
  rw [impl_within_eq]
  rfl

theorem spec_l4Byte_eq (a : Int) : spec_l4Byte.f a = some (inR a 0 255) := by
  unfold spec_l4Byte.f
  rw [spec_l1In_eq]
  rfl

theorem spec_l4Word_eq (a : Int) : spec_l4Word.f a = some (inR a 0 65535) := by
  unfold spec_l4Word.f
  rw [spec_l1In_eq]
  rfl

theorem spec_l5Banks_eq {rom : ByteArray} (hs : rom.size ≤ maxLen) : spec_l5Banks.f rom = some (if romOk rom = true then (rom.size : Int) / 256 else 0) := by
  unfold maxLen at hs
  unfold spec_l5Banks.f romOk
  rw [spec_l1In_eq, w64 (by omega) (by omega)]
  by_cases h1 : (rom.size : Int) % 256 = 0
  · rw [if_pos h1, decide_eq_true h1]
    cases inR ((rom.size : Int) / 256) 2 16 <;> rfl
  · rw [if_neg h1, decide_eq_false h1]
    rfl

theorem spec_CartOk_eq (k : Nat) {rom : ByteArray} (hs : rom.size ≤ maxLen) (kind bank : Int) (ram : ByteArray) (rb : Int) (on : Bool) (mode : Int) : spec_CartOk.f (k + 1) rom kind bank ram rb on mode = some (cartOk rom kind bank ram rb on mode) := by
  unfold spec_CartOk.f cartOk
  rw [spec_l5Banks_eq hs]
  simp only [Option.bind_some, spec_CartOk.j0, spec_l1In_eq]
  by_cases h1 : romOk rom = true
  · have h2 := romOk_iff.1 h1
    rw [if_pos h1, h1, if_neg (by omega)]
    by_cases h3 : (ram.size : Int) = 256
    · by_cases k0 : kind = 0
      · by_cases b1 : bank = 1
        · by_cases b2 : rb = 0
          · cases on <;> simp [h3, k0, b1, b2]
          · simp [h3, k0, b1, b2]
        · simp [h3, k0, b1]
      · by_cases k1 : kind = 1
        · cases inR bank 1 31 <;> cases inR rb 0 3 <;> simp [h3, k0, k1]
        · by_cases k2 : kind = 2
          · cases inR bank 0 255 <;> cases inR rb 0 3 <;> simp [h3, k0, k1, k2]
          · simp [h3, k0, k1, k2]
    · simp [h3]
  · simp [h1]

theorem impl_CartOk_eq (k : Nat) {rom : ByteArray} (hs : rom.size ≤ maxLen) (kind bank : Int) (ram : ByteArray) (rb : Int) (on : Bool) (mode : Int) : impl_CartOk.f (k + 1) rom kind bank ram rb on mode = some (cartOk rom kind bank ram rb on mode) := by
  unfold maxLen at hs
  unfold impl_CartOk.f cartOk romOk
  rw [w64 (by omega) (by omega)]
  simp only [Option.bind_some, impl_CartOk.j0, impl_within_eq, impl_isByte_eq]
  by_cases h0 : (rom.size : Int) % 256 = 0
  · by_cases h1 : inR ((rom.size : Int) / 256) 2 16 = true
    · rw [if_pos h0, h1]
      by_cases h3 : (ram.size : Int) = 256
      · by_cases k0 : kind = 0
        · by_cases b1 : bank = 1
          · by_cases b2 : rb = 0
            · by_cases b3 : mode = 0
              · cases on <;> simp [h0, h3, k0, b1, b2, b3]
              · cases on <;> simp [h0, h3, k0, b1, b2, b3]
            · simp [h0, h3, k0, b1, b2]
          · simp [h0, h3, k0, b1]
        · by_cases k1 : kind = 1
          · cases inR bank 1 31 <;> cases inR rb 0 3 <;> simp [h0, h3, k0, k1]
          · by_cases k2 : kind = 2
            · cases inR bank 0 255 <;> cases inR rb 0 3 <;> simp [h0, h3, k0, k1, k2]
            · simp [h0, h3, k0, k1, k2]
      · simp [h0, h3]
    · simp [h0, h1]
  · simp [h0]

theorem spec_l5RamBank_eq (rom : ByteArray) (kind bank : Int) (ram : ByteArray) (rb : Int) (on : Bool) (mode : Int) : spec_l5RamBank.f rom kind bank ram rb on mode = some (ramBank kind rb mode) := by
  unfold spec_l5RamBank.f ramBank
  split
  · split <;> rfl
  · rfl

theorem impl_Cart_ramPlace_eq (k : Nat) {rom : ByteArray} {kind bank : Int} {ram : ByteArray} {rb : Int} {on : Bool} {mode : Int} (h : cartOk rom kind bank ram rb on mode = true) {addr : Int} (ha : 0 ≤ addr ∧ addr ≤ 65535) :
    impl_Cart_ramPlace.f (k + 1) rom kind bank ram rb on mode addr = some (if (on && inR addr 40960 41023) = true then ramBank kind rb mode * 64 + addr - 40960 else -1) := by
  obtain ⟨h1, h4, h5, h6, h7⟩ := cartOk_facts h
  unfold impl_Cart_ramPlace.f ramBank
  simp only [impl_within_eq, Option.bind_some, impl_Cart_ramPlace.j0]
  cases on with
  | false => simp
  | true =>
    by_cases c3 : 40960 ≤ addr ∧ addr ≤ 41023
    · rw [inR_pos c3.1 c3.2]
      rw [w64 (n := rb * 64) (by omega) (by omega), w64 (n := 0 * 64 + addr) (by omega) (by omega), w64 (n := rb * 64 + addr) (by omega) (by omega), w64 (n := rb * 64 + addr - 40960) (by omega) (by omega), w64 (n := 0 * 64 + addr - 40960) (by omega) (by omega)]
      by_cases k1 : kind = 1
      · by_cases k2 : mode = 0
        · simp [k1, k2]
        · simp [k1, k2]
      · simp [k1]
    · rw [inR_neg c3]
      simp

theorem laws_eqCart_same (rom : ByteArray) (kind bank : Int) (ram : ByteArray) (rb : Int) (on : Bool) (mode : Int) : laws_eqCart.f rom kind bank ram rb on mode rom kind bank ram rb on mode = some true := by
  unfold laws_eqCart.f
  simp

theorem laws_szMachine_some (a f b c d e h l sp pc : Int) (ime hlt : Bool) (rom : ByteArray) (kind bank : Int) (ram : ByteArray) (rb : Int) (on : Bool) (mode : Int) (wk hi : ByteArray) (out : List Int) (cyc : Int)
    (h1 : rom.size ≤ maxLen) (h2 : ram.size ≤ maxLen) (h3 : wk.size ≤ maxLen) (h4 : hi.size ≤ maxLen) (h5 : out.length ≤ maxLen) :
    ∃ t, laws_szMachine.f a f b c d e h l sp pc ime hlt rom kind bank ram rb on mode wk hi out cyc 1048576 = some t ∧ (0 ≤ t → rom.size ≤ 1048576 ∧ ram.size ≤ 1048576 ∧ wk.size ≤ 1048576 ∧ hi.size ≤ 1048576 ∧ out.length ≤ 1048576) := by
  unfold maxLen at h1 h2 h3 h4 h5
  unfold laws_szMachine.f laws_szCart.f laws_szInt64S.f
  rw [w64 (n := 1048576 - (rom.size : Int)) (by omega) (by omega)]
  by_cases c1 : 1048576 - (rom.size : Int) < 0
  · rw [if_pos c1]
    exact ⟨-1, rfl, by omega⟩
  rw [if_neg c1, w64 (n := 1048576 - (rom.size : Int) - (ram.size : Int)) (by omega) (by omega)]
  by_cases c2 : 1048576 - (rom.size : Int) - (ram.size : Int) < 0
  · rw [if_pos c2]
    exact ⟨-1, rfl, by omega⟩
  rw [if_neg c2]
  simp only [Option.bind_some]
  rw [if_neg c2, w64 (n := 1048576 - (rom.size : Int) - (ram.size : Int) - (wk.size : Int)) (by omega) (by omega)]
  by_cases c3 : 1048576 - (rom.size : Int) - (ram.size : Int) - (wk.size : Int) < 0
  · rw [if_pos c3]
    exact ⟨-1, rfl, by omega⟩
  rw [if_neg c3, w64 (n := 1048576 - (rom.size : Int) - (ram.size : Int) - (wk.size : Int) - (hi.size : Int)) (by omega) (by omega)]
  by_cases c4 : 1048576 - (rom.size : Int) - (ram.size : Int) - (wk.size : Int) - (hi.size : Int) < 0
  · rw [if_pos c4]
    exact ⟨-1, rfl, by omega⟩
  rw [if_neg c4, w64 (n := 1048576 - (rom.size : Int) - (ram.size : Int) - (wk.size : Int) - (hi.size : Int) - (out.length : Int)) (by omega) (by omega)]
  by_cases c5 : 1048576 - (rom.size : Int) - (ram.size : Int) - (wk.size : Int) - (hi.size : Int) - (out.length : Int) < 0
  · rw [if_pos c5]
    exact ⟨-1, rfl, by omega⟩
  rw [if_neg c5]
  simp only [Option.bind_some]
  rw [if_neg c5]
  exact ⟨_, rfl, by omega⟩

theorem laws_toInt64S_l0 (l : List Int) (hl : l.length ≤ 1048576) : ∀ (n k i : Nat) (y : List Int), i + n = l.length → n < k → y.length = l.length → y.take i = (l.map id).take i → laws_toInt64S.l0 k l y (i : Int) = some (l.map id) := by
  intro n
  induction n with
  | zero =>
    intro k i y hi hk hy ht
    obtain ⟨k, rfl⟩ : ∃ m, k = m + 1 := ⟨k - 1, by omega⟩
    simp only [laws_toInt64S.l0]
    rw [if_neg (by omega)]
    obtain rfl : i = l.length := by omega
    rw [fill_end id l y hy ht]
  | succ n ih =>
    intro k i y hi hk hy ht
    obtain ⟨k, rfl⟩ : ∃ m, k = m + 1 := ⟨k - 1, by omega⟩
    have hrd : rd l (i : Int) = l.getD i 0 := by unfold rd; rw [Int.toNat_natCast]
    simp only [laws_toInt64S.l0]
    rw [if_pos (by omega), if_pos (by omega), if_pos (by omega), hrd, Int.toNat_natCast, up1 (by omega : i < l.length) (by omega)]
    obtain ⟨h1, h2⟩ := fill_step 0 id l y i (by omega) hy ht
    exact ih k (i + 1) _ (by omega) (by omega) h1 h2
theorem laws_toInt64S_eq (l : List Int) (hl : l.length ≤ 1048576) {k : Nat} (hk : 1048578 ≤ k) : laws_toInt64S.f k l = some l := by
  unfold laws_toInt64S.f
  rw [if_pos (by omega), if_pos (by omega)]
  have := laws_toInt64S_l0 l hl l.length k 0 (List.replicate ((l.length : Int)).toNat 0) (by omega) (by omega) (by simp) (by simp)
  rw [List.map_id] at this
  exact this

theorem laws_toMachine_eq (a f b c d e h l sp pc : Int) (ime hlt : Bool) (rom : ByteArray) (kind bank : Int) (ram : ByteArray) (rb : Int) (on : Bool) (mode : Int) (wk hi : ByteArray) (out : List Int) (cyc : Int) (ho : out.length ≤ 1048576) {k : Nat} (hk : 1048578 ≤ k) :
    laws_toMachine.f k a f b c d e h l sp pc ime hlt rom kind bank ram rb on mode wk hi out cyc = some (a, f, b, c, d, e, h, l, sp, pc, ime, hlt, rom, kind, bank, ram, rb, on, mode, wk, hi, out, cyc) := by
  unfold laws_toMachine.f laws_toCpu.f laws_toCart.f
  rw [laws_toInt64S_eq out ho hk]
  rfl

theorem laws_eqInt64S_l0 (l : List Int) (hl : l.length ≤ 1048576) : ∀ (n k i : Nat), i + n = l.length → n < k → laws_eqInt64S.l0 k l l (i : Int) = some true := by
  intro n
  induction n with
  | zero =>
    intro k i hi hk
    obtain ⟨k, rfl⟩ : ∃ m, k = m + 1 := ⟨k - 1, by omega⟩
    simp only [laws_eqInt64S.l0]
    rw [if_neg (by omega)]
  | succ n ih =>
    intro k i hi hk
    obtain ⟨k, rfl⟩ : ∃ m, k = m + 1 := ⟨k - 1, by omega⟩
    simp only [laws_eqInt64S.l0]
    rw [if_pos (by omega), if_pos (by omega), if_pos (by omega), if_pos trivial, up1 (by omega : i < l.length) (by omega)]
    exact ih k (i + 1) (by omega) (by omega)
theorem laws_eqInt64S_same (l : List Int) (hl : l.length ≤ 1048576) {k : Nat} (hk : 1048578 ≤ k) : laws_eqInt64S.f k l l = some true := by
  unfold laws_eqInt64S.f
  rw [if_pos rfl]
  exact laws_eqInt64S_l0 l hl l.length k 0 (by omega) (by omega)

theorem laws_eqMachine_same (a f b c d e h l sp pc : Int) (ime hlt : Bool) (rom : ByteArray) (kind bank : Int) (ram : ByteArray) (rb : Int) (on : Bool) (mode : Int) (wk hi : ByteArray) (out : List Int) (cyc : Int) (ho : out.length ≤ 1048576) {k : Nat} (hk : 1048578 ≤ k) :
    laws_eqMachine.f k a f b c d e h l sp pc ime hlt rom kind bank ram rb on mode wk hi out cyc a f b c d e h l sp pc ime hlt rom kind bank ram rb on mode wk hi out cyc = some true := by
  unfold laws_eqMachine.f laws_eqCpu.f
  simp only [laws_eqCart_same, laws_eqInt64S_same out ho hk, if_true, Option.bind_some, bne_self_eq_false, Bool.false_eq_true, if_false]

def isB (v : Int) : Bool := inR v 0 255
/-- What stands behind the bytes of a machine. -/
def machRest (f sp pc : Int) (rom : ByteArray) (kind bank : Int) (ram : ByteArray) (rb : Int) (on : Bool) (mode : Int) (wk hi : ByteArray) (out : List Int) (cyc : Int) : Bool :=
  decide (Int.tmod f 16 = 0) && (inR sp 0 65535 && (inR pc 0 65535 && (cartOk rom kind bank ram rb on mode && (decide (wk.size = 256) && (decide (hi.size = 127) && (decide (out.length ≤ 100) && inR cyc 0 1000000000))))))
def machOk (a f b c d e h l sp pc : Int) (rom : ByteArray) (kind bank : Int) (ram : ByteArray) (rb : Int) (on : Bool) (mode : Int) (wk hi : ByteArray) (out : List Int) (cyc : Int) : Bool :=
  ([a, f, b, c, d, e, h, l] : List Int).all isB && (out.all isB && machRest f sp pc rom kind bank ram rb on mode wk hi out cyc)
section
variable (a f b c d e h l sp pc : Int) (ime hlt : Bool) (rom : ByteArray) (kind bank : Int) (ram : ByteArray) (rb : Int) (on : Bool) (mode : Int) (wk hi : ByteArray) (out : List Int) (cyc : Int)
theorem spec_MachineOk_l1 (hs : rom.size ≤ maxLen) (ho : out.length ≤ 1048576) : ∀ (n k i : Nat), i + n = out.length → n + 3 ≤ k →
    spec_MachineOk.l1 k (i : Int) a f b c d e h l sp pc ime hlt rom kind bank ram rb on mode wk hi out cyc a f b c d e h l sp pc ime hlt = some ((out.drop i).all isB && machRest f sp pc rom kind bank ram rb on mode wk hi out cyc) := by
  intro n
  induction n with
  | zero =>
    intro k i hi' hk
    obtain ⟨k, rfl⟩ : ∃ m, k = m + 2 := ⟨k - 2, by omega⟩
    simp only [spec_MachineOk.l1, spec_l4Word_eq, spec_l1In_eq, Option.bind_some, spec_CartOk_eq k hs]
    rw [if_neg (by omega), List.drop_eq_nil_of_le (by omega)]
    unfold machRest
    simp only [List.all_nil, Bool.true_and]
    by_cases c1 : Int.tmod f 16 = 0
    · rw [if_pos c1, decide_eq_true c1]
      cases inR sp 0 65535 with
      | false => simp
      | true =>
        cases inR pc 0 65535 with
        | false => simp
        | true =>
          cases cartOk rom kind bank ram rb on mode with
          | false => simp
          | true =>
            by_cases c2 : (wk.size : Int) = 256
            · by_cases c3 : (hi.size : Int) = 127
              · by_cases c4 : (out.length : Int) ≤ 100
                · simp only [c2, c3, c4, if_true, decide_eq_true (show wk.size = 256 by omega), decide_eq_true (show hi.size = 127 by omega), decide_eq_true (show out.length ≤ 100 by omega), Bool.true_and]
                · simp only [c2, c3, c4, if_true, if_false, decide_eq_true (show wk.size = 256 by omega), decide_eq_true (show hi.size = 127 by omega), decide_eq_false (show ¬ out.length ≤ 100 by omega), Bool.true_and, Bool.false_and]
              · simp only [c2, c3, if_true, if_false, decide_eq_true (show wk.size = 256 by omega), decide_eq_false (show ¬ hi.size = 127 by omega), Bool.true_and, Bool.false_and]
            · simp only [c2, if_true, if_false, decide_eq_false (show ¬ wk.size = 256 by omega), Bool.true_and, Bool.false_and]
    · rw [if_neg c1, decide_eq_false c1]
      simp
  | succ n ih =>
    intro k i hi' hk
    obtain ⟨k, rfl⟩ : ∃ m, k = m + 1 := ⟨k - 1, by omega⟩
    have hrd : rd out (i : Int) = out.getD i 0 := by unfold rd; rw [Int.toNat_natCast]
    rw [spec_MachineOk.l1, if_pos (by omega), if_pos (by omega), spec_l4Byte_eq, hrd, up1 (by omega : i < out.length) (by omega), ih k (i + 1) (by omega) (by omega), drop_at 0 out i (by omega), List.all_cons]
    simp only [Option.bind_some]
    show (if isB _ = true then _ else _) = _
    cases isB (out.getD i 0) <;> simp
theorem spec_MachineOk_l0 (hs : rom.size ≤ maxLen) (ho : out.length ≤ 1048576) (x : List Int) (hx : x.length ≤ 1000) : ∀ (n k i : Nat), i + n = x.length → n + out.length + 4 ≤ k →
    spec_MachineOk.l0 k x (i : Int) a f b c d e h l sp pc ime hlt rom kind bank ram rb on mode wk hi out cyc a f b c d e h l sp pc ime hlt = some ((x.drop i).all isB && (out.all isB && machRest f sp pc rom kind bank ram rb on mode wk hi out cyc)) := by
  intro n
  induction n with
  | zero =>
    intro k i hi' hk
    obtain ⟨k, rfl⟩ : ∃ m, k = m + 1 := ⟨k - 1, by omega⟩
    have := spec_MachineOk_l1 a f b c d e h l sp pc ime hlt rom kind bank ram rb on mode wk hi out cyc hs ho out.length k 0 (by omega) (by omega)
    rw [show ((0 : Nat) : Int) = 0 from rfl, List.drop_zero] at this
    rw [spec_MachineOk.l0, if_neg (by omega), this, List.drop_eq_nil_of_le (by omega)]
    simp
  | succ n ih =>
    intro k i hi' hk
    obtain ⟨k, rfl⟩ : ∃ m, k = m + 1 := ⟨k - 1, by omega⟩
    have hrd : rd x (i : Int) = x.getD i 0 := by unfold rd; rw [Int.toNat_natCast]
    rw [spec_MachineOk.l0, if_pos (by omega), if_pos (by omega), spec_l4Byte_eq, hrd, up1 (by omega : i < x.length) (by omega), ih k (i + 1) (by omega) (by omega), drop_at 0 x i (by omega), List.all_cons]
    simp only [Option.bind_some]
    show (if isB _ = true then _ else _) = _
    cases isB (x.getD i 0) <;> simp
theorem spec_MachineOk_eq (hs : rom.size ≤ maxLen) (ho : out.length ≤ 1048576) {k : Nat} (hk : 1048600 ≤ k) :
    spec_MachineOk.f k a f b c d e h l sp pc ime hlt rom kind bank ram rb on mode wk hi out cyc = some (machOk a f b c d e h l sp pc rom kind bank ram rb on mode wk hi out cyc) := by
  have := spec_MachineOk_l0 a f b c d e h l sp pc ime hlt rom kind bank ram rb on mode wk hi out cyc hs ho [a, f, b, c, d, e, h, l] (by simp) 8 k 0 rfl (by omega)
  exact this
end

--NEEDS spec_MachineOk slices_ContainsFunc_int64_int64
theorem any_out8 : ∀ l : List Int, l.any slices_ContainsFunc_int64_int64.out8 = !(l.all isB)
  | [] => rfl
  | x :: r => by
    rw [List.any_cons, List.all_cons, any_out8 r]
    unfold slices_ContainsFunc_int64_int64.out8 isB inR
    simp
section
variable (a f b c d e h l sp pc : Int) (ime hlt : Bool) (rom : ByteArray) (kind bank : Int) (ram : ByteArray) (rb : Int) (on : Bool) (mode : Int) (wk hi : ByteArray) (out : List Int) (cyc : Int)
theorem impl_MachineOk_l0 (hs : rom.size ≤ maxLen) (x : List Int) (hx : x.length ≤ 1000) : ∀ (n k i : Nat), i + n = x.length → n + 4 ≤ k →
    impl_MachineOk.l0 k x (x.length : Int) (i : Int) a f b c d e h l sp pc ime hlt rom kind bank ram rb on mode wk hi out cyc a f b c d e h l sp pc ime hlt = some ((x.drop i).all isB && (out.all isB && machRest f sp pc rom kind bank ram rb on mode wk hi out cyc)) := by
  intro n
  induction n with
  | zero =>
    intro k i hi' hk
    obtain ⟨k, rfl⟩ : ∃ m, k = m + 2 := ⟨k - 2, by omega⟩
    simp only [impl_MachineOk.l0, slices_ContainsFunc_int64_int64.f, impl_isWord_eq, impl_within_eq, Option.bind_some, impl_CartOk_eq k hs, any_out8]
    rw [if_neg (by omega), List.drop_eq_nil_of_le (by omega)]
    unfold machRest
    simp only [List.all_nil, Bool.true_and]
    cases out.all isB with
    | false => simp
    | true =>
      simp only [Bool.not_true, Bool.false_eq_true, if_false, Bool.true_and]
      by_cases c1 : Int.tmod f 16 = 0
      · rw [if_pos c1, decide_eq_true c1]
        cases inR sp 0 65535 with
        | false => simp
        | true =>
          cases inR pc 0 65535 with
          | false => simp
          | true =>
            cases cartOk rom kind bank ram rb on mode with
            | false => simp
            | true =>
              by_cases c2 : (wk.size : Int) = 256
              · by_cases c3 : (hi.size : Int) = 127
                · by_cases c4 : (out.length : Int) ≤ 100
                  · simp only [c2, c3, c4, if_true, decide_eq_true (show wk.size = 256 by omega), decide_eq_true (show hi.size = 127 by omega), decide_eq_true (show out.length ≤ 100 by omega), Bool.true_and]
                  · simp only [c2, c3, c4, if_true, if_false, decide_eq_true (show wk.size = 256 by omega), decide_eq_true (show hi.size = 127 by omega), decide_eq_false (show ¬ out.length ≤ 100 by omega), Bool.true_and, Bool.false_and]
                · simp only [c2, c3, if_true, if_false, decide_eq_true (show wk.size = 256 by omega), decide_eq_false (show ¬ hi.size = 127 by omega), Bool.true_and, Bool.false_and]
              · simp only [c2, if_true, if_false, decide_eq_false (show ¬ wk.size = 256 by omega), Bool.true_and, Bool.false_and]
      · rw [if_neg c1, decide_eq_false c1]
        simp
  | succ n ih =>
    intro k i hi' hk
    obtain ⟨k, rfl⟩ : ∃ m, k = m + 1 := ⟨k - 1, by omega⟩
    have hrd : rd x (i : Int) = x.getD i 0 := by unfold rd; rw [Int.toNat_natCast]
    rw [impl_MachineOk.l0, if_pos (by omega), if_pos (by omega), if_pos (by omega), impl_isByte_eq, hrd, up1 (by omega : i < x.length) (by omega), ih k (i + 1) (by omega) (by omega), drop_at 0 x i (by omega), List.all_cons]
    simp only [Option.bind_some]
    show (if isB _ = true then _ else _) = _
    cases isB (x.getD i 0) <;> simp
theorem impl_MachineOk_eq (hs : rom.size ≤ maxLen) {k : Nat} (hk : 20 ≤ k) :
    impl_MachineOk.f k a f b c d e h l sp pc ime hlt rom kind bank ram rb on mode wk hi out cyc = some (machOk a f b c d e h l sp pc rom kind bank ram rb on mode wk hi out cyc) := by
  have := impl_MachineOk_l0 a f b c d e h l sp pc ime hlt rom kind bank ram rb on mode wk hi out cyc hs [a, f, b, c, d, e, h, l] (by simp) 8 k 0 rfl (by omega)
  exact this
end

theorem spec_l5Write_eq {k : Nat} (hk : 3 ≤ k) {rom : ByteArray} {kind bank : Int} {ram : ByteArray} {rb : Int} {on : Bool} {mode : Int} (h : cartOk rom kind bank ram rb on mode = true) {addr v : Int} (ha : 0 ≤ addr ∧ addr ≤ 65535) (hv : 0 ≤ v ∧ v ≤ 255) :
    spec_l5Write.f k rom kind bank ram rb on mode addr v = some (cartWrite rom kind bank ram rb on mode addr v) := by
  obtain ⟨k, rfl⟩ : ∃ m, k = m + 3 := ⟨k - 3, by omega⟩
  obtain ⟨h1, h4, h5, h6, h7⟩ := cartOk_facts h
  obtain ⟨r0, r1⟩ := ramBank_in (kind := kind) (mode := mode) h6.1 h6.2
  unfold spec_l5Write.f cartWrite
  simp only [spec_l5Write.j0, spec_l5Write.j1, spec_l1In_eq, Option.bind_some, spec_l5RamBank_eq, Int.tmod_eq_emod_of_nonneg hv.1]
  by_cases k0 : kind = 0
  · rw [if_pos k0, if_pos k0]
  · rw [if_neg k0, if_neg k0]
    by_cases c1 : addr < 128
    · rw [if_pos c1, if_pos c1]
    · rw [if_neg c1, if_neg c1]
      by_cases c2 : addr < 256
      · by_cases k2 : kind = 2
        · simp [c2, k2]
        · simp [c2, k2]
      · by_cases c3 : addr < 384
        · simp [c2, c3]
        · by_cases c4 : addr < 512
          · by_cases k1 : kind = 1
            · simp [c2, c3, c4, k1]
            · simp [c2, c3, c4, k1]
          · cases on with
            | false => simp [c2, c3, c4]
            | true =>
              by_cases c5 : 40960 ≤ addr ∧ addr ≤ 41023
              · rw [inR_pos c5.1 c5.2]
                unfold spec_l5Put.f
                generalize ramBank kind rb mode = m at r0 r1 ⊢
                rw [w64 (n := m * 64) (by omega) (by omega), w64 (n := m * 64 + addr) (by omega) (by omega), w64 (n := m * 64 + addr - 40960) (by omega) (by omega), if_pos (by omega : 0 ≤ m * 64 + addr - 40960), if_pos (by omega : m * 64 + addr - 40960 < (ram.size : Int))]
                simp [c2, c3, c4, setB]
              · rw [inR_neg c5]
                simp [c2, c3, c4]

theorem impl_Cart_written_eq {k : Nat} (hk : 3 ≤ k) {rom : ByteArray} {kind bank : Int} {ram : ByteArray} {rb : Int} {on : Bool} {mode : Int} (h : cartOk rom kind bank ram rb on mode = true) {addr v : Int} (ha : 0 ≤ addr ∧ addr ≤ 65535) (hv : 0 ≤ v ∧ v ≤ 255) :
    impl_Cart_written.f k rom kind bank ram rb on mode addr v = some (cartWrite rom kind bank ram rb on mode addr v) := by
  obtain ⟨k, rfl⟩ : ∃ m, k = m + 3 := ⟨k - 3, by omega⟩
  obtain ⟨h1, h4, h5, h6, h7⟩ := cartOk_facts h
  obtain ⟨r0, r1⟩ := ramBank_in (kind := kind) (mode := mode) h6.1 h6.2
  unfold impl_Cart_written.f cartWrite
  rw [impl_Cart_ramPlace_eq (k + 2) h ha]
  simp only [impl_Cart_written.j0, impl_Cart_written.j1, Option.bind_some, Int.tmod_eq_emod_of_nonneg hv.1, and15']
  by_cases k0 : kind = 0
  · rw [if_pos k0, if_pos k0]
  · rw [if_neg k0, if_neg k0]
    by_cases c1 : addr < 128
    · rw [if_pos c1, if_pos c1]
    · rw [if_neg c1, if_neg c1]
      by_cases c2 : addr < 256
      · by_cases k2 : kind = 2
        · simp [c2, k2]
        · simp [c2, k2]
      · by_cases c3 : addr < 384
        · simp [c2, c3]
        · by_cases c4 : addr < 512
          · have c5 : inR addr 40960 41023 = false := inR_neg (by omega)
            by_cases k1 : kind = 1
            · simp [c2, c3, c4, k1]
            · simp [c2, c3, c4, k1, c5]
          · cases on with
            | false => simp [c2, c3, c4]
            | true =>
              by_cases c5 : 40960 ≤ addr ∧ addr ≤ 41023
              · rw [inR_pos c5.1 c5.2]
                simp only [Bool.and_self, if_true]
                unfold impl_replaced.f
                generalize ramBank kind rb mode = m at r0 r1 ⊢
                rw [if_pos (by omega : 0 ≤ m * 64 + addr - 40960), if_pos (by omega : m * 64 + addr - 40960 < (ram.size : Int)), if_pos (by omega : m * 64 + addr - 40960 ≥ 0)]
                simp [c2, c3, c4, setB]
              · rw [inR_neg c5]
                simp [c2, c3, c4]

abbrev Mch2 := Int × Int × Int × Int × Int × Int × Int × Int × Int × Int × Bool × Bool × ByteArray × Int × Int × ByteArray × Int × Bool × Int × ByteArray × ByteArray × List Int × Int × Bool
def mch0 : Mch2 := (0, 0, 0, 0, 0, 0, 0, 0, 0, 0, false, false, ⟨#[]⟩, 0, 0, ⟨#[]⟩, 0, false, 0, ⟨#[]⟩, ⟨#[]⟩, [], 0, false)
def machWr (a f b c d e h l sp pc : Int) (ime hlt : Bool) (rom : ByteArray) (kind bank : Int) (ram : ByteArray) (rb : Int) (on : Bool) (mode : Int) (wk hi : ByteArray) (out : List Int) (cyc ad v : Int) : Mch2 :=
  if inR ad 49152 49407 = true then (a, f, b, c, d, e, h, l, sp, pc, ime, hlt, rom, kind, bank, ram, rb, on, mode, setB wk (ad - 49152) v, hi, out, cyc, true)
  else if inR ad 65408 65534 = true then (a, f, b, c, d, e, h, l, sp, pc, ime, hlt, rom, kind, bank, ram, rb, on, mode, wk, setB hi (ad - 65408) v, out, cyc, true)
  else if ad = 65281 then (if (out.length : Int) = 100 then mch0 else (a, f, b, c, d, e, h, l, sp, pc, ime, hlt, rom, kind, bank, ram, rb, on, mode, wk, hi, out ++ [v], cyc, true))
  else (a, f, b, c, d, e, h, l, sp, pc, ime, hlt, (cartWrite rom kind bank ram rb on mode ad v).1, (cartWrite rom kind bank ram rb on mode ad v).2.1, (cartWrite rom kind bank ram rb on mode ad v).2.2.1, (cartWrite rom kind bank ram rb on mode ad v).2.2.2.1, (cartWrite rom kind bank ram rb on mode ad v).2.2.2.2.1, (cartWrite rom kind bank ram rb on mode ad v).2.2.2.2.2.1, (cartWrite rom kind bank ram rb on mode ad v).2.2.2.2.2.2, wk, hi, out, cyc, true)
section
variable (a f b c d e h l sp pc : Int) (ime hlt : Bool) (rom : ByteArray) (kind bank : Int) (ram : ByteArray) (rb : Int) (on : Bool) (mode : Int) (wk hi : ByteArray) (out : List Int) (cyc : Int)
theorem mach_facts (hm : machOk a f b c d e h l sp pc rom kind bank ram rb on mode wk hi out cyc = true) : cartOk rom kind bank ram rb on mode = true ∧ wk.size = 256 ∧ hi.size = 127 ∧ out.length ≤ 100 := by
  unfold machOk at hm
  simp only [Bool.and_eq_true] at hm
  have h := hm.2.2
  unfold machRest at h
  simp only [Bool.and_eq_true, decide_eq_true_eq] at h
  exact ⟨h.2.2.2.1, h.2.2.2.2.1, h.2.2.2.2.2.1, h.2.2.2.2.2.2.1⟩
theorem l5Put_eq (s : ByteArray) (i v : Int) (h0 : 0 ≤ i) (h1 : i < s.size) : spec_l5Put.f s i v = some (setB s i v) := by
  unfold spec_l5Put.f setB
  rw [if_pos h0, if_pos h1]
def machWV (ad v : Int) : Mch2 := if (machOk a f b c d e h l sp pc rom kind bank ram rb on mode wk hi out cyc && (inR ad 0 65535 && inR v 0 255)) = true then machWr a f b c d e h l sp pc ime hlt rom kind bank ram rb on mode wk hi out cyc ad v else mch0
theorem spec_BusWrite_eq (hs : rom.size ≤ maxLen) (ho : out.length ≤ 1048576) (ad v : Int) {k : Nat} (hk : 1048600 ≤ k) :
    spec_BusWrite.f k a f b c d e h l sp pc ime hlt rom kind bank ram rb on mode wk hi out cyc ad v = some (machWV a f b c d e h l sp pc ime hlt rom kind bank ram rb on mode wk hi out cyc ad v) := by
  obtain ⟨k, rfl⟩ : ∃ m, k = m + 4 := ⟨k - 4, by omega⟩
  unfold spec_BusWrite.f machWV
  rw [spec_MachineOk_eq a f b c d e h l sp pc ime hlt rom kind bank ram rb on mode wk hi out cyc hs ho hk, spec_l4Word_eq, spec_l4Byte_eq]
  simp only [Option.bind_some]
  by_cases hm : machOk a f b c d e h l sp pc rom kind bank ram rb on mode wk hi out cyc = true
  · by_cases ha : inR ad 0 65535 = true
    · by_cases hv : inR v 0 255 = true
      · obtain ⟨hc, h1, h2, h3⟩ := mach_facts a f b c d e h l sp pc rom kind bank ram rb on mode wk hi out cyc hm
        simp only [hm, ha, hv, if_true, Bool.and_self, Bool.not_true]
        rw [spec_BusWrite.j0, if_neg (by decide)]
        unfold spec_l6Write.f machWr spec_l6Copy.f
        simp only [spec_l1In_eq, Option.bind_some, spec_l5Write_eq (k := k + 3) (by omega) hc (inR_iff.1 ha) (inR_iff.1 hv)]
        by_cases c1 : inR ad 49152 49407 = true
        · have := inR_iff.1 c1
          rw [if_pos c1, if_pos c1, w64 (by omega) (by omega), l5Put_eq _ _ _ (by omega) (by omega)]
          simp only [Option.bind_some, if_true, List.nil_append, List.length_nil, Nat.zero_add]
          rw [if_pos (by omega)]
          rfl
        · rw [if_neg c1, if_neg c1]
          by_cases c2 : inR ad 65408 65534 = true
          · have := inR_iff.1 c2
            rw [if_pos c2, if_pos c2, w64 (by omega) (by omega), l5Put_eq _ _ _ (by omega) (by omega)]
            simp only [Option.bind_some, if_true, List.nil_append, List.length_nil, Nat.zero_add]
            rw [if_pos (by omega)]
            rfl
          · rw [if_neg c2, if_neg c2]
            by_cases c3 : ad = 65281
            · rw [if_pos c3, if_pos c3]
              by_cases c4 : (out.length : Int) = 100
              · rw [if_pos c4, if_pos c4]
                rfl
              · rw [if_neg c4, if_neg c4]
                simp only [Option.bind_some, if_true, List.nil_append, List.length_nil, Nat.zero_add]
                rw [if_pos (by omega), if_pos (by omega)]
                simp only [Option.bind_some, if_true, List.nil_append, List.length_nil, Nat.zero_add, List.length_append, List.length_singleton]
                rw [if_pos (by omega)]
                rfl
            · rw [if_neg c3, if_neg c3]
              simp only [Option.bind_some, if_true, List.nil_append, List.length_nil, Nat.zero_add]
              rw [if_pos (by omega)]
              rfl
      · simp only [Bool.eq_false_iff.2 hv, hm, ha, if_true, Bool.not_false, Bool.and_false]
        rw [spec_BusWrite.j0, if_pos rfl]
        rfl
    · simp only [Bool.eq_false_iff.2 ha, hm, if_true, Bool.false_eq_true, if_false, Bool.and_false, Bool.false_and]
      rw [spec_BusWrite.j0, if_pos rfl]
      rfl
  · simp only [Bool.eq_false_iff.2 hm, if_true, Bool.false_eq_true, if_false, Bool.false_and]
    rw [spec_BusWrite.j0, if_pos rfl]
    rfl
theorem machWV_out (ho : out.length ≤ 1048576) (ad v : Int) : (machWV a f b c d e h l sp pc ime hlt rom kind bank ram rb on mode wk hi out cyc ad v).2.2.2.2.2.2.2.2.2.2.2.2.2.2.2.2.2.2.2.2.2.1.length ≤ 1048576 := by
  unfold machWV
  split
  · rename_i hm
    rw [Bool.and_eq_true] at hm
    obtain ⟨_, _, _, h3⟩ := mach_facts a f b c d e h l sp pc rom kind bank ram rb on mode wk hi out cyc hm.1
    unfold machWr mch0
    (repeat' split) <;> simp <;> omega
  · simp [mch0]
end

section
variable (a f b c d e h l sp pc : Int) (ime hlt : Bool) (rom : ByteArray) (kind bank : Int) (ram : ByteArray) (rb : Int) (on : Bool) (mode : Int) (wk hi : ByteArray) (out : List Int) (cyc : Int)
theorem replaced_eq (s : ByteArray) (i v : Int) (h0 : 0 ≤ i) (h1 : i < s.size) : impl_replaced.f s i v = some (setB s i v) := by
  unfold impl_replaced.f setB
  rw [if_pos h0, if_pos h1]
theorem impl_BusWrite_eq (hs : rom.size ≤ maxLen) (ad v : Int) {k : Nat} (hk : 20 ≤ k) :
    impl_BusWrite.f k a f b c d e h l sp pc ime hlt rom kind bank ram rb on mode wk hi out cyc ad v = some (machWV a f b c d e h l sp pc ime hlt rom kind bank ram rb on mode wk hi out cyc ad v) := by
  unfold impl_BusWrite.f machWV
  rw [impl_MachineOk_eq a f b c d e h l sp pc ime hlt rom kind bank ram rb on mode wk hi out cyc hs hk, impl_isWord_eq, impl_isByte_eq]
  simp only [Option.bind_some]
  by_cases hm : machOk a f b c d e h l sp pc rom kind bank ram rb on mode wk hi out cyc = true
  · by_cases ha : inR ad 0 65535 = true
    · by_cases hv : inR v 0 255 = true
      · obtain ⟨hc, h1, h2, h3⟩ := mach_facts a f b c d e h l sp pc rom kind bank ram rb on mode wk hi out cyc hm
        have hA := inR_iff.1 ha
        have hand : Go.bits .and .i64 ad 65535 = ad := by rw [and65535 hA.1 (by omega)]; omega
        have hcl : ∀ q : List Int, q.length ≤ 1000 → slices_Clone_int64_int64.f q = some q := fun q hq => by unfold slices_Clone_int64_int64.f; rw [if_pos (by omega)]
        simp only [hm, ha, hv, if_true, Bool.and_self]
        unfold impl_BusWrite.writeF machWr
        rw [hand]
        simp only [impl_within_eq, Option.bind_some, impl_Cart_written_eq (k := k) (by omega) hc hA (inR_iff.1 hv), hcl out (by omega)]
        by_cases c1 : inR ad 49152 49407 = true
        · have := inR_iff.1 c1
          rw [if_pos c1, if_pos c1, w64 (by omega) (by omega), replaced_eq _ _ _ (by omega) (by omega)]
          simp only [Option.bind_some, if_true, hcl out (by omega)]
        · rw [if_neg c1, if_neg c1]
          by_cases c2 : inR ad 65408 65534 = true
          · have := inR_iff.1 c2
            rw [if_pos c2, if_pos c2, w64 (by omega) (by omega), replaced_eq _ _ _ (by omega) (by omega)]
            simp only [Option.bind_some, if_true, hcl out (by omega)]
          · rw [if_neg c2, if_neg c2]
            by_cases c3 : ad = 65281
            · rw [if_pos c3, if_pos c3]
              by_cases c4 : (out.length : Int) = 100
              · rw [if_pos c4, if_pos c4]
                rfl
              · rw [if_neg c4, if_neg c4, if_pos (by omega)]
                simp only [Option.bind_some, if_true, hcl (out ++ [v]) (by simp; omega)]
            · rw [if_neg c3, if_neg c3]
              simp only [Option.bind_some, if_true, hcl out (by omega)]
      · simp only [Bool.eq_false_iff.2 hv, hm, ha, if_true, Bool.and_false, Bool.false_eq_true, if_false]
        rfl
    · simp only [Bool.eq_false_iff.2 ha, hm, if_true, Bool.false_eq_true, if_false, Bool.and_false, Bool.false_and]
      rfl
  · simp only [Bool.eq_false_iff.2 hm, if_true, Bool.false_eq_true, if_false, Bool.false_and]
    rfl
end

--NEEDS laws_heldInt64S
theorem laws_markInt64S_l0 : ∀ (n k i : Nat) (m : Int) (y : List Int), i + n = y.length → y.length ≤ 1048576 → n < k → 0 ≤ m → m + n ≤ 4000000 →
    ∃ z, laws_markInt64S.l0 k y m (i : Int) = some (m + n, z) ∧ z.length = y.length ∧ (∀ j, j < i → z.getD j 0 = y.getD j 0) ∧ ∀ j, i ≤ j → j < y.length → z.getD j 0 = m + ((j : Int) - i) := by
  intro n
  induction n with
  | zero =>
    intro k i m y hi hl hk h0 h1
    obtain ⟨k, rfl⟩ : ∃ m, k = m + 1 := ⟨k - 1, by omega⟩
    refine ⟨y, ?_, rfl, fun _ _ => rfl, fun j h2 h3 => by omega⟩
    simp only [laws_markInt64S.l0]
    rw [if_neg (by omega)]
    simp
  | succ n ih =>
    intro k i m y hi hl hk h0 h1
    obtain ⟨k, rfl⟩ : ∃ m, k = m + 1 := ⟨k - 1, by omega⟩
    obtain ⟨z, hz, h3, h4, h5⟩ := ih k (i + 1) (m + 1) (y.set i m) (by simp; omega) (by simpa using hl) (by omega) (by omega) (by omega)
    refine ⟨z, ?_, by simpa using h3, fun j hj => ?_, fun j hj hj2 => ?_⟩
    · simp only [laws_markInt64S.l0]
      rw [if_pos (by omega), if_pos (by omega), w64 (n := m + 1) (by omega) (by omega), up1 (by omega : i < y.length) (by omega), Int.toNat_natCast, hz]
      congr 2
      omega
    · rw [h4 j (by omega), List.getD_eq_getElem?_getD, List.getD_eq_getElem?_getD, List.getElem?_set_ne (by omega)]
    · by_cases e : j = i
      · rw [e, h4 i (by omega), List.getD_eq_getElem?_getD, List.getElem?_set_self (by omega)]
        simp
      · rw [h5 j (by omega) (by simpa using hj2)]
        omega
theorem laws_heldInt64S_l0 : ∀ (n k i : Nat) (m : Int) (z : List Int), i + n = z.length → z.length ≤ 1048576 → n < k → 0 ≤ m → m + n ≤ 4000000 → (∀ j, i ≤ j → j < z.length → z.getD j 0 = m + ((j : Int) - i)) →
    laws_heldInt64S.l0 k z m (i : Int) = some (m + n) := by
  intro n
  induction n with
  | zero =>
    intro k i m z hi hl hk h0 h1 h2
    obtain ⟨k, rfl⟩ : ∃ m, k = m + 1 := ⟨k - 1, by omega⟩
    simp only [laws_heldInt64S.l0]
    rw [if_neg (by omega)]
    simp
  | succ n ih =>
    intro k i m z hi hl hk h0 h1 h2
    obtain ⟨k, rfl⟩ : ∃ m, k = m + 1 := ⟨k - 1, by omega⟩
    have hr : rd z (i : Int) = m := by
      unfold rd
      rw [Int.toNat_natCast, h2 i (Nat.le_refl _) (by omega)]
      omega
    simp only [laws_heldInt64S.l0]
    rw [if_pos (by omega), if_pos (by omega), if_pos hr, w64 (n := m + 1) (by omega) (by omega), up1 (by omega : i < z.length) (by omega), ih k (i + 1) (m + 1) z (by omega) hl (by omega) (by omega) (by omega) (fun j hj hj2 => by rw [h2 j (by omega) hj2]; omega)]
    congr 1
    omega
theorem laws_markHeld (l : List Int) (hl : l.length ≤ 1048576) {k : Nat} (hk : 1048578 ≤ k) : ∃ z, laws_markInt64S.f k l 1 = some (1 + (l.length : Int), z) ∧ z.length = l.length ∧ ∀ k', 1048578 ≤ k' → laws_heldInt64S.f k' z 1 = some (1 + (l.length : Int)) := by
  obtain ⟨z, h1, h2, _, h3⟩ := laws_markInt64S_l0 l.length k 0 1 l (by omega) hl (by omega) (by omega) (by omega)
  refine ⟨z, h1, h2, fun k' hk' => ?_⟩
  have := laws_heldInt64S_l0 z.length k' 0 1 z (by omega) (by omega) (by omega) (by omega) (by omega) (fun j hj hj2 => h3 j hj (by omega))
  rw [h2] at this
  exact this

theorem FnExactBusWrite (a f b c d e h l sp pc : Int) (ime hlt : Bool) (rom : ByteArray) (kind bank : Int) (ram : ByteArray) (rb : Int) (on : Bool) (mode : Int) (wk hi : ByteArray) (out : List Int) (cyc ad v : Int)
    (_ : (Lit.int .i64 a).wf = true) (_ : (Lit.int .i64 f).wf = true) (_ : (Lit.int .i64 b).wf = true) (_ : (Lit.int .i64 c).wf = true) (_ : (Lit.int .i64 d).wf = true) (_ : (Lit.int .i64 e).wf = true) (_ : (Lit.int .i64 h).wf = true) (_ : (Lit.int .i64 l).wf = true) (_ : (Lit.int .i64 sp).wf = true) (_ : (Lit.int .i64 pc).wf = true)
    (h1 : rom.size ≤ maxLen) (_ : (Lit.int .i64 kind).wf = true) (_ : (Lit.int .i64 bank).wf = true) (h2 : ram.size ≤ maxLen) (_ : (Lit.int .i64 rb).wf = true) (_ : (Lit.int .i64 mode).wf = true) (h3 : wk.size ≤ maxLen) (h4 : hi.size ≤ maxLen) (h5 : out.length ≤ maxLen ∧ ∀ x ∈ out, (Lit.int .i64 x).wf = true) (_ : (Lit.int .i64 cyc).wf = true) (_ : (Lit.int .i64 ad).wf = true) (_ : (Lit.int .i64 v).wf = true) :
    ∃ k, laws_FnExactBusWrite.f k a f b c d e h l sp pc ime hlt rom kind bank ram rb on mode wk hi out cyc ad v = some true := by
  obtain ⟨K, hK⟩ : ∃ K : Nat, 1100000 ≤ K := ⟨_, Nat.le_refl _⟩
  refine ⟨K + 3, ?_⟩
  unfold laws_FnExactBusWrite.f
  obtain ⟨t, ht, hlen⟩ := laws_szMachine_some a f b c d e h l sp pc ime hlt rom kind bank ram rb on mode wk hi out cyc h1 h2 h3 h4 h5.1
  rw [ht]
  simp only [Option.bind_some]
  by_cases hc : t < 0
  · rw [if_pos hc]
  · rw [if_neg hc]
    obtain ⟨_, _, _, _, ho⟩ := hlen (by omega)
    have hT := fun (k : Nat) hk => laws_toMachine_eq a f b c d e h l sp pc ime hlt rom kind bank ram rb on mode wk hi out cyc ho (k := k) hk
    have hE := fun (k : Nat) hk => laws_eqMachine_same a f b c d e h l sp pc ime hlt rom kind bank ram rb on mode wk hi out cyc ho (k := k) hk
    have hS := fun (k : Nat) hk => spec_BusWrite_eq a f b c d e h l sp pc ime hlt rom kind bank ram rb on mode wk hi out cyc h1 ho ad v (k := k) hk
    have hI := fun (k : Nat) hk => impl_BusWrite_eq a f b c d e h l sp pc ime hlt rom kind bank ram rb on mode wk hi out cyc h1 ad v (k := k) hk
    have hO := machWV_out a f b c d e h l sp pc ime hlt rom kind bank ram rb on mode wk hi out cyc ho ad v
    generalize machWV a f b c d e h l sp pc ime hlt rom kind bank ram rb on mode wk hi out cyc ad v = M at hS hI hO
    obtain ⟨a', f', b', c', d', e', h', l', sp', pc', ime', hlt', rom', kind', bank', ram', rb', on', mode', wk', hi', out', cyc', ok'⟩ := M
    have hE' := fun (k : Nat) hk => laws_eqMachine_same a' f' b' c' d' e' h' l' sp' pc' ime' hlt' rom' kind' bank' ram' rb' on' mode' wk' hi' out' cyc' hO (k := k) hk
    obtain ⟨z1, m1, n1, g1⟩ := laws_markHeld out ho (k := K + 2) (by omega)
    obtain ⟨z2, m2, n2, g2⟩ := laws_markHeld out' hO (k := K + 1) (by omega)
    have hM1 : laws_markMachine.f (K + 2) a f b c d e h l sp pc ime hlt rom kind bank ram rb on mode wk hi out cyc 1 = some (1 + (out.length : Int), z1) := by
      unfold laws_markMachine.f
      rw [m1]
      rfl
    have hM2 : laws_markMachine.f (K + 1) a' f' b' c' d' e' h' l' sp' pc' ime' hlt' rom' kind' bank' ram' rb' on' mode' wk' hi' out' cyc' 1 = some (1 + (out'.length : Int), z2) := by
      unfold laws_markMachine.f
      rw [m2]
      rfl
    have hH : ∀ k, 1048578 ≤ k → laws_heldMachine.f k a' f' b' c' d' e' h' l' sp' pc' ime' hlt' rom' kind' bank' ram' rb' on' mode' wk' hi' z2 cyc' 1 = some (1 + (out'.length : Int)) := by
      intro k hk
      unfold laws_heldMachine.f
      rw [g2 k hk]
      simp only [Option.bind_some]
      rw [if_neg (by omega)]
    simp only [hT (K + 3) (by omega), Option.bind_some, hS (K + 3) (by omega), hI (K + 3) (by omega), hE' (K + 3) (by omega), if_true, bne_self_eq_false]
    rw [laws_FnExactBusWrite.j0, if_neg (by decide), hT (K + 2) (by omega)]
    simp only [Option.bind_some, hE (K + 2) (by omega), if_true, hM1]
    rw [if_neg (by omega), hE' (K + 2) (by omega)]
    simp only [Option.bind_some, if_true, bne_self_eq_false]
    rw [laws_FnExactBusWrite.j1, if_neg (by decide), hM2]
    simp only [Option.bind_some]
    rw [hH (K + 1) (by omega)]
    simp only [Option.bind_some]
    rw [if_neg (by omega), if_pos trivial, hT (K + 1) (by omega)]
    simp only [Option.bind_some, hI (K + 1) (by omega), hE' (K + 1) (by omega), if_true, bne_self_eq_false]
    rw [laws_FnExactBusWrite.j2, if_neg (by decide), hH K (by omega)]
    simp only [Option.bind_some]
    rw [if_neg (by omega), if_pos trivial]

end Go.Proofs.Ytmgbdbamfljjnaa.Pure
