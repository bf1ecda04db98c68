/-
The law FnExactMachineNew of the given program returns true for every input; no condition.
-/
import Derived.Test.YtmgbdbamfljjnaaPFnExactMachineNewx5
import Derived.Test.YtmgbdbamfljjnaaAidA
import Derived.Test.YtmgbdbamfljjnaaAidB
import Derived.Test.YtmgbdbamfljjnaaAidC
namespace Go.Proofs.Ytmgbdbamfljjnaa.Pure
open Go.RowKit Go.Proofs.Ytmgbdbamfljjnaa.Aid Go.Proofs.Ytmgbdbamfljjnaa.PFnExactMachineNew Go.Proofs.YtmgbdbamfljjnaaW.PrintWords Go.Proofs.YtmgbdbamfljjnaaW.PrintLast Go.Proofs.YtmgbdbamfljjnaaW.PrintMore
set_option linter.unusedVariables false
set_option linter.unusedSimpArgs false

theorem spec_l1In_eq (a b c : Int) : spec_l1In.f a b c = some (inR a b c) := by
  unfold spec_l1In.f inR
  by_cases h : a ≥ b
  · rw [if_pos h, decide_eq_true (show b ≤ a from h)]
    rfl
  · rw [if_neg h, decide_eq_false (show ¬ b ≤ a from h)]
    rfl

theorem impl_within_eq (a b c : Int) : impl_within.f a b c = some (inR a b c) := by
  unfold impl_within.f inR
  by_cases h : a ≥ b
  · rw [if_pos h, decide_eq_true (show b ≤ a from h)]
    rfl
  · rw [if_neg h, decide_eq_false (show ¬ b ≤ a from h)]
    rfl

theorem impl_isByte_eq (a : Int) : impl_isByte.f a = some (inR a 0 255) := by
  unfold impl_isByte.f
  rw [impl_within_eq]
  rfl

theorem spec_l5Banks_eq {rom : ByteArray} (hs : rom.size ≤ maxLen) : spec_l5Banks.f rom = some (if romOk rom = true then (rom.size : Int) / 256 else 0) := by
  unfold maxLen at hs
  unfold spec_l5Banks.f romOk
  rw [spec_l1In_eq, w64 (by omega) (by omega)]
  by_cases h1 : (rom.size : Int) % 256 = 0
  · rw [if_pos h1, decide_eq_true h1]
    cases inR ((rom.size : Int) / 256) 2 16 <;> rfl
  · rw [if_neg h1, decide_eq_false h1]
    rfl

theorem spec_CartOk_eq (k : Nat) {rom : ByteArray} (hs : rom.size ≤ maxLen) (kind bank : Int) (ram : ByteArray) (rb : Int) (on : Bool) (mode : Int) : spec_CartOk.f (k + 1) rom kind bank ram rb on mode = some (cartOk rom kind bank ram rb on mode) := by
  unfold spec_CartOk.f cartOk
  rw [spec_l5Banks_eq hs]
  simp only [Option.bind_some, spec_CartOk.j0, spec_l1In_eq]
  by_cases h1 : romOk rom = true
  · have h2 := romOk_iff.1 h1
    rw [if_pos h1, h1, if_neg (by omega)]
    by_cases h3 : (ram.size : Int) = 256
    · by_cases k0 : kind = 0
      · by_cases b1 : bank = 1
        · by_cases b2 : rb = 0
          · cases on <;> simp [h3, k0, b1, b2]
          · simp [h3, k0, b1, b2]
        · simp [h3, k0, b1]
      · by_cases k1 : kind = 1
        · cases inR bank 1 31 <;> cases inR rb 0 3 <;> simp [h3, k0, k1]
        · by_cases k2 : kind = 2
          · cases inR bank 0 255 <;> cases inR rb 0 3 <;> simp [h3, k0, k1, k2]
          · simp [h3, k0, k1, k2]
    · simp [h3]
  · simp [h1]

theorem impl_CartOk_eq (k : Nat) {rom : ByteArray} (hs : rom.size ≤ maxLen) (kind bank : Int) (ram : ByteArray) (rb : Int) (on : Bool) (mode : Int) : impl_CartOk.f (k + 1) rom kind bank ram rb on mode = some (cartOk rom kind bank ram rb on mode) := by
  unfold maxLen at hs
  unfold impl_CartOk.f cartOk romOk
  rw [w64 (by omega) (by omega)]
  simp only [Option.bind_some, impl_CartOk.j0, impl_within_eq, impl_isByte_eq]
  by_cases h0 : (rom.size : Int) % 256 = 0
  · by_cases h1 : inR ((rom.size : Int) / 256) 2 16 = true
    · rw [if_pos h0, h1]
      by_cases h3 : (ram.size : Int) = 256
      · by_cases k0 : kind = 0
        · by_cases b1 : bank = 1
          · by_cases b2 : rb = 0
            · by_cases b3 : mode = 0
              · cases on <;> simp [h0, h3, k0, b1, b2, b3]
              · cases on <;> simp [h0, h3, k0, b1, b2, b3]
            · simp [h0, h3, k0, b1, b2]
          · simp [h0, h3, k0, b1]
        · by_cases k1 : kind = 1
          · cases inR bank 1 31 <;> cases inR rb 0 3 <;> simp [h0, h3, k0, k1]
          · by_cases k2 : kind = 2
            · cases inR bank 0 255 <;> cases inR rb 0 3 <;> simp [h0, h3, k0, k1, k2]
            · simp [h0, h3, k0, k1, k2]
      · simp [h0, h3]
    · simp [h0, h1]
  · simp [h0]

theorem laws_eqCart_same (rom : ByteArray) (kind bank : Int) (ram : ByteArray) (rb : Int) (on : Bool) (mode : Int) : laws_eqCart.f rom kind bank ram rb on mode rom kind bank ram rb on mode = some true := by
  unfold laws_eqCart.f
  simp

theorem laws_eqInt64S_l0 (l : List Int) (hl : l.length ≤ 1048576) : ∀ (n k i : Nat), i + n = l.length → n < k → laws_eqInt64S.l0 k l l (i : Int) = some true := by
  intro n
  induction n with
  | zero =>
    intro k i hi hk
    obtain ⟨k, rfl⟩ : ∃ m, k = m + 1 := ⟨k - 1, by omega⟩
    simp only [laws_eqInt64S.l0]
    rw [if_neg (by omega)]
  | succ n ih =>
    intro k i hi hk
    obtain ⟨k, rfl⟩ : ∃ m, k = m + 1 := ⟨k - 1, by omega⟩
    simp only [laws_eqInt64S.l0]
    rw [if_pos (by omega), if_pos (by omega), if_pos (by omega), if_pos trivial, up1 (by omega : i < l.length) (by omega)]
    exact ih k (i + 1) (by omega) (by omega)
theorem laws_eqInt64S_same (l : List Int) (hl : l.length ≤ 1048576) {k : Nat} (hk : 1048578 ≤ k) : laws_eqInt64S.f k l l = some true := by
  unfold laws_eqInt64S.f
  rw [if_pos rfl]
  exact laws_eqInt64S_l0 l hl l.length k 0 (by omega) (by omega)

theorem laws_eqMachine_same (a f b c d e h l sp pc : Int) (ime hlt : Bool) (rom : ByteArray) (kind bank : Int) (ram : ByteArray) (rb : Int) (on : Bool) (mode : Int) (wk hi : ByteArray) (out : List Int) (cyc : Int) (ho : out.length ≤ 1048576) {k : Nat} (hk : 1048578 ≤ k) :
    laws_eqMachine.f k a f b c d e h l sp pc ime hlt rom kind bank ram rb on mode wk hi out cyc a f b c d e h l sp pc ime hlt rom kind bank ram rb on mode wk hi out cyc = some true := by
  unfold laws_eqMachine.f laws_eqCpu.f
  simp only [laws_eqCart_same, laws_eqInt64S_same out ho hk, if_true, Option.bind_some, bne_self_eq_false, Bool.false_eq_true, if_false]

def ram0 : ByteArray := strOfNums (List.replicate 256 0 : List Int)
theorem spec_CartNew_eq {k : Nat} (hk : 1 ≤ k) {rom : ByteArray} (hs : rom.size ≤ maxLen) (kind : Int) :
    spec_CartNew.f k rom kind = some (if cartOk rom kind 1 ram0 0 false 0 = true then (rom, kind, 1, ram0, 0, false, 0, true) else ((⟨#[]⟩ : ByteArray), 0, 0, (⟨#[]⟩ : ByteArray), 0, false, 0, false)) := by
  obtain ⟨k, rfl⟩ : ∃ m, k = m + 1 := ⟨k - 1, by omega⟩
  unfold spec_CartNew.f
  rw [if_pos (by decide)]
  simp only [Option.bind_some, spec_CartOk_eq k hs]
  rw [show strOfNums (List.replicate 256 0 : List Int) = ram0 from rfl]
  split <;> rfl

theorem impl_noughts_eq (n : Nat) (h : n ≤ 1048576) : impl_noughts.f (n : Int) = some ⟨(Go.Lib.repeatL [0] n).toArray⟩ := by
  unfold impl_noughts.f strings_Repeat.f
  rw [if_pos (by omega), if_pos (by omega), if_pos (by rw [Int.toNat_natCast]; show 1 * n ≤ _; omega)]
  rfl

theorem impl_CartNew_eq {k : Nat} (hk : 1 ≤ k) {rom : ByteArray} (hs : rom.size ≤ maxLen) (kind : Int) :
    impl_CartNew.f k rom kind = some (if cartOk rom kind 1 ram0 0 false 0 = true then (rom, kind, 1, ram0, 0, false, 0, true) else ((⟨#[]⟩ : ByteArray), 0, 0, (⟨#[]⟩ : ByteArray), 0, false, 0, false)) := by
  obtain ⟨k, rfl⟩ : ∃ m, k = m + 1 := ⟨k - 1, by omega⟩
  unfold impl_CartNew.f
  have h := impl_noughts_eq 256 (by decide)
  rw [show ((256 : Nat) : Int) = 256 from rfl, show (⟨(Go.Lib.repeatL [0] 256).toArray⟩ : ByteArray) = ram0 from by decide +kernel] at h
  rw [h]
  simp only [Option.bind_some, impl_CartOk_eq k hs]
  split <;> rfl

theorem laws_markMachine_nil (a f b c d e h l sp pc : Int) (ime hlt : Bool) (rom : ByteArray) (kind bank : Int) (ram : ByteArray) (rb : Int) (on : Bool) (mode : Int) (wk hi : ByteArray) (cyc m : Int) (k : Nat) :
    laws_markMachine.f (k + 1) a f b c d e h l sp pc ime hlt rom kind bank ram rb on mode wk hi [] cyc m = some (m, []) := by
  unfold laws_markMachine.f laws_markInt64S.f
  rw [laws_markInt64S.l0, if_neg (by simp)]
  rfl

theorem laws_heldMachine_nil (a f b c d e h l sp pc : Int) (ime hlt : Bool) (rom : ByteArray) (kind bank : Int) (ram : ByteArray) (rb : Int) (on : Bool) (mode : Int) (wk hi : ByteArray) (cyc m : Int) (hm : 0 ≤ m) (k : Nat) :
    laws_heldMachine.f (k + 1) a f b c d e h l sp pc ime hlt rom kind bank ram rb on mode wk hi [] cyc m = some m := by
  unfold laws_heldMachine.f laws_heldInt64S.f
  rw [laws_heldInt64S.l0, if_neg (by simp)]
  simp only [Option.bind_some]
  rw [if_neg (by omega)]

abbrev Mch := Int × Int × Int × Int × Int × Int × Int × Int × Int × Int × Bool × Bool × ByteArray × Int × Int × ByteArray × Int × Bool × Int × ByteArray × ByteArray × List Int × Int × Bool
def zerosB (n : Nat) : ByteArray := ⟨(Go.Lib.repeatL [0] n).toArray⟩
def machNew (rom : ByteArray) (kind : Int) : Mch :=
  if cartOk rom kind 1 ram0 0 false 0 = true then (0, 0, 0, 0, 0, 0, 0, 0, 65534, 0, false, false, rom, kind, 1, ram0, 0, false, 0, zerosB 256, zerosB 127, [], 0, true)
  else (0, 0, 0, 0, 0, 0, 0, 0, 0, 0, false, false, ⟨#[]⟩, 0, 0, ⟨#[]⟩, 0, false, 0, ⟨#[]⟩, ⟨#[]⟩, [], 0, false)
theorem zeros256 : strOfNums (List.replicate 256 0) = zerosB 256 := by kernel_rfl
theorem zeros127 : strOfNums (List.replicate 127 0) = zerosB 127 := by kernel_rfl
theorem spec_MachineNew_eq {k : Nat} (hk : 1 ≤ k) {rom : ByteArray} (hs : rom.size ≤ maxLen) (kind : Int) : spec_MachineNew.f k rom kind = some (machNew rom kind) := by
  unfold spec_MachineNew.f machNew
  rw [spec_CartNew_eq hk hs, zeros256, zeros127]
  simp only [Option.bind_some]
  by_cases c : cartOk rom kind 1 ram0 0 false 0 = true
  · rw [if_pos c, if_pos c]
    simp
  · rw [if_neg c, if_neg c]
    simp

theorem impl_MachineNew_eq {k : Nat} (hk : 1 ≤ k) {rom : ByteArray} (hs : rom.size ≤ maxLen) (kind : Int) : impl_MachineNew.f k rom kind = some (machNew rom kind) := by
  have h1 : impl_noughts.f 256 = some (zerosB 256) := impl_noughts_eq 256 (by decide)
  have h2 : impl_noughts.f 127 = some (zerosB 127) := impl_noughts_eq 127 (by decide)
  unfold impl_MachineNew.f machNew
  rw [impl_CartNew_eq hk hs, h1, h2]
  simp only [Option.bind_some]
  by_cases c : cartOk rom kind 1 ram0 0 false 0 = true
  · rw [if_pos c, if_pos c]
    simp
  · rw [if_neg c, if_neg c]
    simp

theorem FnExactMachineNew : laws_FnExactMachineNew.Pure := by
  intro rom kind hs _
  have hs' : rom.size ≤ maxLen := by unfold maxLen; omega
  obtain ⟨K, hK⟩ : ∃ K : Nat, 1100000 ≤ K := ⟨_, Nat.le_refl _⟩
  have same : ∀ (k : Nat) (x : Mch), x.2.2.2.2.2.2.2.2.2.2.2.2.2.2.2.2.2.2.2.2.2.1 = [] → 1100000 ≤ k → laws_eqMachine.f k x.1 x.2.1 x.2.2.1 x.2.2.2.1 x.2.2.2.2.1 x.2.2.2.2.2.1 x.2.2.2.2.2.2.1 x.2.2.2.2.2.2.2.1 x.2.2.2.2.2.2.2.2.1 x.2.2.2.2.2.2.2.2.2.1 x.2.2.2.2.2.2.2.2.2.2.1 x.2.2.2.2.2.2.2.2.2.2.2.1 x.2.2.2.2.2.2.2.2.2.2.2.2.1 x.2.2.2.2.2.2.2.2.2.2.2.2.2.1 x.2.2.2.2.2.2.2.2.2.2.2.2.2.2.1 x.2.2.2.2.2.2.2.2.2.2.2.2.2.2.2.1 x.2.2.2.2.2.2.2.2.2.2.2.2.2.2.2.2.1 x.2.2.2.2.2.2.2.2.2.2.2.2.2.2.2.2.2.1 x.2.2.2.2.2.2.2.2.2.2.2.2.2.2.2.2.2.2.1 x.2.2.2.2.2.2.2.2.2.2.2.2.2.2.2.2.2.2.2.1 x.2.2.2.2.2.2.2.2.2.2.2.2.2.2.2.2.2.2.2.2.1 x.2.2.2.2.2.2.2.2.2.2.2.2.2.2.2.2.2.2.2.2.2.1 x.2.2.2.2.2.2.2.2.2.2.2.2.2.2.2.2.2.2.2.2.2.2.1 x.1 x.2.1 x.2.2.1 x.2.2.2.1 x.2.2.2.2.1 x.2.2.2.2.2.1 x.2.2.2.2.2.2.1 x.2.2.2.2.2.2.2.1 x.2.2.2.2.2.2.2.2.1 x.2.2.2.2.2.2.2.2.2.1 x.2.2.2.2.2.2.2.2.2.2.1 x.2.2.2.2.2.2.2.2.2.2.2.1 x.2.2.2.2.2.2.2.2.2.2.2.2.1 x.2.2.2.2.2.2.2.2.2.2.2.2.2.1 x.2.2.2.2.2.2.2.2.2.2.2.2.2.2.1 x.2.2.2.2.2.2.2.2.2.2.2.2.2.2.2.1 x.2.2.2.2.2.2.2.2.2.2.2.2.2.2.2.2.1 x.2.2.2.2.2.2.2.2.2.2.2.2.2.2.2.2.2.1 x.2.2.2.2.2.2.2.2.2.2.2.2.2.2.2.2.2.2.1 x.2.2.2.2.2.2.2.2.2.2.2.2.2.2.2.2.2.2.2.1 x.2.2.2.2.2.2.2.2.2.2.2.2.2.2.2.2.2.2.2.2.1 x.2.2.2.2.2.2.2.2.2.2.2.2.2.2.2.2.2.2.2.2.2.1 x.2.2.2.2.2.2.2.2.2.2.2.2.2.2.2.2.2.2.2.2.2.2.1 = some true := by
    intro k x hx hk
    rw [hx]
    exact laws_eqMachine_same _ _ _ _ _ _ _ _ _ _ _ _ _ _ _ _ _ _ _ _ _ [] _ (by simp) (by omega)
  have hnil : (machNew rom kind).2.2.2.2.2.2.2.2.2.2.2.2.2.2.2.2.2.2.2.2.2.1 = [] := by
    unfold machNew
    split <;> rfl
  refine ⟨K + 3, ?_⟩
  unfold laws_FnExactMachineNew.f
  by_cases hb : (rom.size : Int) > 1048576
  · rw [if_pos hb]
  · rw [if_neg hb, spec_MachineNew_eq (by omega) hs', impl_MachineNew_eq (by omega) hs']
    simp only [Option.bind_some]
    generalize hx : machNew rom kind = x at hnil
    have hE := fun k hk => same k x hnil hk
    rw [hE (K + 3) (by omega)]
    simp only [Option.bind_some, if_true, bne_self_eq_false, hnil]
    rw [laws_FnExactMachineNew.j0, if_neg (by decide), laws_markMachine_nil]
    simp only [Option.bind_some]
    rw [laws_heldMachine_nil _ _ _ _ _ _ _ _ _ _ _ _ _ _ _ _ _ _ _ _ _ _ _ (by decide)]
    simp only [Option.bind_some]
    rw [if_neg (by decide), impl_MachineNew_eq (by omega) hs', hx]
    rw [hnil] at hE
    simp only [Option.bind_some, hnil, if_true, hE (K + 2) (by omega), bne_self_eq_false]
    rw [laws_FnExactMachineNew.j1, if_neg (by decide), laws_heldMachine_nil _ _ _ _ _ _ _ _ _ _ _ _ _ _ _ _ _ _ _ _ _ _ _ (by decide)]
    simp

end Go.Proofs.Ytmgbdbamfljjnaa.Pure
