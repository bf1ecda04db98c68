/-
What the functions compute, in plain Lean, with no program in sight.
-/
import Derived.Test.YtmgbdbamfljjnaaAidA
namespace Go.Proofs.Ytmgbdbamfljjnaa.Aid
open Go.RowKit Go.Proofs.YtmgbdbamfljjnaaW.PrintWords Go.Proofs.YtmgbdbamfljjnaaW.PrintLast Go.Proofs.YtmgbdbamfljjnaaW.PrintMore
set_option linter.unusedVariables false

/-! carts -/
def romOk (rom : ByteArray) : Bool := decide ((rom.size : Int) % 256 = 0) && inR ((rom.size : Int) / 256) 2 16
def cartOk (rom : ByteArray) (kind bank : Int) (ram : ByteArray) (rb : Int) (on : Bool) (mode : Int) : Bool :=
  romOk rom && (((ram.size : Int) == 256) && (if kind = 0 then (bank == 1 && (rb == 0 && (!on && mode == 0))) else if kind = 1 then (inR bank 1 31 && (inR rb 0 3 && inR mode 0 1))
    else if kind = 2 then (inR bank 0 255 && (inR rb 0 3 && mode == 0)) else false))
theorem romOk_iff {rom : ByteArray} : romOk rom = true ↔ (rom.size : Int) % 256 = 0 ∧ 2 ≤ (rom.size : Int) / 256 ∧ (rom.size : Int) / 256 ≤ 16 := by simp [romOk, inR]
theorem cartOk_facts {rom : ByteArray} {kind bank : Int} {ram : ByteArray} {rb : Int} {on : Bool} {mode : Int} (h : cartOk rom kind bank ram rb on mode = true) :
    ((rom.size : Int) % 256 = 0 ∧ 2 ≤ (rom.size : Int) / 256 ∧ (rom.size : Int) / 256 ≤ 16) ∧ (ram.size : Int) = 256 ∧ (0 ≤ bank ∧ bank ≤ 255) ∧ (0 ≤ rb ∧ rb ≤ 3) ∧ (0 ≤ mode ∧ mode ≤ 1) ∧ (0 ≤ kind ∧ kind ≤ 2) := by
  simp only [cartOk, Bool.and_eq_true, beq_iff_eq] at h
  obtain ⟨h1, h2, h3⟩ := h
  refine ⟨romOk_iff.1 h1, h2, ?_⟩
  by_cases k0 : kind = 0
  · rw [if_pos k0] at h3
    simp at h3
    omega
  · by_cases k1 : kind = 1
    · rw [if_neg k0, if_pos k1] at h3
      simp [inR] at h3
      omega
    · by_cases k2 : kind = 2
      · rw [if_neg k0, if_neg k1, if_pos k2] at h3
        simp [inR] at h3
        omega
      · rw [if_neg k0, if_neg k1, if_neg k2] at h3
        simp at h3
def ramBank (kind rb mode : Int) : Int := if kind = 1 then (if mode = 0 then 0 else rb) else rb
theorem ramBank_in {kind rb mode : Int} (h0 : 0 ≤ rb) (h1 : rb ≤ 3) : 0 ≤ ramBank kind rb mode ∧ ramBank kind rb mode ≤ 3 := by
  unfold ramBank
  split
  · split <;> omega
  · omega
def mappedOf (rom : ByteArray) (bank : Int) : Int := bank % ((rom.size : Int) / 256)
theorem mappedOf_in {rom : ByteArray} {bank : Int} (h : 2 ≤ (rom.size : Int) / 256) : 0 ≤ mappedOf rom bank ∧ mappedOf rom bank < (rom.size : Int) / 256 :=
  ⟨Int.emod_nonneg _ (by omega), Int.emod_lt_of_pos _ (by omega)⟩
def cartRead (rom : ByteArray) (kind bank : Int) (ram : ByteArray) (rb : Int) (on : Bool) (mode addr : Int) : Int :=
  if addr < 256 then bt rom addr else if addr < 512 then bt rom (mappedOf rom bank * 256 + addr - 256)
  else if (on && inR addr 40960 41023) = true then bt ram (ramBank kind rb mode * 64 + addr - 40960) else 255
theorem wbt (s : ByteArray) (i : Int) : wrap64 (bt s i) = bt s i := by
  have h0 := bt_nonneg s i
  have h1 := bt_le s i
  exact w64 (by omega) (by omega)

end Go.Proofs.Ytmgbdbamfljjnaa.Aid
