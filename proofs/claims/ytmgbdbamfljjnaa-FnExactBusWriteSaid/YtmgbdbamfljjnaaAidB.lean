/-
What the functions compute, in plain Lean, with no program in sight.
-/
import Derived.Test.YtmgbdbamfljjnaaAidA
namespace Go.Proofs.Ytmgbdbamfljjnaa.Aid
open Go.RowKit Go.Proofs.YtmgbdbamfljjnaaW.PrintWords Go.Proofs.YtmgbdbamfljjnaaW.PrintLast Go.Proofs.YtmgbdbamfljjnaaW.PrintMore
set_option linter.unusedVariables false

/-! carts -/
def romOk (rom : ByteArray) : Bool := decide ((rom.size : Int) % 256 = 0) && inR ((rom.size : Int) / 256) 2 16
def cartOk (rom : ByteArray) (kind bank : Int) (ram : ByteArray) (rb : Int) (on : Bool) (mode : Int) : Bool :=
  romOk rom && (((ram.size : Int) == 256) && (if kind = 0 then (bank == 1 && (rb == 0 && (!on && mode == 0))) else if kind = 1 then (inR bank 1 31 && (inR rb 0 3 && inR mode 0 1))
    else if kind = 2 then (inR bank 0 255 && (inR rb 0 3 && mode == 0)) else false))
theorem romOk_iff {rom : ByteArray} : romOk rom = true ↔ (rom.size : Int) % 256 = 0 ∧ 2 ≤ (rom.size : Int) / 256 ∧ (rom.size : Int) / 256 ≤ 16 := by simp [romOk, inR]
theorem cartOk_facts {rom : ByteArray} {kind bank : Int} {ram : ByteArray} {rb : Int} {on : Bool} {mode : Int} (h : cartOk rom kind bank ram rb on mode = true) :
    ((rom.size : Int) % 256 = 0 ∧ 2 ≤ (rom.size : Int) / 256 ∧ (rom.size : Int) / 256 ≤ 16) ∧ (ram.size : Int) = 256 ∧ (0 ≤ bank ∧ bank ≤ 255) ∧ (0 ≤ rb ∧ rb ≤ 3) ∧ (0 ≤ mode ∧ mode ≤ 1) ∧ (0 ≤ kind ∧ kind ≤ 2) := by
  simp only [cartOk, Bool.and_eq_true, beq_iff_eq] at h
  obtain ⟨h1, h2, h3⟩ := h
  refine ⟨romOk_iff.1 h1, h2, ?_⟩
  by_cases k0 : kind = 0
  · rw [if_pos k0] at h3
    simp at h3
    omega
  · by_cases k1 : kind = 1
    · rw [if_neg k0, if_pos k1] at h3
      simp [inR] at h3
      omega
    · by_cases k2 : kind = 2
      · rw [if_neg k0, if_neg k1, if_pos k2] at h3
        simp [inR] at h3
        omega
      · rw [if_neg k0, if_neg k1, if_neg k2] at h3
        simp at h3
def ramBank (kind rb mode : Int) : Int := if kind = 1 then (if mode = 0 then 0 else rb) else rb
theorem ramBank_in {kind rb mode : Int} (h0 : 0 ≤ rb) (h1 : rb ≤ 3) : 0 ≤ ramBank kind rb mode ∧ ramBank kind rb mode ≤ 3 := by
  unfold ramBank
  split
  · split <;> omega
  · omega
def setB (s : ByteArray) (i v : Int) : ByteArray := ⟨(s.data.toList.set i.toNat (UInt8.ofNat (v % 256).toNat)).toArray⟩
def cartWrite (rom : ByteArray) (kind bank : Int) (ram : ByteArray) (rb : Int) (on : Bool) (mode addr v : Int) : ByteArray × Int × Int × ByteArray × Int × Bool × Int :=
  if kind = 0 then (rom, kind, bank, ram, rb, on, mode)
  else if addr < 128 then (rom, kind, bank, ram, rb, v % 16 == 10, mode)
  else if addr < 256 then (if kind = 2 then (rom, kind, v, ram, rb, on, mode) else (rom, kind, mx 1 (v % 32), ram, rb, on, mode))
  else if addr < 384 then (rom, kind, bank, ram, v % 4, on, mode)
  else if addr < 512 then (if kind = 1 then (rom, kind, bank, ram, rb, on, v % 2) else (rom, kind, bank, ram, rb, on, mode))
  else if (on && inR addr 40960 41023) = true then (rom, kind, bank, setB ram (ramBank kind rb mode * 64 + addr - 40960) v, rb, on, mode)
  else (rom, kind, bank, ram, rb, on, mode)

end Go.Proofs.Ytmgbdbamfljjnaa.Aid
