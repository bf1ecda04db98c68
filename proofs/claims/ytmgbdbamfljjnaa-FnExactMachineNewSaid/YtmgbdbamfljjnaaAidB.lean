/-
What the functions compute, in plain Lean, with no program in sight.
-/
import Derived.Test.YtmgbdbamfljjnaaAidA
namespace Go.Proofs.Ytmgbdbamfljjnaa.Aid
open Go.RowKit Go.Proofs.YtmgbdbamfljjnaaW.PrintWords Go.Proofs.YtmgbdbamfljjnaaW.PrintLast Go.Proofs.YtmgbdbamfljjnaaW.PrintMore
set_option linter.unusedVariables false

def sgn (b : Int) : Int := if inR b 0 255 = true then (if b > 127 then b - 256 else b) else 0

def isLet (c : Int) : Bool := inR c 97 122 || (c == 95 || c == 46)
def isNam (c : Int) : Bool := isLet c || inR c 48 57
def nameOk (s : ByteArray) : Bool := inR (s.size : Int) 1 16 && (!inR (bt s 0) 48 57 && allB isNam s s.size 0)
theorem isLet_dig {c : Int} (h : isLet c = true) : inR c 48 57 = false := by
  simp [isLet, inR] at *
  omega

def addWords (a b f : Int) : Int × Int :=
  if (inR a 0 65535 && (inR b 0 65535 && inR f 0 255)) = true then
    ((a + b) % 65536, FL (decide (f ≥ 128)) false (decide (a % 4096 + b % 4096 > 4095)) (decide (a + b > 65535)))
  else (0, 0)

def stepped8 (v f : Int) (down : Bool) : Int × Int :=
  if (inR v 0 255 && inR f 0 255) = true then
    (if down = true then ((v + 255) % 256, FL ((v + 255) % 256 == 0) true (v % 16 == 0) (decide (f / 16 % 2 = 1)))
    else ((v + 1) % 256, FL ((v + 1) % 256 == 0) false (v % 16 == 15) (decide (f / 16 % 2 = 1))))
  else (0, 0)

theorem sgn_in (b : Int) : -128 ≤ sgn b ∧ sgn b ≤ 127 := by
  unfold sgn
  by_cases h : 0 ≤ b ∧ b ≤ 255
  · rw [inR_pos h.1 h.2]
    simp only [if_true]
    split <;> omega
  · rw [inR_neg h]
    simp
def addSigned (sp b : Int) : Int × Int :=
  if (inR sp 0 65535 && inR b 0 255) = true then ((sp + sgn b) % 65536, FL false false (decide (sp % 16 + b % 16 > 15)) (decide (sp % 256 + b > 255))) else (0, 0)

def alu (op a b f : Int) : Int × Int :=
  if (inR op 0 7 && (inR a 0 255 && (inR b 0 255 && inR f 0 255))) = true then
    (if op = 0 then ((a + b + 0) % 256, FL ((a + b + 0) % 256 == 0) false (decide (a % 16 + b % 16 + 0 > 15)) (decide (a + b + 0 > 255)))
    else if op = 1 then ((a + b + f / 16 % 2) % 256, FL ((a + b + f / 16 % 2) % 256 == 0) false (decide (a % 16 + b % 16 + f / 16 % 2 > 15)) (decide (a + b + f / 16 % 2 > 255)))
    else if op = 4 then (bits .and .i64 a b, FL (bits .and .i64 a b == 0) false true false)
    else if op = 5 then (bits .xor .i64 a b, FL (a == b) false false false)
    else if op = 6 then (bits .or .i64 a b, FL (bits .or .i64 a b == 0) false false false)
    else if op = 3 then ((a - b - f / 16 % 2) % 256, FL ((a - b - f / 16 % 2) % 256 == 0) true (decide (a % 16 < b % 16 + f / 16 % 2)) (decide (a - b - f / 16 % 2 < 0)))
    else if op = 7 then (a, FL ((a - b - 0) % 256 == 0) true (decide (a % 16 < b % 16 + 0)) (decide (a - b - 0 < 0)))
    else ((a - b - 0) % 256, FL ((a - b - 0) % 256 == 0) true (decide (a % 16 < b % 16 + 0)) (decide (a - b - 0 < 0))))
  else (0, 0)
theorem xor_zero {a b : Int} (ha0 : 0 ≤ a) (ha1 : a ≤ 255) (hb0 : 0 ≤ b) (hb1 : b ≤ 255) : (bits .xor .i64 a b == 0) = (a == b) := by
  obtain ⟨m, rfl⟩ := Int.eq_ofNat_of_zero_le ha0
  obtain ⟨n, rfl⟩ := Int.eq_ofNat_of_zero_le hb0
  have e : bits .xor .i64 (m : Int) (n : Int) = ((m ^^^ n : Nat) : Int) := by
    show IntKind.i64.wrap ((BitVec.ofInt 64 (m : Int) ^^^ BitVec.ofInt 64 (n : Int)).toNat : Int) = _
    have hm : m % 2 ^ 64 = m := Nat.mod_eq_of_lt (by omega)
    have hn : n % 2 ^ 64 = n := Nat.mod_eq_of_lt (by omega)
    simp only [BitVec.ofInt_natCast, BitVec.toNat_xor, BitVec.toNat_ofNat, hm, hn]
    have hl : m ^^^ n < 2 ^ 8 := Nat.xor_lt_two_pow (by omega) (by omega)
    exact wraps_i64 _ (Int.natCast_nonneg _) (by omega)
  rw [e, Bool.eq_iff_iff]
  simp only [beq_iff_eq]
  constructor
  · intro h
    have h0 : m ^^^ n = 0 := by omega
    have : m = n := by
      have h2 := congrArg (· ^^^ n) h0
      simpa [Nat.xor_assoc] using h2
    omega
  · intro h
    have : m = n := by omega
    subst this
    simp

/-! carts -/
def romOk (rom : ByteArray) : Bool := decide ((rom.size : Int) % 256 = 0) && inR ((rom.size : Int) / 256) 2 16
def cartOk (rom : ByteArray) (kind bank : Int) (ram : ByteArray) (rb : Int) (on : Bool) (mode : Int) : Bool :=
  romOk rom && (((ram.size : Int) == 256) && (if kind = 0 then (bank == 1 && (rb == 0 && (!on && mode == 0))) else if kind = 1 then (inR bank 1 31 && (inR rb 0 3 && inR mode 0 1))
    else if kind = 2 then (inR bank 0 255 && (inR rb 0 3 && mode == 0)) else false))
theorem romOk_iff {rom : ByteArray} : romOk rom = true ↔ (rom.size : Int) % 256 = 0 ∧ 2 ≤ (rom.size : Int) / 256 ∧ (rom.size : Int) / 256 ≤ 16 := by simp [romOk, inR]
theorem cartOk_facts {rom : ByteArray} {kind bank : Int} {ram : ByteArray} {rb : Int} {on : Bool} {mode : Int} (h : cartOk rom kind bank ram rb on mode = true) :
    ((rom.size : Int) % 256 = 0 ∧ 2 ≤ (rom.size : Int) / 256 ∧ (rom.size : Int) / 256 ≤ 16) ∧ (ram.size : Int) = 256 ∧ (0 ≤ bank ∧ bank ≤ 255) ∧ (0 ≤ rb ∧ rb ≤ 3) ∧ (0 ≤ mode ∧ mode ≤ 1) ∧ (0 ≤ kind ∧ kind ≤ 2) := by
  simp only [cartOk, Bool.and_eq_true, beq_iff_eq] at h
  obtain ⟨h1, h2, h3⟩ := h
  refine ⟨romOk_iff.1 h1, h2, ?_⟩
  by_cases k0 : kind = 0
  · rw [if_pos k0] at h3
    simp at h3
    omega
  · by_cases k1 : kind = 1
    · rw [if_neg k0, if_pos k1] at h3
      simp [inR] at h3
      omega
    · by_cases k2 : kind = 2
      · rw [if_neg k0, if_neg k1, if_pos k2] at h3
        simp [inR] at h3
        omega
      · rw [if_neg k0, if_neg k1, if_neg k2] at h3
        simp at h3
def ramBank (kind rb mode : Int) : Int := if kind = 1 then (if mode = 0 then 0 else rb) else rb
theorem ramBank_in {kind rb mode : Int} (h0 : 0 ≤ rb) (h1 : rb ≤ 3) : 0 ≤ ramBank kind rb mode ∧ ramBank kind rb mode ≤ 3 := by
  unfold ramBank
  split
  · split <;> omega
  · omega
def mappedOf (rom : ByteArray) (bank : Int) : Int := bank % ((rom.size : Int) / 256)
theorem mappedOf_in {rom : ByteArray} {bank : Int} (h : 2 ≤ (rom.size : Int) / 256) : 0 ≤ mappedOf rom bank ∧ mappedOf rom bank < (rom.size : Int) / 256 :=
  ⟨Int.emod_nonneg _ (by omega), Int.emod_lt_of_pos _ (by omega)⟩
def cartRead (rom : ByteArray) (kind bank : Int) (ram : ByteArray) (rb : Int) (on : Bool) (mode addr : Int) : Int :=
  if addr < 256 then bt rom addr else if addr < 512 then bt rom (mappedOf rom bank * 256 + addr - 256)
  else if (on && inR addr 40960 41023) = true then bt ram (ramBank kind rb mode * 64 + addr - 40960) else 255
theorem wbt (s : ByteArray) (i : Int) : wrap64 (bt s i) = bt s i := by
  have h0 := bt_nonneg s i
  have h1 := bt_le s i
  exact w64 (by omega) (by omega)

def setB (s : ByteArray) (i v : Int) : ByteArray := ⟨(s.data.toList.set i.toNat (UInt8.ofNat (v % 256).toNat)).toArray⟩
def cartWrite (rom : ByteArray) (kind bank : Int) (ram : ByteArray) (rb : Int) (on : Bool) (mode addr v : Int) : ByteArray × Int × Int × ByteArray × Int × Bool × Int :=
  if kind = 0 then (rom, kind, bank, ram, rb, on, mode)
  else if addr < 128 then (rom, kind, bank, ram, rb, v % 16 == 10, mode)
  else if addr < 256 then (if kind = 2 then (rom, kind, v, ram, rb, on, mode) else (rom, kind, mx 1 (v % 32), ram, rb, on, mode))
  else if addr < 384 then (rom, kind, bank, ram, v % 4, on, mode)
  else if addr < 512 then (if kind = 1 then (rom, kind, bank, ram, rb, on, v % 2) else (rom, kind, bank, ram, rb, on, mode))
  else if (on && inR addr 40960 41023) = true then (rom, kind, bank, setB ram (ramBank kind rb mode * 64 + addr - 40960) v, rb, on, mode)
  else (rom, kind, bank, ram, rb, on, mode)

end Go.Proofs.Ytmgbdbamfljjnaa.Aid
