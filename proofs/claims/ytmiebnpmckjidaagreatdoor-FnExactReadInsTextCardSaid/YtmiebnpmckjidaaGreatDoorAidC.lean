/-
Lists by index, and right expressions, in plain Lean, with no program in sight.
-/
import Derived.Test.YtmiebnpmckjidaaGreatDoorAidB
import Derived.Lib.Bytealg
import Derived.Lib.Strings
namespace Go.Proofs.YtmiebnpmckjidaaGreatDoor.Aid
open Go.RowKit Go.Proofs.YtmiebnpmckjidaaGreatDoorW.PrintWords Go.Proofs.YtmiebnpmckjidaaGreatDoorW.PrintLast Go.Proofs.YtmiebnpmckjidaaGreatDoorW.PrintMore
set_option linter.unusedVariables false

theorem up1 {i n : Nat} (h : i < n) (hn : n ≤ 4611686018427387904) : wrap64 ((i : Int) + 1) = ((i + 1 : Nat) : Int) := by
  rw [w64 (by omega) (by omega)]
  omega
theorem toList_inj {a b : ByteArray} (h : a.toList = b.toList) : a = b := by
  rw [ByteArray.toList_eq, ByteArray.toList_eq] at h
  cases a
  cases b
  simp at h
  rw [h]

/-! right expressions -/
/-! numbers as texts -/
def dig (c : Int) : Int := if inR c 48 57 = true then c - 48 else if inR c 65 70 = true then c - 55 else 99
theorem dig_nonneg {c : Int} : 0 ≤ dig c ∧ dig c ≤ 99 := by
  unfold dig
  by_cases h1 : 48 ≤ c ∧ c ≤ 57
  · rw [inR_pos h1.1 h1.2]
    simp only [if_true]
    omega
  · rw [inR_neg h1]
    by_cases h2 : 65 ≤ c ∧ c ≤ 70
    · rw [inR_pos h2.1 h2.2]
      simp only [if_true, Bool.false_eq_true, if_false]
      omega
    · rw [inR_neg h2]
      simp
/-- The number of digits of a base, up to 65535. -/
def baseGo (base : Int) (s : ByteArray) : Nat → Nat → Int → Option Int
  | 0, _, acc => some acc
  | n + 1, i, acc => if dig (bt s (i : Int)) ≥ base then none else if acc * base + dig (bt s (i : Int)) > 65535 then none else baseGo base s n (i + 1) (acc * base + dig (bt s (i : Int)))
def baseOf (base : Int) (s : ByteArray) : Option Int := if s.size = 0 then none else baseGo base s s.size 0 0
/-- A word as a text: its number. -/
def numOf (s : ByteArray) : Option Int :=
  if (s.size : Int) > 18 then none else if s.size = 0 then none
  else if bt s 0 = 36 then baseOf 16 (s.extract 1 s.size) else if bt s 0 = 37 then baseOf 2 (s.extract 1 s.size) else baseOf 10 s
def told (o : Option Int) : Int × Bool := (o.getD 0, o.isSome)
theorem size_zero {s : ByteArray} : s.toList = [] ↔ s.size = 0 := by
  rw [ByteArray.toList_eq]
  constructor
  · intro h
    have := congrArg List.length h
    simpa using this
  · intro h
    apply List.eq_nil_of_length_eq_zero
    simpa using h
theorem idx16 {c : Int} (h0 : 0 ≤ c) (h1 : c ≤ 255) : Go.Lib.indexByte [48, 49, 50, 51, 52, 53, 54, 55, 56, 57, 65, 66, 67, 68, 69, 70] c.toNat.toUInt8 = if dig c < 16 then dig c else -1 :=
  of_byte (P := fun c => Go.Lib.indexByte [48, 49, 50, 51, 52, 53, 54, 55, 56, 57, 65, 66, 67, 68, 69, 70] c.toNat.toUInt8 = if dig c < 16 then dig c else -1) (by decide +kernel) h0 h1
theorem idx2 {c : Int} (h0 : 0 ≤ c) (h1 : c ≤ 255) : Go.Lib.indexByte [48, 49] c.toNat.toUInt8 = if dig c < 2 then dig c else -1 :=
  of_byte (P := fun c => Go.Lib.indexByte [48, 49] c.toNat.toUInt8 = if dig c < 2 then dig c else -1) (by decide +kernel) h0 h1
theorem idx10 {c : Int} (h0 : 0 ≤ c) (h1 : c ≤ 255) : Go.Lib.indexByte [48, 49, 50, 51, 52, 53, 54, 55, 56, 57] c.toNat.toUInt8 = if dig c < 10 then dig c else -1 :=
  of_byte (P := fun c => Go.Lib.indexByte [48, 49, 50, 51, 52, 53, 54, 55, 56, 57] c.toNat.toUInt8 = if dig c < 10 then dig c else -1) (by decide +kernel) h0 h1
theorem prefix_one (s : ByteArray) (c : UInt8) (h : 1 ≤ s.size) : ((s.extract 0 1).toList == [c]) = decide (bt s 0 = (c.toNat : Int)) := by
  have e : (s.extract 0 1).toList = [s[0]'(by omega)] := by
    rw [ByteArray.toList_eq]
    obtain ⟨⟨l⟩⟩ := s
    cases l with
    | nil => exact absurd h (by decide)
    | cons b r => simp [ByteArray.data_extract, ByteArray.getElem_eq_getElem_data]
  rw [e, Bool.eq_iff_iff]
  unfold bt
  rw [dif_pos (by simpa using (by omega : 0 < s.size))]
  simp only [beq_iff_eq, List.cons.injEq, and_true, decide_eq_true_eq, Int.toNat_zero]
  constructor
  · intro h
    rw [h]
  · intro h
    exact UInt8.toNat_inj.1 (by omega)

end Go.Proofs.YtmiebnpmckjidaaGreatDoor.Aid
