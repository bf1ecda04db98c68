/-
Plain lemmas on whole numbers and bits, with no program in sight.
-/
import Derived.Test.YtmiebnpmckjidaaGreatDoorWMore
import Derived.Test.YtmiebnpmckjidaaGreatDoorWWords
import Derived.Laws.BitsLemmas
namespace Go.Proofs.YtmiebnpmckjidaaGreatDoor.Aid
open Go.RowKit Go.Proofs.YtmiebnpmckjidaaGreatDoorW.PrintWords Go.Proofs.YtmiebnpmckjidaaGreatDoorW.PrintLast Go.Proofs.YtmiebnpmckjidaaGreatDoorW.PrintMore
set_option linter.unusedVariables false

theorem w64 {n : Int} (h0 : -9223372036854775808 ≤ n) (h1 : n ≤ 9223372036854775807) : wrap64 n = n := by
  unfold wrap64
  omega

theorem wraps_i64 (n : Int) (h₀ : 0 ≤ n) (h₁ : n < 2 ^ 63) : IntKind.i64.wrap n = n := by
  rw [IntKind.wrap_i64]
  omega

/-- A number of 64 bits, below 0 too: the low eight and sixteen bits. -/
theorem and_any (i : Nat) (hi : i ≤ 62) (x : Int) : bits .and .i64 x (2 ^ i - 1) = x % 2 ^ i := by
  have hp : (0 : Int) < 2 ^ i := Int.pow_pos (by decide)
  have hle : (2 : Int) ^ i ≤ 2 ^ 62 := by
    have : (2 : Nat) ^ i ≤ 2 ^ 62 := Nat.pow_le_pow_right (by decide) hi
    exact_mod_cast this
  have e1 : BitVec.ofInt 64 x = BitVec.ofInt 64 (x % 2 ^ 64) := by
    apply BitVec.eq_of_toNat_eq
    simp [BitVec.toNat_ofInt]
  have e2 : bits .and .i64 x (2 ^ i - 1) = bits .and .i64 (x % 2 ^ 64) (2 ^ i - 1) := by
    show IntKind.i64.wrap _ = IntKind.i64.wrap _
    show IntKind.i64.wrap ((BitVec.ofInt 64 x &&& BitVec.ofInt 64 (2 ^ i - 1)).toNat : Int) = IntKind.i64.wrap ((BitVec.ofInt 64 (x % 2 ^ 64) &&& BitVec.ofInt 64 (2 ^ i - 1)).toNat : Int)
    rw [e1]
  rw [e2]
  obtain ⟨a, ha⟩ := Int.eq_ofNat_of_zero_le (Int.emod_nonneg x (b := 2 ^ 64) (by decide))
  have hlt : x % 2 ^ 64 < 2 ^ 64 := Int.emod_lt_of_pos x (by decide)
  have hc : ((2 : Int) ^ i - 1) = ((2 ^ i - 1 : Nat) : Int) := by
    rw [Int.natCast_sub (Nat.two_pow_pos i)]
    simp
  have hm : 2 ^ i - 1 < 2 ^ 64 := by
    have : (2 : Nat) ^ i ≤ 2 ^ 62 := Nat.pow_le_pow_right (by decide) hi
    omega
  have ha64 : a < 2 ^ 64 := by omega
  have hx : x % 2 ^ i = (a : Int) % 2 ^ i := by
    rw [← ha]
    have hd : (2 : Int) ^ i ∣ 2 ^ 64 := by
      have := Nat.pow_dvd_pow 2 (show i ≤ 64 by omega)
      exact_mod_cast this
    exact (Int.emod_emod_of_dvd x hd).symm
  rw [hx, ha, hc]
  show IntKind.i64.wrap ((BitVec.ofInt 64 (a : Int) &&& BitVec.ofInt 64 ((2 ^ i - 1 : Nat) : Int)).toNat : Int) = _
  simp only [BitVec.ofInt_natCast, BitVec.toNat_and, BitVec.toNat_ofNat, Nat.mod_eq_of_lt ha64, Nat.mod_eq_of_lt hm, Nat.and_two_pow_sub_one_eq_mod]
  have hr : ((a % 2 ^ i : Nat) : Int) < 2 ^ 62 := by
    have h1 : a % 2 ^ i < 2 ^ i := Nat.mod_lt _ (Nat.two_pow_pos i)
    have h2 : (2 : Nat) ^ i ≤ 2 ^ 62 := Nat.pow_le_pow_right (by decide) hi
    have h3 : a % 2 ^ i < 2 ^ 62 := by omega
    exact_mod_cast h3
  rw [wraps_i64 _ (Int.natCast_nonneg _) (by omega)]
  simp

theorem and255' (x : Int) : bits .and .i64 x 255 = x % 256 := and_any 8 (by decide) x
theorem of_byte {P : Int → Prop} (h : ∀ n : Fin 256, P ((n.val : Nat) : Int)) {x : Int} (h0 : 0 ≤ x) (h1 : x ≤ 255) : P x := by
  have := h ⟨x.toNat, by omega⟩
  rwa [show ((x.toNat : Nat) : Int) = x from by omega] at this

/-- What four flags are as a number. -/
def FL (z n h c : Bool) : Int := 128 * z.toInt + 64 * n.toInt + 32 * h.toInt + 16 * c.toInt

/-- A number in a range. -/
def inR (a lo hi : Int) : Bool := decide (lo ≤ a) && decide (a ≤ hi)
theorem inR_iff {a lo hi : Int} : inR a lo hi = true ↔ lo ≤ a ∧ a ≤ hi := by simp [inR]
theorem inR_pos {a lo hi : Int} (h0 : lo ≤ a) (h1 : a ≤ hi) : inR a lo hi = true := inR_iff.2 ⟨h0, h1⟩
theorem inR_neg {a lo hi : Int} (h : ¬ (lo ≤ a ∧ a ≤ hi)) : inR a lo hi = false := by
  rw [Bool.eq_false_iff]
  exact fun k => h (inR_iff.1 k)

theorem bt_nonneg (s : ByteArray) (i : Int) : 0 ≤ bt s i := by
  unfold bt
  split
  · exact Int.natCast_nonneg _
  · exact Int.le_refl _
theorem bt_le (s : ByteArray) (i : Int) : bt s i ≤ 255 := by
  unfold bt
  split
  · rename_i h
    have := (s[i.toNat]'h).toNat_lt
    omega
  · omega

end Go.Proofs.YtmiebnpmckjidaaGreatDoor.Aid
