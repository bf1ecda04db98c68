/-
Plain lemmas on whole numbers and bits, with no program in sight.
-/
import Derived.Test.YtmgbdbamfljjnaaWMore
import Derived.Test.YtmgbdbamfljjnaaWWords
import Derived.Laws.BitsLemmas
namespace Go.Proofs.Ytmgbdbamfljjnaa.Aid
open Go.RowKit Go.Proofs.YtmgbdbamfljjnaaW.PrintWords Go.Proofs.YtmgbdbamfljjnaaW.PrintLast Go.Proofs.YtmgbdbamfljjnaaW.PrintMore
set_option linter.unusedVariables false

theorem w64 {n : Int} (h0 : -9223372036854775808 ≤ n) (h1 : n ≤ 9223372036854775807) : wrap64 n = n := by
  unfold wrap64
  omega

theorem wraps_i64 (n : Int) (h₀ : 0 ≤ n) (h₁ : n < 2 ^ 63) : IntKind.i64.wrap n = n := by
  rw [IntKind.wrap_i64]
  omega

theorem and_mask (i : Nat) (hi : i ≤ 63) {x : Int} (h0 : 0 ≤ x) (h1 : x ≤ 9223372036854775807) : bits .and .i64 x (2 ^ i - 1) = x % 2 ^ i :=
  bits_mask .i64 63 (by decide) wraps_i64 i hi x h0 (by omega)

theorem and65535 {x : Int} (h0 : 0 ≤ x) (h1 : x ≤ 9223372036854775807) : bits .and .i64 x 65535 = x % 65536 := and_mask 16 (by decide) h0 h1

/-- A number in a range. -/
def inR (a lo hi : Int) : Bool := decide (lo ≤ a) && decide (a ≤ hi)
theorem inR_iff {a lo hi : Int} : inR a lo hi = true ↔ lo ≤ a ∧ a ≤ hi := by simp [inR]
theorem inR_pos {a lo hi : Int} (h0 : lo ≤ a) (h1 : a ≤ hi) : inR a lo hi = true := inR_iff.2 ⟨h0, h1⟩
theorem inR_neg {a lo hi : Int} (h : ¬ (lo ≤ a ∧ a ≤ hi)) : inR a lo hi = false := by
  rw [Bool.eq_false_iff]
  exact fun k => h (inR_iff.1 k)

theorem bt_nonneg (s : ByteArray) (i : Int) : 0 ≤ bt s i := by
  unfold bt
  split
  · exact Int.natCast_nonneg _
  · exact Int.le_refl _
theorem bt_le (s : ByteArray) (i : Int) : bt s i ≤ 255 := by
  unfold bt
  split
  · rename_i h
    have := (s[i.toNat]'h).toNat_lt
    omega
  · omega

end Go.Proofs.Ytmgbdbamfljjnaa.Aid
