/-
Plain lemmas on numbers of 32 bits kept in 64, with no program in sight.
-/
import Derived.Test.YtffmpmgnkhlmdaaAidA
namespace Go.Proofs.Ytffmpmgnkhlmdaa.Aid
open Go.RowKit Go.Proofs.YtffmpmgnkhlmdaaW.PrintWords Go.Proofs.YtffmpmgnkhlmdaaW.PrintLast Go.Proofs.YtffmpmgnkhlmdaaW.PrintMore
set_option linter.unusedVariables false

theorem wrap_toNat64 (v : BitVec 64) : IntKind.i64.wrap (v.toNat : Int) = v.toInt := by
  rw [IntKind.wrap_i64]
  have h := v.isLt
  rw [BitVec.toInt_eq_toNat_cond]
  split <;> omega
theorem wrap_toNat32 (v : BitVec 32) : IntKind.i32.wrap (v.toNat : Int) = v.toInt := by
  rw [IntKind.wrap_i32]
  have h := v.isLt
  rw [BitVec.toInt_eq_toNat_cond]
  split <;> omega
theorem ext_of {x : Int} (h0 : -2147483648 ≤ x) (h1 : x ≤ 2147483647) : BitVec.ofInt 64 x = (BitVec.ofInt 32 x).signExtend 64 := by
  apply BitVec.eq_of_toInt_eq
  rw [BitVec.toInt_signExtend_of_le (by decide), BitVec.toInt_ofInt, BitVec.toInt_ofInt]
  simp only [Int.bmod]
  split <;> split <;> omega
theorem and_same {x y : Int} (h0 : -2147483648 ≤ x) (h1 : x ≤ 2147483647) (h2 : -2147483648 ≤ y) (h3 : y ≤ 2147483647) : bits .and .i64 x y = bits .and .i32 x y := by
  show IntKind.i64.wrap (((BitVec.ofInt 64 x) &&& (BitVec.ofInt 64 y)).toNat : Int) = IntKind.i32.wrap (((BitVec.ofInt 32 x) &&& (BitVec.ofInt 32 y)).toNat : Int)
  rw [wrap_toNat64, wrap_toNat32, ext_of h0 h1, ext_of h2 h3, ← BitVec.signExtend_and, BitVec.toInt_signExtend_of_le (by decide)]
theorem or_same {x y : Int} (h0 : -2147483648 ≤ x) (h1 : x ≤ 2147483647) (h2 : -2147483648 ≤ y) (h3 : y ≤ 2147483647) : bits .or .i64 x y = bits .or .i32 x y := by
  show IntKind.i64.wrap (((BitVec.ofInt 64 x) ||| (BitVec.ofInt 64 y)).toNat : Int) = IntKind.i32.wrap (((BitVec.ofInt 32 x) ||| (BitVec.ofInt 32 y)).toNat : Int)
  rw [wrap_toNat64, wrap_toNat32, ext_of h0 h1, ext_of h2 h3, ← BitVec.signExtend_or, BitVec.toInt_signExtend_of_le (by decide)]
theorem xor_same {x y : Int} (h0 : -2147483648 ≤ x) (h1 : x ≤ 2147483647) (h2 : -2147483648 ≤ y) (h3 : y ≤ 2147483647) : bits .xor .i64 x y = bits .xor .i32 x y := by
  show IntKind.i64.wrap (((BitVec.ofInt 64 x) ^^^ (BitVec.ofInt 64 y)).toNat : Int) = IntKind.i32.wrap (((BitVec.ofInt 32 x) ^^^ (BitVec.ofInt 32 y)).toNat : Int)
  rw [wrap_toNat64, wrap_toNat32, ext_of h0 h1, ext_of h2 h3, ← BitVec.signExtend_xor, BitVec.toInt_signExtend_of_le (by decide)]
theorem bits_in (op : BinOp) (x y : Int) : -2147483648 ≤ bits op .i32 x y ∧ bits op .i32 x y ≤ 2147483647 := by
  unfold bits
  simp only [IntKind.wrap_i32]
  omega

/-- A number of 32 bits. -/
def R32 (x : Int) : Prop := -2147483648 ≤ x ∧ x ≤ 2147483647
theorem w32 {n : Int} (h : R32 n) : wrap32 n = n := by
  unfold R32 at h
  unfold wrap32
  omega
theorem r32_wrap (n : Int) : R32 (wrap32 n) := by
  unfold R32 wrap32
  omega
theorem w64_32 (n : Int) : wrap64 (wrap32 n) = wrap32 n := by
  unfold wrap64 wrap32
  omega
theorem w32_64 (n : Int) : wrap32 (wrap64 n) = wrap32 n := by
  unfold wrap64 wrap32
  omega
theorem u64_and31 (b : Int) : IntKind.u64.wrap (bits .and .i64 b 31) = b % 32 := by
  have h := and_any 5 (by decide) b
  rw [show (2 : Int) ^ 5 - 1 = 31 from rfl, show (2 : Int) ^ 5 = 32 from rfl] at h
  rw [h, IntKind.wrap_u64]
  omega
theorem u32_and31 (b : Int) : bits .and .u32 (b % 4294967296) 31 = b % 32 := by
  have h := bits_mask .u32 32 (by decide) (fun n h0 h1 => by rw [IntKind.wrap_u32]; omega) 5 (by decide) (b % 4294967296) (by omega) (by omega)
  rw [show (2 : Int) ^ 5 - 1 = 31 from rfl, show (2 : Int) ^ 5 = 32 from rfl] at h
  rw [h]
  omega
theorem wrap_i32_wrap32 (n : Int) : IntKind.i32.wrap n = wrap32 n := by
  rw [IntKind.wrap_i32]
  unfold wrap32
  rfl
theorem shl_same {a n : Int} (h0 : 0 ≤ n) (h1 : n < 32) : wrap32 (shl .i64 a n) = shl .i32 a n := by
  unfold shl
  rw [wrap_i32_wrap32, IntKind.wrap_i64]
  have e1 : min n.toNat IntKind.i64.bits = n.toNat := Nat.min_eq_left (by show n.toNat ≤ 64; omega)
  have e2 : min n.toNat IntKind.i32.bits = n.toNat := Nat.min_eq_left (by show n.toNat ≤ 32; omega)
  rw [e1, e2]
  generalize a * 2 ^ n.toNat = z
  unfold wrap32
  omega
theorem shr_same {a n : Int} (h0 : 0 ≤ n) (h1 : n < 32) : shr .i64 a n = shr .i32 a n := by
  unfold shr
  have e1 : min n.toNat IntKind.i64.bits = n.toNat := Nat.min_eq_left (by show n.toNat ≤ 64; omega)
  have e2 : min n.toNat IntKind.i32.bits = n.toNat := Nat.min_eq_left (by show n.toNat ≤ 32; omega)
  rw [e1, e2]
theorem r32_shr {a n : Int} (h : R32 a) : R32 (shr .i32 a n) := by
  unfold shr
  have hp : (0 : Int) < 2 ^ (min n.toNat IntKind.i32.bits) := Int.pow_pos (by decide)
  generalize (2 : Int) ^ (min n.toNat IntKind.i32.bits) = p at hp
  unfold R32 at h ⊢
  have hm : 2147483648 * 1 ≤ 2147483648 * p := Int.mul_le_mul_of_nonneg_left (by omega) (by omega)
  have hq : 2147483647 * 1 ≤ 2147483647 * p := Int.mul_le_mul_of_nonneg_left (by omega) (by omega)
  exact ⟨Int.le_ediv_of_mul_le hp (by omega), Int.ediv_le_of_le_mul hp (by omega)⟩
theorem r32_tmod {a b : Int} (h : R32 a) : R32 (Int.tmod a b) := by
  unfold R32 at h ⊢
  have h1 := Int.natAbs_tmod a b
  have h2 : a.natAbs % b.natAbs ≤ a.natAbs := Nat.mod_le _ _
  by_cases h0 : 0 ≤ a
  · have h3 := Int.tmod_nonneg b h0
    omega
  · have h3 := Int.tmod_nonneg b (show 0 ≤ -a by omega)
    rw [Int.neg_tmod] at h3
    omega
end Go.Proofs.Ytffmpmgnkhlmdaa.Aid
