/-
The law FnExactTemplateOf, told as a plain function of its code, answers true for every input.
-/
import Derived.Test.YtmiebnpmckjidaaDoorPFnExactTemplateOfx4
import Derived.Test.YtmiebnpmckjidaaDoorAidA
import Derived.Test.YtmiebnpmckjidaaDoorAidB
import Derived.Test.YtmiebnpmckjidaaDoorAidI
import Derived.Test.YtmiebnpmckjidaaDoorAidH
namespace Go.Proofs.YtmiebnpmckjidaaDoor.Pure
open Go.RowKit Go.Proofs.YtmiebnpmckjidaaDoor.Aid Go.Proofs.YtmiebnpmckjidaaDoor.PFnExactTemplateOf Go.Proofs.YtmiebnpmckjidaaDoorW.PrintWords Go.Proofs.YtmiebnpmckjidaaDoorW.PrintLast Go.Proofs.YtmiebnpmckjidaaDoorW.PrintMore
set_option linter.unusedVariables false
set_option linter.unusedSimpArgs false

theorem spec_l1In_eq (a b c : Int) : spec_l1In.f a b c = some (inR a b c) := by
  unfold spec_l1In.f inR
  by_cases h : a ≥ b
  · rw [if_pos h, decide_eq_true (show b ≤ a from h)]
    rfl
  · rw [if_neg h, decide_eq_false (show ¬ b ≤ a from h)]
    rfl

theorem impl_within_eq (a b c : Int) : impl_within.f a b c = some (inR a b c) := by
  unfold impl_within.f inR
  by_cases h : a ≥ b
  · rw [if_pos h, decide_eq_true (show b ≤ a from h)]
    rfl
  · rw [if_neg h, decide_eq_false (show ¬ b ≤ a from h)]
    rfl

theorem impl_isByte_eq (a : Int) : impl_isByte.f a = some (inR a 0 255) := by
  unfold impl_isByte.f
  rw [impl_within_eq]
  rfl

theorem impl_isWord_eq (a : Int) : impl_isWord.f a = some (inR a 0 65535) := by
  unfold impl_isWord.f
  rw [impl_within_eq]
  rfl

theorem spec_HexOf_l0 (d : Nat) (hd : d ≤ 4) : ∀ (m k i a : Nat) (s : List UInt8), i + m = d → m < k → a < 65536 → s.length + m ≤ 4 → spec_HexOf.l0 k (a : Int) (d : Int) ⟨s.toArray⟩ (i : Int) = some (if a / 16 ^ m = 0 then ⟨(36 :: (hexFix m a ++ s)).toArray⟩ else ⟨#[]⟩) := by
  intro m
  induction m with
  | zero =>
    intro k i a s hi hk ha hs
    obtain ⟨k, rfl⟩ : ∃ q, k = q + 1 := ⟨k - 1, by omega⟩
    simp only [spec_HexOf.l0]
    rw [if_neg (by omega)]
    by_cases h : a = 0
    · subst h
      rw [if_neg (by omega), if_pos (by rw [bytes_size]; omega), if_pos (by simp), show (⟨#[36]⟩ : ByteArray) = ⟨[36].toArray⟩ from rfl, bytes_append]
      rfl
    · rw [if_pos (by omega), if_neg (by simp; exact h)]
  | succ m ih =>
    intro k i a s hi hk ha hs
    obtain ⟨k, rfl⟩ : ∃ q, k = q + 1 := ⟨k - 1, by omega⟩
    simp only [spec_HexOf.l0]
    have e1 : Int.tmod (a : Int) 16 = ((a % 16 : Nat) : Int) := by
      rw [Int.tmod_eq_emod_of_nonneg (by omega)]; omega
    have e2 : wrap64 (Int.tdiv (a : Int) 16) = ((a / 16 : Nat) : Int) := by
      rw [Int.tdiv_eq_ediv_of_nonneg (by omega), w64 (by omega) (by omega)]; omega
    have e3 : wrap64 (((a % 16 : Nat) : Int) + 1) = ((a % 16 + 1 : Nat) : Int) := by
      rw [w64 (by omega) (by omega)]; omega
    have e4 : wrap64 ((i : Int) + 1) = ((i + 1 : Nat) : Int) := by
      rw [w64 (by omega) (by omega)]; omega
    simp only [e1, e2, e3, e4, Int.toNat_natCast]
    rw [if_pos (by omega), if_pos (by omega), if_pos (by omega), if_pos (by omega), digit_cut (a % 16) (by omega), if_pos (by rw [bytes_size, bytes_size]; simp; omega), bytes_append, ih k (i + 1) (a / 16) _ (by omega) (by omega) (by omega) (by simp; omega)]
    rw [Nat.pow_succ, Nat.mul_comm, ← Nat.div_div_eq_div_mul]
    simp [hexFix]
theorem spec_HexOf_eq (n d : Int) {k : Nat} (hk : 10 ≤ k) : spec_HexOf.f k n d = some (if inR d 1 4 = true then (if inR n 0 65535 = true then hexText d.toNat n.toNat else ⟨#[]⟩) else ⟨#[]⟩) := by
  obtain ⟨k, rfl⟩ : ∃ q, k = q + 1 := ⟨k - 1, by omega⟩
  unfold spec_HexOf.f
  simp only [spec_l1In_eq, Option.bind_some]
  by_cases h1 : inR d 1 4 = true
  · by_cases h2 : inR n 0 65535 = true
    · simp only [h1, h2, if_true, spec_HexOf.j0, Bool.not_true, Bool.false_eq_true, if_false]
      rw [inR_iff] at h1 h2
      obtain ⟨a, rfl⟩ : ∃ a : Nat, n = (a : Int) := ⟨n.toNat, by omega⟩
      obtain ⟨e, rfl⟩ : ∃ e : Nat, d = (e : Int) := ⟨d.toNat, by omega⟩
      have := spec_HexOf_l0 e (by omega) e k 0 a [] (by omega) (by omega) (by omega) (by simp; omega)
      rw [show ((0 : Nat) : Int) = 0 from rfl, show (⟨([] : List UInt8).toArray⟩ : ByteArray) = ⟨#[]⟩ from rfl, List.append_nil] at this
      rw [this]
      rfl
    · rw [Bool.not_eq_true] at h2
      simp only [h1, h2, if_true, spec_HexOf.j0, Bool.not_false, Bool.false_eq_true, if_false]
  · rw [Bool.not_eq_true] at h1
    simp only [h1, spec_HexOf.j0, Bool.false_eq_true, if_false, if_true]

theorem impl_hexDigits_eq (n d : Nat) (hn : n < 65536) (hd0 : 1 ≤ d) (hd : d ≤ 4) (hz : n / 16 ^ d = 0) : impl_hexDigits.f (n : Int) (d : Int) = some ⟨(hexFix d n).toArray⟩ := by
  unfold impl_hexDigits.f strconv_FormatInt.f
  rw [if_neg (by decide), if_pos rfl, if_pos (by omega), if_pos (by omega)]
  simp only [Option.bind_some, Int.toNat_natCast]
  have hl := hexLow_len n
  unfold strings_ToUpper.f
  rw [if_pos (by rw [bytes_size]; omega), if_pos (by rw [List.all_eq_true]; intro b hb; exact decide_eq_true (hexLow_small n hn b (by simpa using hb)))]
  simp only [Option.bind_some]
  have hsz : (⟨(Go.Lib.toUpperA (hexLow n).toArray.toList).toArray⟩ : ByteArray).size = (hexLow n).length := by rw [bytes_size]; simp [Go.Lib.toUpperA]
  rw [hsz]
  have hm : mx 0 (wrap64 ((d : Int) - ((hexLow n).length : Int))) = ((d - (hexLow n).length : Nat) : Int) := by
    rw [w64 (by omega) (by omega)]
    unfold mx
    split <;> omega
  rw [hm]
  unfold strings_Repeat.f
  rw [if_pos (by omega), if_pos (by omega), if_pos (by rw [show (⟨#[48]⟩ : ByteArray).size = 1 from rfl]; omega)]
  simp only [Option.bind_some, Int.toNat_natCast]
  have hr : (⟨(Go.Lib.repeatL (⟨#[48]⟩ : ByteArray).data.toList (d - (hexLow n).length)).toArray⟩ : ByteArray).size = d - (hexLow n).length := by
    rw [bytes_size, Go.Lib.repeatL_length]; simp
  rw [hr, if_pos (by omega), bytes_append]
  have := hexPad d n hd0 hd hz hn
  rw [← this]
  simp [Go.Lib.toUpperA]
theorem shr_hex (n d : Nat) (hd : d ≤ 4) : shr .i64 (n : Int) (4 * (d : Int)) = ((n / 16 ^ d : Nat) : Int) := by
  unfold shr
  have e : min (4 * (d : Int)).toNat IntKind.i64.bits = 4 * d := by
    rw [show (4 * (d : Int)).toNat = 4 * d by omega]
    exact Nat.min_eq_left (by show 4 * d ≤ 64; omega)
  have hp : (2 : Int) ^ (4 * d) = ((16 ^ d : Nat) : Int) := by
    have h4 : d = 0 ∨ d = 1 ∨ d = 2 ∨ d = 3 ∨ d = 4 := by omega
    rcases h4 with rfl | rfl | rfl | rfl | rfl <;> rfl
  rw [e, hp]
  rfl
theorem impl_HexOf_eq (n d : Int) : impl_HexOf.f n d = some (if inR d 1 4 = true then (if inR n 0 65535 = true then hexText d.toNat n.toNat else ⟨#[]⟩) else ⟨#[]⟩) := by
  unfold impl_HexOf.f
  simp only [impl_within_eq, impl_isWord_eq, Option.bind_some]
  by_cases h1 : inR d 1 4 = true
  · by_cases h2 : inR n 0 65535 = true
    · simp only [h1, h2, if_true]
      rw [inR_iff] at h1 h2
      obtain ⟨a, rfl⟩ : ∃ a : Nat, n = (a : Int) := ⟨n.toNat, by omega⟩
      obtain ⟨e, rfl⟩ : ∃ e : Nat, d = (e : Int) := ⟨d.toNat, by omega⟩
      rw [w64 (by omega) (by omega), if_pos (by omega), shr_hex a e (by omega)]
      unfold hexText
      simp only [Int.toNat_natCast]
      by_cases hz : a / 16 ^ e = 0
      · rw [hz, if_neg (by decide), impl_hexDigits_eq a e (by omega) (by omega) (by omega) hz, if_pos rfl]
        simp only [Option.bind_some]
        rw [if_pos (by rw [bytes_size, hexFix_len]; omega), show (⟨#[36]⟩ : ByteArray) = ⟨[36].toArray⟩ from rfl, bytes_append]
        rfl
      · rw [if_pos (show ((a / 16 ^ e : Nat) : Int) > 0 from Int.natCast_pos.2 (Nat.pos_of_ne_zero hz)), if_neg hz]
    · rw [Bool.not_eq_true] at h2
      simp only [h1, h2, if_true, Bool.false_eq_true, if_false]
  · rw [Bool.not_eq_true] at h1
    simp only [h1, Bool.false_eq_true, if_false]

theorem dig_nums {x : Nat} (h : x < 10) : strOfNums [(wrap64 (48 + (x : Int))) % 256] = ⟨[UInt8.ofNat (48 + x)].toArray⟩ := by
  unfold strOfNums
  rw [w64 (by omega) (by omega)]
  simp only [List.map_cons, List.map_nil]
  rw [show ((48 + (x : Int)) % 256).toNat = 48 + x by omega]
theorem dec_l0 : ∀ (m k x : Nat) (s : List UInt8), x < 10 ^ (m + 1) → m < k → m ≤ 4 → s.length + m ≤ 1000 → spec_l1Dec.l0 k (x : Int) ⟨s.toArray⟩ = some ⟨(Go.Lib.decDigits x ++ s).toArray⟩ := by
  have small : ∀ (k x : Nat) (s : List UInt8), x < 10 → 0 < k → s.length ≤ 1000 → spec_l1Dec.l0 k (x : Int) ⟨s.toArray⟩ = some ⟨(Go.Lib.decDigits x ++ s).toArray⟩ := by
    intro k x s hx hk hs
    obtain ⟨k, rfl⟩ : ∃ z, k = z + 1 := ⟨k - 1, by omega⟩
    rw [spec_l1Dec.l0, if_neg (by omega)]
    simp only [Option.bind_some]
    rw [dig_nums hx, if_pos (by rw [bytes_size, bytes_size]; simp; omega), bytes_append, Go.Lib.decDigits, dif_pos hx]
  intro m
  induction m with
  | zero => intro k x s hx hk _ hs; exact small k x s (by simpa using hx) hk (by omega)
  | succ m ih =>
    intro k x s hx hk hm hs
    by_cases h10 : x < 10
    · exact small k x s h10 (by omega) (by omega)
    · obtain ⟨k, rfl⟩ : ∃ z, k = z + 1 := ⟨k - 1, by omega⟩
      have hbig : x < 100000 := by
        have h4 : m = 0 ∨ m = 1 ∨ m = 2 ∨ m = 3 := by omega
        have : 10 ^ (m + 1 + 1) ≤ 100000 := by rcases h4 with rfl | rfl | rfl | rfl <;> decide
        omega
      have hd : x / 10 < 10 ^ (m + 1) := by
        rw [Nat.pow_succ, Nat.mul_comm] at hx
        exact Nat.div_lt_of_lt_mul hx
      rw [spec_l1Dec.l0, if_pos (by omega)]
      simp only [Option.bind_some]
      have e1 : Int.tmod (x : Int) 10 = ((x % 10 : Nat) : Int) := by rw [Int.tmod_eq_emod_of_nonneg (by omega)]; omega
      have e2 : wrap64 (Int.tdiv (x : Int) 10) = ((x / 10 : Nat) : Int) := by rw [Int.tdiv_eq_ediv_of_nonneg (by omega), w64 (by omega) (by omega)]; omega
      rw [e1, e2, dig_nums (by omega), if_pos (by rw [bytes_size, bytes_size]; simp; omega), bytes_append, ih k (x / 10) _ hd (by omega) (by omega) (by simp; omega)]
      conv => rhs; rw [Go.Lib.decDigits, dif_neg h10]
      simp
theorem spec_l1Dec_eq (n : Int) (h : -1000 < n ∧ n < 1000) {k : Nat} (hk : 20 ≤ k) : spec_l1Dec.f k n = some ⟨(Go.Lib.itoa n).toArray⟩ := by
  obtain ⟨k, rfl⟩ : ∃ z, k = z + 2 := ⟨k - 2, by omega⟩
  have pos : ∀ (k x : Nat), x < 1000 → 10 ≤ k → spec_l1Dec.f (k + 1) (x : Int) = some ⟨(Go.Lib.decDigits x).toArray⟩ := by
    intro k x hx hk
    rw [spec_l1Dec.f, if_neg (by omega)]
    have := dec_l0 2 k x [] (by omega) (by omega) (by decide) (by simp)
    rw [List.append_nil] at this
    exact this
  unfold Go.Lib.itoa
  by_cases h0 : n < 0
  · rw [if_pos h0, spec_l1Dec.f, if_pos h0, w64 (by omega) (by omega)]
    have hn : -n = ((n.natAbs : Nat) : Int) := by omega
    rw [hn, pos k n.natAbs (by omega) (by omega)]
    simp only [Option.bind_some]
    have hsz : (⟨(Go.Lib.decDigits n.natAbs).toArray⟩ : ByteArray).size ≤ 1000 := by
      have h1 : n.natAbs < 1000 := by omega
      have : ∀ x, x < 1000 → (Go.Lib.decDigits x).length ≤ 3 := by
        intro x hx
        rw [Go.Lib.decDigits]
        split
        · simp
        · rw [Go.Lib.decDigits]
          split
          · simp
          · rw [Go.Lib.decDigits, dif_pos (by omega)]
            simp
      rw [bytes_size]
      have := this _ h1
      omega
    rw [if_pos (by omega), show (⟨#[45]⟩ : ByteArray) = ⟨[45].toArray⟩ from rfl, bytes_append]
    rfl
  · rw [if_neg h0]
    obtain ⟨x, rfl⟩ : ∃ x : Nat, n = (x : Int) := ⟨n.toNat, by omega⟩
    rw [Int.toNat_natCast]
    exact pos (k + 1) x (by omega) (by omega)
theorem spec_l1Dec_pos (x : Nat) (h : x < 100000) {k : Nat} (hk : 20 ≤ k) : spec_l1Dec.f k (x : Int) = some ⟨(Go.Lib.itoa (x : Int)).toArray⟩ := by
  obtain ⟨k, rfl⟩ : ∃ z, k = z + 1 := ⟨k - 1, by omega⟩
  rw [spec_l1Dec.f, if_neg (by omega)]
  have := dec_l0 4 k x [] (by omega) (by omega) (by decide) (by simp)
  rw [List.append_nil] at this
  unfold Go.Lib.itoa
  rw [if_neg (by omega), Int.toNat_natCast]
  exact this

theorem spec_TemplateOf_eq (c : Int) (cb : Bool) : spec_TemplateOf.f c cb = some (if 0 ≤ c ∧ c < 256 then tmplT c.toNat cb else ⟨#[]⟩) := by
  unfold spec_TemplateOf.f spec_l1In.f spec_l3Template.f
  by_cases h : 0 ≤ c ∧ c < 256
  · have h2 : c ≥ 0 := h.1
    have h3 : c ≤ 255 := by omega
    rw [if_pos h2]
    simp only [Option.bind_some]
    rw [if_pos (decide_eq_true h3), if_pos h, if_pos h]
    rfl
  · by_cases h0 : c ≥ 0
    · have h3 : ¬ c ≤ 255 := by omega
      rw [if_pos h0]
      simp only [Option.bind_some]
      rw [decide_eq_false h3, if_neg (by decide), if_neg h]
    · rw [if_neg h0]
      simp only [Option.bind_some]
      rw [if_neg (by decide), if_neg h]
theorem FnExactTemplateOf (a0 : Int) (a1 : Bool) (h0 : (Lit.int .i64 a0).wf = true) : laws_FnExactTemplateOf.f a0 a1 = some true := by
  unfold laws_FnExactTemplateOf.f
  rw [spec_TemplateOf_eq]
  unfold impl_TemplateOf.f
  simp

end Go.Proofs.YtmiebnpmckjidaaDoor.Pure
