/-
The law FnExactTemplateOf, told as a plain function of its code, answers true for every input.
-/
import Derived.Test.YtmiebnpmckjidaaDoorPFnExactTemplateOfx4
import Derived.Test.YtmiebnpmckjidaaDoorAidA
import Derived.Test.YtmiebnpmckjidaaDoorAidB
import Derived.Test.YtmiebnpmckjidaaDoorAidI
import Derived.Test.YtmiebnpmckjidaaDoorAidH
namespace Go.Proofs.YtmiebnpmckjidaaDoor.Pure
open Go.RowKit Go.Proofs.YtmiebnpmckjidaaDoor.Aid Go.Proofs.YtmiebnpmckjidaaDoor.PFnExactTemplateOf Go.Proofs.YtmiebnpmckjidaaDoorW.PrintWords Go.Proofs.YtmiebnpmckjidaaDoorW.PrintLast Go.Proofs.YtmiebnpmckjidaaDoorW.PrintMore
set_option linter.unusedVariables false
set_option linter.unusedSimpArgs false

theorem spec_l1In_eq (a b c : Int) : spec_l1In.f a b c = some (inR a b c) := by
  unfold spec_l1In.f inR
  by_cases h : a ≥ b
  · rw [if_pos h, decide_eq_true (show b ≤ a from h)]
    rfl
  · rw [if_neg h, decide_eq_false (show ¬ b ≤ a from h)]
    rfl

theorem impl_within_eq (a b c : Int) : impl_within.f a b c = some (inR a b c) := by
  unfold impl_within.f inR
  by_cases h : a ≥ b
  · rw [if_pos h, decide_eq_true (show b ≤ a from h)]
    rfl
  · rw [if_neg h, decide_eq_false (show ¬ b ≤ a from h)]
    rfl

theorem impl_isByte_eq (a : Int) : impl_isByte.f a = some (inR a 0 255) := by
  unfold impl_isByte.f
  rw [impl_within_eq]
  rfl

theorem impl_isWord_eq (a : Int) : impl_isWord.f a = some (inR a 0 65535) := by
  unfold impl_isWord.f
  rw [impl_within_eq]
  rfl

theorem spec_HexOf_l0 (d : Nat) (hd : d ≤ 4) : ∀ (m k i a : Nat) (s : List UInt8), i + m = d → m < k → a < 65536 → s.length + m ≤ 4 → spec_HexOf.l0 k (a : Int) (d : Int) ⟨s.toArray⟩ (i : Int) = some (if a / 16 ^ m = 0 then ⟨(36 :: (hexFix m a ++ s)).toArray⟩ else ⟨#[]⟩) := by
  intro m
  induction m with
  | zero =>
    intro k i a s hi hk ha hs
    obtain ⟨k, rfl⟩ : ∃ q, k = q + 1 := ⟨k - 1, by omega⟩
    simp only [spec_HexOf.l0]
    rw [if_neg (by omega)]
    by_cases h : a = 0
    · subst h
      rw [if_neg (by omega), if_pos (by rw [bytes_size]; omega), if_pos (by simp), show (⟨#[36]⟩ : ByteArray) = ⟨[36].toArray⟩ from rfl, bytes_append]
      rfl
    · rw [if_pos (by omega), if_neg (by simp; exact h)]
  | succ m ih =>
    intro k i a s hi hk ha hs
    obtain ⟨k, rfl⟩ : ∃ q, k = q + 1 := ⟨k - 1, by omega⟩
    simp only [spec_HexOf.l0]
    have e1 : Int.tmod (a : Int) 16 = ((a % 16 : Nat) : Int) := by
      rw [Int.tmod_eq_emod_of_nonneg (by omega)]; omega
    have e2 : wrap64 (Int.tdiv (a : Int) 16) = ((a / 16 : Nat) : Int) := by
      rw [Int.tdiv_eq_ediv_of_nonneg (by omega), w64 (by omega) (by omega)]; omega
    have e3 : wrap64 (((a % 16 : Nat) : Int) + 1) = ((a % 16 + 1 : Nat) : Int) := by
      rw [w64 (by omega) (by omega)]; omega
    have e4 : wrap64 ((i : Int) + 1) = ((i + 1 : Nat) : Int) := by
      rw [w64 (by omega) (by omega)]; omega
    simp only [e1, e2, e3, e4, Int.toNat_natCast]
    rw [if_pos (by omega), if_pos (by omega), if_pos (by omega), if_pos (by omega), digit_cut (a % 16) (by omega), if_pos (by rw [bytes_size, bytes_size]; simp; omega), bytes_append, ih k (i + 1) (a / 16) _ (by omega) (by omega) (by omega) (by simp; omega)]
    rw [Nat.pow_succ, Nat.mul_comm, ← Nat.div_div_eq_div_mul]
    simp [hexFix]
theorem spec_HexOf_eq (n d : Int) {k : Nat} (hk : 10 ≤ k) : spec_HexOf.f k n d = some (if inR d 1 4 = true then (if inR n 0 65535 = true then hexText d.toNat n.toNat else ⟨#[]⟩) else ⟨#[]⟩) := by
  obtain ⟨k, rfl⟩ : ∃ q, k = q + 1 := ⟨k - 1, by omega⟩
  unfold spec_HexOf.f
  simp only [spec_l1In_eq, Option.bind_some]
  by_cases h1 : inR d 1 4 = true
  · by_cases h2 : inR n 0 65535 = true
    · simp only [h1, h2, if_true, spec_HexOf.j0, Bool.not_true, Bool.false_eq_true, if_false]
      rw [inR_iff] at h1 h2
      obtain ⟨a, rfl⟩ : ∃ a : Nat, n = (a : Int) := ⟨n.toNat, by omega⟩
      obtain ⟨e, rfl⟩ : ∃ e : Nat, d = (e : Int) := ⟨d.toNat, by omega⟩
      have := spec_HexOf_l0 e (by omega) e k 0 a [] (by omega) (by omega) (by omega) (by simp; omega)
      rw [show ((0 : Nat) : Int) = 0 from rfl, show (⟨([] : List UInt8).toArray⟩ : ByteArray) = ⟨#[]⟩ from rfl, List.append_nil] at this
      rw [this]
      rfl
    · rw [Bool.not_eq_true] at h2
      simp only [h1, h2, if_true, spec_HexOf.j0, Bool.not_false, Bool.false_eq_true, if_false]
  · rw [Bool.not_eq_true] at h1
    simp only [h1, spec_HexOf.j0, Bool.false_eq_true, if_false, if_true]

theorem impl_hexDigits_eq (n d : Nat) (hn : n < 65536) (hd0 : 1 ≤ d) (hd : d ≤ 4) (hz : n / 16 ^ d = 0) : impl_hexDigits.f (n : Int) (d : Int) = some ⟨(hexFix d n).toArray⟩ := by
  unfold impl_hexDigits.f strconv_FormatInt.f
  rw [if_neg (by decide), if_pos rfl, if_pos (by omega), if_pos (by omega)]
  simp only [Option.bind_some, Int.toNat_natCast]
  have hl := hexLow_len n
  unfold strings_ToUpper.f
  rw [if_pos (by rw [bytes_size]; omega), if_pos (by rw [List.all_eq_true]; intro b hb; exact decide_eq_true (hexLow_small n hn b (by simpa using hb)))]
  simp only [Option.bind_some]
  have hsz : (⟨(Go.Lib.toUpperA (hexLow n).toArray.toList).toArray⟩ : ByteArray).size = (hexLow n).length := by rw [bytes_size]; simp [Go.Lib.toUpperA]
  rw [hsz]
  have hm : mx 0 (wrap64 ((d : Int) - ((hexLow n).length : Int))) = ((d - (hexLow n).length : Nat) : Int) := by
    rw [w64 (by omega) (by omega)]
    unfold mx
    split <;> omega
  rw [hm]
  unfold strings_Repeat.f
  rw [if_pos (by omega), if_pos (by omega), if_pos (by rw [show (⟨#[48]⟩ : ByteArray).size = 1 from rfl]; omega)]
  simp only [Option.bind_some, Int.toNat_natCast]
  have hr : (⟨(Go.Lib.repeatL (⟨#[48]⟩ : ByteArray).data.toList (d - (hexLow n).length)).toArray⟩ : ByteArray).size = d - (hexLow n).length := by
    rw [bytes_size, Go.Lib.repeatL_length]; simp
  rw [hr, if_pos (by omega), bytes_append]
  have := hexPad d n hd0 hd hz hn
  rw [← this]
  simp [Go.Lib.toUpperA]
theorem shr_hex (n d : Nat) (hd : d ≤ 4) : shr .i64 (n : Int) (4 * (d : Int)) = ((n / 16 ^ d : Nat) : Int) := by
  unfold shr
  have e : min (4 * (d : Int)).toNat IntKind.i64.bits = 4 * d := by
    rw [show (4 * (d : Int)).toNat = 4 * d by omega]
    exact Nat.min_eq_left (by show 4 * d ≤ 64; omega)
  have hp : (2 : Int) ^ (4 * d) = ((16 ^ d : Nat) : Int) := by
    have h4 : d = 0 ∨ d = 1 ∨ d = 2 ∨ d = 3 ∨ d = 4 := by omega
    rcases h4 with rfl | rfl | rfl | rfl | rfl <;> rfl
  rw [e, hp]
  rfl
theorem impl_HexOf_eq (n d : Int) : impl_HexOf.f n d = some (if inR d 1 4 = true then (if inR n 0 65535 = true then hexText d.toNat n.toNat else ⟨#[]⟩) else ⟨#[]⟩) := by
  unfold impl_HexOf.f
  simp only [impl_within_eq, impl_isWord_eq, Option.bind_some]
  by_cases h1 : inR d 1 4 = true
  · by_cases h2 : inR n 0 65535 = true
    · simp only [h1, h2, if_true]
      rw [inR_iff] at h1 h2
      obtain ⟨a, rfl⟩ : ∃ a : Nat, n = (a : Int) := ⟨n.toNat, by omega⟩
      obtain ⟨e, rfl⟩ : ∃ e : Nat, d = (e : Int) := ⟨d.toNat, by omega⟩
      rw [w64 (by omega) (by omega), if_pos (by omega), shr_hex a e (by omega)]
      unfold hexText
      simp only [Int.toNat_natCast]
      by_cases hz : a / 16 ^ e = 0
      · rw [hz, if_neg (by decide), impl_hexDigits_eq a e (by omega) (by omega) (by omega) hz, if_pos rfl]
        simp only [Option.bind_some]
        rw [if_pos (by rw [bytes_size, hexFix_len]; omega), show (⟨#[36]⟩ : ByteArray) = ⟨[36].toArray⟩ from rfl, bytes_append]
        rfl
      · rw [if_pos (show ((a / 16 ^ e : Nat) : Int) > 0 from Int.natCast_pos.2 (Nat.pos_of_ne_zero hz)), if_neg hz]
    · rw [Bool.not_eq_true] at h2
      simp only [h1, h2, if_true, Bool.false_eq_true, if_false]
  · rw [Bool.not_eq_true] at h1
    simp only [h1, Bool.false_eq_true, if_false]

theorem spec_TemplateOf_eq (c : Int) (cb : Bool) : spec_TemplateOf.f c cb = some (if 0 ≤ c ∧ c < 256 then tmplT c.toNat cb else ⟨#[]⟩) := by
  unfold spec_TemplateOf.f spec_l1In.f spec_l3Template.f
  by_cases h : 0 ≤ c ∧ c < 256
  · have h2 : c ≥ 0 := h.1
    have h3 : c ≤ 255 := by omega
    rw [if_pos h2]
    simp only [Option.bind_some]
    rw [if_pos (decide_eq_true h3), if_pos h, if_pos h]
    rfl
  · by_cases h0 : c ≥ 0
    · have h3 : ¬ c ≤ 255 := by omega
      rw [if_pos h0]
      simp only [Option.bind_some]
      rw [decide_eq_false h3, if_neg (by decide), if_neg h]
    · rw [if_neg h0]
      simp only [Option.bind_some]
      rw [if_neg (by decide), if_neg h]
theorem FnExactTemplateOf (a0 : Int) (a1 : Bool) (h0 : (Lit.int .i64 a0).wf = true) : laws_FnExactTemplateOf.f a0 a1 = some true := by
  unfold laws_FnExactTemplateOf.f
  rw [spec_TemplateOf_eq]
  unfold impl_TemplateOf.f
  simp

end Go.Proofs.YtmiebnpmckjidaaDoor.Pure
