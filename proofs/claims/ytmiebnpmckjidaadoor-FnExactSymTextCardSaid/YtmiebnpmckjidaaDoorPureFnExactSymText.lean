/-
The law FnExactSymText, told as a plain function of the symbols, answers true for every input.
-/
import Derived.Test.YtmiebnpmckjidaaDoorPFnExactSymTextx2
import Derived.Test.YtmiebnpmckjidaaDoorAidA
import Derived.Test.YtmiebnpmckjidaaDoorAidB
import Derived.Test.YtmiebnpmckjidaaDoorAidC
import Derived.Test.YtmiebnpmckjidaaDoorAidH
import Derived.Test.YtmiebnpmckjidaaDoorKinFnExactSymText
namespace Go.Proofs.YtmiebnpmckjidaaDoor.Pure
open Go.RowKit Go.Proofs.YtmiebnpmckjidaaDoor.Aid Go.Proofs.YtmiebnpmckjidaaDoor.PFnExactSymText Go.Proofs.YtmiebnpmckjidaaDoor.PFnExactHexOf Go.Proofs.YtmiebnpmckjidaaDoorW.PrintWords Go.Proofs.YtmiebnpmckjidaaDoorW.PrintLast Go.Proofs.YtmiebnpmckjidaaDoorW.PrintMore
set_option linter.unusedVariables false
set_option linter.unusedSimpArgs false

theorem spec_l1In_eq (a b c : Int) : spec_l1In.f a b c = some (inR a b c) := by
  unfold spec_l1In.f inR
  by_cases h : a ≥ b
  · rw [if_pos h, decide_eq_true (show b ≤ a from h)]
    rfl
  · rw [if_neg h, decide_eq_false (show ¬ b ≤ a from h)]
    rfl

theorem impl_within_eq (a b c : Int) : impl_within.f a b c = some (inR a b c) := by
  unfold impl_within.f inR
  by_cases h : a ≥ b
  · rw [if_pos h, decide_eq_true (show b ≤ a from h)]
    rfl
  · rw [if_neg h, decide_eq_false (show ¬ b ≤ a from h)]
    rfl

theorem impl_isByte_eq (a : Int) : impl_isByte.f a = some (inR a 0 255) := by
  unfold impl_isByte.f
  rw [impl_within_eq]
  rfl

theorem impl_isWord_eq (a : Int) : impl_isWord.f a = some (inR a 0 65535) := by
  unfold impl_isWord.f
  rw [impl_within_eq]
  rfl

theorem spec_l4Byte_eq (a : Int) : spec_l4Byte.f a = some (inR a 0 255) := by
  unfold spec_l4Byte.f
  rw [spec_l1In_eq]
  rfl

theorem spec_l4Word_eq (a : Int) : spec_l4Word.f a = some (inR a 0 65535) := by
  unfold spec_l4Word.f
  rw [spec_l1In_eq]
  rfl

theorem spec_l1Letter_eq (c : Int) : spec_l1Letter.f c = some (isLet c) := by
  unfold spec_l1Letter.f isLet inR
  by_cases h1 : c ≥ 97
  · by_cases h2 : c ≤ 122
    · simp [h1, h2]
    · by_cases h3 : c = 95
      · simp [h3]
      · simp [h1, h2, h3]
  · by_cases h3 : c = 95
    · simp [h3]
    · simp [h1, h3]

theorem impl_isDigit_eq (c : Int) : impl_isDigit.f c = some (inR c 48 57) := by
  unfold impl_isDigit.f inR
  by_cases h : c ≥ 48
  · rw [if_pos h, decide_eq_true (show 48 ≤ c from h)]
    rfl
  · rw [if_neg h, decide_eq_false (show ¬ 48 ≤ c from h)]
    rfl

theorem impl_isSmall_eq (c : Int) : impl_isSmall.f c = some (inR c 97 122) := by
  unfold impl_isSmall.f inR
  by_cases h : c ≥ 97
  · rw [if_pos h, decide_eq_true (show 97 ≤ c from h)]
    rfl
  · rw [if_neg h, decide_eq_false (show ¬ 97 ≤ c from h)]
    rfl

theorem spec_NameOk_l0 (s : ByteArray) (hs : s.size ≤ 140737488351232) : ∀ (n k i : Nat), i + n = s.size → n < k → spec_NameOk.l0 k s (i : Int) = some (allB isNam s n i) := by
  intro n
  induction n with
  | zero =>
    intro k i hi hk
    obtain ⟨k, rfl⟩ : ∃ m, k = m + 1 := ⟨k - 1, by omega⟩
    simp only [spec_NameOk.l0]
    rw [if_neg (by omega)]
    rfl
  | succ n ih =>
    intro k i hi hk
    obtain ⟨k, rfl⟩ : ∃ m, k = m + 1 := ⟨k - 1, by omega⟩
    have hn := ih k (i + 1) (by omega) (by omega)
    have hw : wrap64 ((i : Int) + 1) = ((i + 1 : Nat) : Int) := by rw [w64 (by omega) (by omega)]; omega
    simp only [spec_NameOk.l0]
    rw [if_pos (by omega), if_pos (by omega), spec_l1Letter_eq, hw, hn]
    simp only [Option.bind_some, allB, isNam, inR]
    by_cases h1 : isLet (bt s i) = true
    · simp [h1]
    · by_cases h2 : bt s i ≥ 48
      · by_cases h3 : bt s i ≤ 57
        · simp [h1, h2, h3]
        · simp [h1, h2, h3]
      · simp [h1, h2]
theorem spec_NameOk_eq (s : ByteArray) {k : Nat} (hk : 20 ≤ k) : spec_NameOk.f k s = some (nameOk s) := by
  unfold spec_NameOk.f nameOk
  obtain ⟨k, rfl⟩ : ∃ m, k = m + 1 := ⟨k - 1, by omega⟩
  simp only [spec_NameOk.j0]
  by_cases h1 : (s.size : Int) < 1
  · rw [if_pos h1, inR_neg (by omega)]
    rfl
  · by_cases h2 : (s.size : Int) > 16
    · rw [if_neg h1, if_pos h2, inR_neg (by omega)]
      rfl
    · have hl := spec_NameOk_l0 s (by omega) s.size k 0 (by omega) (by omega)
      rw [if_neg h1, if_neg h2, inR_pos (by omega) (by omega), if_pos (by omega), spec_l1Letter_eq]
      simp only [Option.bind_some, Bool.true_and]
      rw [show ((0 : Nat) : Int) = 0 from rfl] at hl
      rw [hl]
      obtain ⟨n, hn⟩ : ∃ n, s.size = n + 1 := ⟨s.size - 1, by omega⟩
      by_cases h3 : isLet (bt s 0) = true
      · rw [h3, isLet_dig h3]
        simp
      · have h3' : isLet (bt s 0) = false := by simpa using h3
        rw [h3', hn]
        simp only [Bool.not_false, if_true, allB]
        rw [show bt s ((0 : Nat) : Int) = bt s 0 from rfl]
        unfold isNam
        rw [h3']
        cases inR (bt s 0) 48 57 <;> simp

theorem impl_NameOk_l0 (s : ByteArray) (hs : s.size ≤ 140737488351232) : ∀ (n k i : Nat), i + n = s.size → n < k → impl_NameOk.l0 k s (s.size : Int) (i : Int) = some (allB isNam s n i) := by
  intro n
  induction n with
  | zero =>
    intro k i hi hk
    obtain ⟨k, rfl⟩ : ∃ m, k = m + 1 := ⟨k - 1, by omega⟩
    simp only [impl_NameOk.l0]
    rw [if_neg (by omega)]
    rfl
  | succ n ih =>
    intro k i hi hk
    obtain ⟨k, rfl⟩ : ∃ m, k = m + 1 := ⟨k - 1, by omega⟩
    have hn := ih k (i + 1) (by omega) (by omega)
    have hw : wrap64 ((i : Int) + 1) = ((i + 1 : Nat) : Int) := by rw [w64 (by omega) (by omega)]; omega
    simp only [impl_NameOk.l0]
    rw [if_pos (by omega), if_pos (by omega), if_pos (by omega), impl_isSmall_eq, impl_isDigit_eq, hw, hn]
    simp only [Option.bind_some, allB, isNam, isLet]
    by_cases h1 : inR (bt s i) 97 122 = true
    · simp [h1]
    · by_cases h2 : inR (bt s i) 48 57 = true
      · simp [h1, h2]
      · by_cases h3 : bt s i = 95
        · simp [h1, h2, h3]
        · by_cases h4 : bt s i = 46
          · simp [h1, h2, h3, h4]
          · simp [h1, h2, h3, h4]
theorem impl_NameOk_eq (s : ByteArray) {k : Nat} (hk : 20 ≤ k) : impl_NameOk.f k s = some (nameOk s) := by
  unfold impl_NameOk.f nameOk
  obtain ⟨k, rfl⟩ : ∃ m, k = m + 1 := ⟨k - 1, by omega⟩
  simp only [impl_NameOk.j0, impl_within_eq, Option.bind_some]
  by_cases h1 : 1 ≤ (s.size : Int) ∧ (s.size : Int) ≤ 16
  · have hl := impl_NameOk_l0 s (by omega) s.size k 0 (by omega) (by omega)
    rw [inR_pos h1.1 h1.2, if_pos rfl, if_pos (by omega), impl_isDigit_eq]
    simp only [Option.bind_some, Bool.true_and]
    rw [show ((0 : Nat) : Int) = 0 from rfl] at hl
    rw [hl]
    cases inR (bt s 0) 48 57 <;> simp
  · rw [inR_neg h1]
    rfl

theorem laws_szSymS_l0 (l : List S60) (hl : l.length ≤ 1048576) (hn : ∀ x ∈ l, x.f0.size ≤ maxLen) : ∀ (n k i : Nat) (left : Int), i + n = l.length → n < k → 0 ≤ left → left ≤ 1048576 → ∃ t, laws_szSymS.l0 k l left (i : Int) = some t ∧ t ≤ left := by
  intro n
  induction n with
  | zero =>
    intro k i left hi hk h0 h1
    obtain ⟨k, rfl⟩ : ∃ m, k = m + 1 := ⟨k - 1, by omega⟩
    refine ⟨left, ?_, Int.le_refl _⟩
    simp only [laws_szSymS.l0]
    rw [if_neg (by omega)]
  | succ n ih =>
    intro k i left hi hk h0 h1
    obtain ⟨k, rfl⟩ : ∃ m, k = m + 1 := ⟨k - 1, by omega⟩
    simp only [laws_szSymS.l0]
    rw [if_pos (by omega), if_pos (by omega), up1 (by omega : i < l.length) (by omega)]
    have hx : (rd_T60 l (i : Int)).f0.size ≤ maxLen := hn _ (by unfold rd_T60; exact getD_mem _ _ _ (by simp; omega))
    unfold maxLen at hx
    unfold laws_szSym.f
    generalize (rd_T60 l (i : Int)).f0.size = z at hx ⊢
    rw [w64 (by omega) (by omega)]
    by_cases hc : left - (z : Int) < 0
    · rw [if_pos hc]
      exact ⟨-1, by simp, by omega⟩
    · rw [if_neg hc]
      simp only [Option.bind_some]
      rw [if_neg hc]
      obtain ⟨t, ht, hle⟩ := ih k (i + 1) (left - z) (by omega) (by omega) (by omega) (by omega)
      exact ⟨t, ht, by omega⟩
theorem laws_szSymS_some (l : List S60) (hl : l.length ≤ maxLen) (hn : ∀ x ∈ l, x.f0.size ≤ maxLen) {k : Nat} {left : Int} (h0 : 0 ≤ left) (h1 : left ≤ 1048576) (hk : 1048577 ≤ k) :
    ∃ t, laws_szSymS.f k l left = some t ∧ t ≤ left ∧ (0 ≤ t → l.length ≤ 1048576) := by
  unfold maxLen at hl
  unfold laws_szSymS.f
  rw [w64 (by omega) (by omega)]
  by_cases hc : left - (l.length : Int) < 0
  · rw [if_pos hc]
    exact ⟨-1, rfl, by omega, by omega⟩
  · rw [if_neg hc]
    obtain ⟨t, ht, hle⟩ := laws_szSymS_l0 l (by omega) hn l.length k 0 (left - l.length) (by omega) (by omega) (by omega) (by omega)
    exact ⟨t, ht, by omega, fun _ => by omega⟩

def symI (x : S60) : S61 := ⟨x.f0, x.f1, x.f2⟩
theorem laws_toSymS_l0 (l : List S60) (hl : l.length ≤ 1048576) : ∀ (n k i : Nat) (y : List S61), i + n = l.length → n < k → y.length = l.length → y.take i = (l.map symI).take i → laws_toSymS.l0 k l y (i : Int) = some (l.map symI) := by
  intro n
  induction n with
  | zero =>
    intro k i y hi hk hy ht
    obtain ⟨k, rfl⟩ : ∃ m, k = m + 1 := ⟨k - 1, by omega⟩
    simp only [laws_toSymS.l0]
    rw [if_neg (by omega)]
    obtain rfl : i = l.length := by omega
    rw [fill_end symI l y hy ht]
  | succ n ih =>
    intro k i y hi hk hy ht
    obtain ⟨k, rfl⟩ : ∃ m, k = m + 1 := ⟨k - 1, by omega⟩
    simp only [laws_toSymS.l0, laws_toSym.f, Option.bind_some]
    rw [if_pos (by omega), if_pos (by omega), if_pos (by omega), up1 (by omega : i < l.length) (by omega)]
    obtain ⟨h1, h2⟩ := fill_step z60 symI l y i (by omega) hy ht
    exact ih k (i + 1) _ (by omega) (by omega) h1 h2
theorem laws_toSymS_eq (l : List S60) (hl : l.length ≤ 1048576) {k : Nat} (hk : 1048577 ≤ k) : laws_toSymS.f k l = some (l.map symI) := by
  unfold laws_toSymS.f
  rw [if_pos (by omega), if_pos (by omega)]
  exact laws_toSymS_l0 l hl l.length k 0 _ (by omega) (by omega) (by simp) (by simp)

theorem laws_eqSymS_l0 (l : List S61) (hl : l.length ≤ 1048576) : ∀ (n k i : Nat), i + n = l.length → n < k → laws_eqSymS.l0 k l l (i : Int) = some true := by
  intro n
  induction n with
  | zero =>
    intro k i hi hk
    obtain ⟨k, rfl⟩ : ∃ m, k = m + 1 := ⟨k - 1, by omega⟩
    simp only [laws_eqSymS.l0]
    rw [if_neg (by omega)]
  | succ n ih =>
    intro k i hi hk
    obtain ⟨k, rfl⟩ : ∃ m, k = m + 1 := ⟨k - 1, by omega⟩
    simp only [laws_eqSymS.l0, laws_eqSym.f, if_true, Option.bind_some]
    rw [if_pos (by omega), if_pos (by omega), if_pos (by omega), up1 (by omega : i < l.length) (by omega)]
    exact ih k (i + 1) (by omega) (by omega)
theorem laws_eqSymS_same (l : List S61) (hl : l.length ≤ 1048576) {k : Nat} (hk : 1048577 ≤ k) : laws_eqSymS.f k l l = some true := by
  unfold laws_eqSymS.f
  rw [if_pos rfl]
  exact laws_eqSymS_l0 l hl l.length k 0 (by omega) (by omega)

theorem spec_HexOf_l0 (d : Nat) (hd : d ≤ 4) : ∀ (m k i a : Nat) (s : List UInt8), i + m = d → m < k → a < 65536 → s.length + m ≤ 4 → spec_HexOf.l0 k (a : Int) (d : Int) ⟨s.toArray⟩ (i : Int) = some (if a / 16 ^ m = 0 then ⟨(36 :: (hexFix m a ++ s)).toArray⟩ else ⟨#[]⟩) := by
  intro m
  induction m with
  | zero =>
    intro k i a s hi hk ha hs
    obtain ⟨k, rfl⟩ : ∃ q, k = q + 1 := ⟨k - 1, by omega⟩
    simp only [spec_HexOf.l0]
    rw [if_neg (by omega)]
    by_cases h : a = 0
    · subst h
      rw [if_neg (by omega), if_pos (by rw [bytes_size]; omega), if_pos (by simp), show (⟨#[36]⟩ : ByteArray) = ⟨[36].toArray⟩ from rfl, bytes_append]
      rfl
    · rw [if_pos (by omega), if_neg (by simp; exact h)]
  | succ m ih =>
    intro k i a s hi hk ha hs
    obtain ⟨k, rfl⟩ : ∃ q, k = q + 1 := ⟨k - 1, by omega⟩
    simp only [spec_HexOf.l0]
    have e1 : Int.tmod (a : Int) 16 = ((a % 16 : Nat) : Int) := by
      rw [Int.tmod_eq_emod_of_nonneg (by omega)]; omega
    have e2 : wrap64 (Int.tdiv (a : Int) 16) = ((a / 16 : Nat) : Int) := by
      rw [Int.tdiv_eq_ediv_of_nonneg (by omega), w64 (by omega) (by omega)]; omega
    have e3 : wrap64 (((a % 16 : Nat) : Int) + 1) = ((a % 16 + 1 : Nat) : Int) := by
      rw [w64 (by omega) (by omega)]; omega
    have e4 : wrap64 ((i : Int) + 1) = ((i + 1 : Nat) : Int) := by
      rw [w64 (by omega) (by omega)]; omega
    simp only [e1, e2, e3, e4, Int.toNat_natCast]
    rw [if_pos (by omega), if_pos (by omega), if_pos (by omega), if_pos (by omega), digit_cut (a % 16) (by omega), if_pos (by rw [bytes_size, bytes_size]; simp; omega), bytes_append, ih k (i + 1) (a / 16) _ (by omega) (by omega) (by omega) (by simp; omega)]
    rw [Nat.pow_succ, Nat.mul_comm, ← Nat.div_div_eq_div_mul]
    simp [hexFix]
theorem spec_HexOf_eq (n d : Int) {k : Nat} (hk : 10 ≤ k) : spec_HexOf.f k n d = some (if inR d 1 4 = true then (if inR n 0 65535 = true then hexText d.toNat n.toNat else ⟨#[]⟩) else ⟨#[]⟩) := by
  obtain ⟨k, rfl⟩ : ∃ q, k = q + 1 := ⟨k - 1, by omega⟩
  unfold spec_HexOf.f
  simp only [spec_l1In_eq, Option.bind_some]
  by_cases h1 : inR d 1 4 = true
  · by_cases h2 : inR n 0 65535 = true
    · simp only [h1, h2, if_true, spec_HexOf.j0, Bool.not_true, Bool.false_eq_true, if_false]
      rw [inR_iff] at h1 h2
      obtain ⟨a, rfl⟩ : ∃ a : Nat, n = (a : Int) := ⟨n.toNat, by omega⟩
      obtain ⟨e, rfl⟩ : ∃ e : Nat, d = (e : Int) := ⟨d.toNat, by omega⟩
      have := spec_HexOf_l0 e (by omega) e k 0 a [] (by omega) (by omega) (by omega) (by simp; omega)
      rw [show ((0 : Nat) : Int) = 0 from rfl, show (⟨([] : List UInt8).toArray⟩ : ByteArray) = ⟨#[]⟩ from rfl, List.append_nil] at this
      rw [this]
      rfl
    · rw [Bool.not_eq_true] at h2
      simp only [h1, h2, if_true, spec_HexOf.j0, Bool.not_false, Bool.false_eq_true, if_false]
  · rw [Bool.not_eq_true] at h1
    simp only [h1, spec_HexOf.j0, Bool.false_eq_true, if_false, if_true]

theorem impl_hexDigits_eq (n d : Nat) (hn : n < 65536) (hd0 : 1 ≤ d) (hd : d ≤ 4) (hz : n / 16 ^ d = 0) : impl_hexDigits.f (n : Int) (d : Int) = some ⟨(hexFix d n).toArray⟩ := by
  unfold impl_hexDigits.f strconv_FormatInt.f
  rw [if_neg (by decide), if_pos rfl, if_pos (by omega), if_pos (by omega)]
  simp only [Option.bind_some, Int.toNat_natCast]
  have hl := hexLow_len n
  unfold strings_ToUpper.f
  rw [if_pos (by rw [bytes_size]; omega), if_pos (by rw [List.all_eq_true]; intro b hb; exact decide_eq_true (hexLow_small n hn b (by simpa using hb)))]
  simp only [Option.bind_some]
  have hsz : (⟨(Go.Lib.toUpperA (hexLow n).toArray.toList).toArray⟩ : ByteArray).size = (hexLow n).length := by rw [bytes_size]; simp [Go.Lib.toUpperA]
  rw [hsz]
  have hm : mx 0 (wrap64 ((d : Int) - ((hexLow n).length : Int))) = ((d - (hexLow n).length : Nat) : Int) := by
    rw [w64 (by omega) (by omega)]
    unfold mx
    split <;> omega
  rw [hm]
  unfold strings_Repeat.f
  rw [if_pos (by omega), if_pos (by omega), if_pos (by rw [show (⟨#[48]⟩ : ByteArray).size = 1 from rfl]; omega)]
  simp only [Option.bind_some, Int.toNat_natCast]
  have hr : (⟨(Go.Lib.repeatL (⟨#[48]⟩ : ByteArray).data.toList (d - (hexLow n).length)).toArray⟩ : ByteArray).size = d - (hexLow n).length := by
    rw [bytes_size, Go.Lib.repeatL_length]; simp
  rw [hr, if_pos (by omega), bytes_append]
  have := hexPad d n hd0 hd hz hn
  rw [← this]
  simp [Go.Lib.toUpperA]
theorem shr_hex (n d : Nat) (hd : d ≤ 4) : shr .i64 (n : Int) (4 * (d : Int)) = ((n / 16 ^ d : Nat) : Int) := by
  unfold shr
  have e : min (4 * (d : Int)).toNat IntKind.i64.bits = 4 * d := by
    rw [show (4 * (d : Int)).toNat = 4 * d by omega]
    exact Nat.min_eq_left (by show 4 * d ≤ 64; omega)
  have hp : (2 : Int) ^ (4 * d) = ((16 ^ d : Nat) : Int) := by
    have h4 : d = 0 ∨ d = 1 ∨ d = 2 ∨ d = 3 ∨ d = 4 := by omega
    rcases h4 with rfl | rfl | rfl | rfl | rfl <;> rfl
  rw [e, hp]
  rfl
theorem impl_HexOf_eq (n d : Int) : impl_HexOf.f n d = some (if inR d 1 4 = true then (if inR n 0 65535 = true then hexText d.toNat n.toNat else ⟨#[]⟩) else ⟨#[]⟩) := by
  unfold impl_HexOf.f
  simp only [impl_within_eq, impl_isWord_eq, Option.bind_some]
  by_cases h1 : inR d 1 4 = true
  · by_cases h2 : inR n 0 65535 = true
    · simp only [h1, h2, if_true]
      rw [inR_iff] at h1 h2
      obtain ⟨a, rfl⟩ : ∃ a : Nat, n = (a : Int) := ⟨n.toNat, by omega⟩
      obtain ⟨e, rfl⟩ : ∃ e : Nat, d = (e : Int) := ⟨d.toNat, by omega⟩
      rw [w64 (by omega) (by omega), if_pos (by omega), shr_hex a e (by omega)]
      unfold hexText
      simp only [Int.toNat_natCast]
      by_cases hz : a / 16 ^ e = 0
      · rw [hz, if_neg (by decide), impl_hexDigits_eq a e (by omega) (by omega) (by omega) hz, if_pos rfl]
        simp only [Option.bind_some]
        rw [if_pos (by rw [bytes_size, hexFix_len]; omega), show (⟨#[36]⟩ : ByteArray) = ⟨[36].toArray⟩ from rfl, bytes_append]
        rfl
      · rw [if_pos (show ((a / 16 ^ e : Nat) : Int) > 0 from Int.natCast_pos.2 (Nat.pos_of_ne_zero hz)), if_neg hz]
    · rw [Bool.not_eq_true] at h2
      simp only [h1, h2, if_true, Bool.false_eq_true, if_false]
  · rw [Bool.not_eq_true] at h1
    simp only [h1, Bool.false_eq_true, if_false]

--NEEDS spec_HexOf
def symOk (y : S61) : Bool := nameOk y.f0 && (inR y.f1 0 255 && inR y.f2 0 65535)
def risesOk : Option S61 → S61 → Bool
  | none, _ => true
  | some p, y => Op.bytesLess p.f0.toList y.f0.toList
def symsOk : Option S61 → List S61 → Bool
  | _, [] => true
  | p, y :: r => symOk y && (risesOk p y && symsOk (some y) r)
def symL (y : S61) : List UInt8 := hexFix 2 y.f1.toNat ++ (58 :: (hexFix 4 y.f2.toNat ++ (32 :: (y.f0.data.toList ++ [10]))))
def symsL : List S61 → List UInt8
  | [] => []
  | y :: r => symL y ++ symsL r
def prevAt (l : List S61) : Nat → Option S61
  | 0 => none
  | i + 1 => some (l.getD i z61)
theorem hex_cut (d n : Nat) (hz : n / 16 ^ d = 0) : (hexText d n).size = d + 1 ∧ ((hexText d n).extract 1 (hexText d n).size).data.toList = hexFix d n := by
  have e : hexText d n = ⟨(36 :: hexFix d n).toArray⟩ := by unfold hexText; rw [if_pos hz]
  have hs : (hexText d n).size = d + 1 := by
    rw [e]
    show (36 :: hexFix d n).length = _
    rw [List.length_cons, hexFix_len]
  refine ⟨hs, ?_⟩
  rw [ByteArray.data_extract, Array.toList_extract, List.extract, hs, e]
  simp
  exact List.take_of_length_le (by rw [hexFix_len]; exact Nat.le_refl _)
theorem symOk_parts {y : S61} (h : symOk y = true) : y.f0.size ≤ 16 ∧ (0 ≤ y.f1 ∧ y.f1 ≤ 255) ∧ (0 ≤ y.f2 ∧ y.f2 ≤ 65535) := by
  unfold symOk nameOk at h
  simp only [Bool.and_eq_true, inR_iff] at h
  exact ⟨by omega, h.2.1, h.2.2⟩
theorem symL_len {y : S61} (h : symOk y = true) : (symL y).length ≤ 25 := by
  have := symOk_parts h
  have hl : y.f0.data.toList.length = y.f0.size := by rw [Array.length_toList]; rfl
  unfold symL
  simp only [List.length_append, List.length_cons, hexFix_len, List.length_nil]
  omega
theorem spec_SymText_j1 (l : List S61) (i : Nat) (y : S61) (acc : ByteArray) (ha : acc.size ≤ 100000) (hy : symOk y = true) (hw : wrap64 ((i : Int) + 1) = ((i + 1 : Nat) : Int)) {k : Nat} (hk : 30 ≤ k) :
    spec_SymText.j1 (k + 1) l acc (i : Int) false y.f0 y.f1 y.f2 = spec_SymText.l0 k l ⟨(acc.data.toList ++ symL y).toArray⟩ ((i + 1 : Nat) : Int) := by
  obtain ⟨h0, h1, h2⟩ := symOk_parts hy
  obtain ⟨b, hb⟩ : ∃ b : Nat, y.f1 = (b : Int) := ⟨y.f1.toNat, by omega⟩
  obtain ⟨v, hv⟩ : ∃ v : Nat, y.f2 = (v : Int) := ⟨y.f2.toNat, by omega⟩
  have hx : spec_HexOf.f k y.f1 2 = some (hexText 2 b) := by
    rw [spec_HexOf_eq y.f1 2 (by omega), if_pos (by decide), if_pos (inR_pos h1.1 (by omega)), hb]
    rfl
  have hz : spec_HexOf.f k y.f2 4 = some (hexText 4 v) := by
    rw [spec_HexOf_eq y.f2 4 (by omega), if_pos (by decide), if_pos (inR_pos h2.1 h2.2), hv]
    rfl
  obtain ⟨s2, e2⟩ := hex_cut 2 b (by rw [show 16 ^ 2 = 256 from rfl]; omega)
  obtain ⟨s4, e4⟩ := hex_cut 4 v (by rw [show 16 ^ 4 = 65536 from rfl]; omega)
  have x2 : ((hexText 2 b).extract 1 (hexText 2 b).size).size = 2 := by rw [ByteArray.size_extract, s2]; omega
  have x4 : ((hexText 4 v).extract 1 (hexText 4 v).size).size = 4 := by rw [ByteArray.size_extract, s4]; omega
  have c1 : (⟨#[58]⟩ : ByteArray).size = 1 := rfl
  have c2 : (⟨#[32]⟩ : ByteArray).size = 1 := rfl
  simp only [spec_SymText.j1, if_neg Bool.false_ne_true, hx, hz, Option.bind_some]
  rw [if_pos (by omega), if_pos (by omega), if_pos (by rw [ByteArray.size_append]; omega), if_pos (by omega), if_pos (by simp only [ByteArray.size_append]; omega), if_pos (by simp only [ByteArray.size_append]; omega), if_pos (by simp only [ByteArray.size_append]; omega), if_pos (by simp only [ByteArray.size_append]; omega), hw]
  refine congrArg (fun z => spec_SymText.l0 k l z _) ?_
  refine ByteArray.ext (Array.toList_inj.1 ?_)
  simp only [ByteArray.data_append, Array.toList_append, e2, e4, symL, hb, hv, Int.toNat_natCast]
  simp
theorem spec_SymText_l0 (l : List S61) (hl : l.length ≤ 1048576) : ∀ (n k i : Nat) (acc : ByteArray), i + n = l.length → i ≤ 800 → acc.size ≤ 30 * i → 2 * n + 60 < k → spec_SymText.l0 k l acc (i : Int) = some (if symsOk (prevAt l i) (l.drop i) = true ∧ l.length ≤ 800 then ⟨(acc.data.toList ++ symsL (l.drop i)).toArray⟩ else ⟨#[]⟩) := by
  intro n
  induction n with
  | zero =>
    intro k i acc hi h8 ha hk
    obtain ⟨k, rfl⟩ : ∃ m, k = m + 1 := ⟨k - 1, by omega⟩
    rw [List.drop_eq_nil_of_le (by omega)]
    simp only [spec_SymText.l0]
    rw [if_neg (by omega), if_pos ⟨rfl, by omega⟩, symsL, List.append_nil]
  | succ n ih =>
    intro k i acc hi h8 ha hk
    obtain ⟨k, rfl⟩ : ∃ m, k = m + 2 := ⟨k - 2, by omega⟩
    have hrd : rd_T61 l (i : Int) = l.getD i z61 := by unfold rd_T61; rw [Int.toNat_natCast]
    have hw : wrap64 ((i : Int) + 1) = ((i + 1 : Nat) : Int) := up1 (by omega : i < l.length) (by omega)
    rw [drop_at z61 l i (by omega), symsOk, symsL]
    rw [spec_SymText.l0, if_pos (by omega), if_pos (by omega), hrd]
    generalize hy : l.getD i z61 = y
    have bad : spec_SymText.j1 (k + 1) l acc (i : Int) true y.f0 y.f1 y.f2 = some (⟨#[]⟩ : ByteArray) := by simp only [spec_SymText.j1, if_true]
    rw [spec_NameOk_eq y.f0 (by omega), spec_l4Byte_eq, spec_l4Word_eq]
    simp only [Option.bind_some, bad]
    by_cases hs : symOk y = true
    · have hs' := hs
      unfold symOk at hs'
      simp only [Bool.and_eq_true] at hs'
      rw [if_pos hs'.1, if_pos hs'.2.1, if_pos hs'.2.2, hs, Bool.true_and]
      have good : i < 800 → spec_SymText.j1 (k + 1) l acc (i : Int) (decide ((i : Int) ≥ 800)) y.f0 y.f1 y.f2 = some (if symsOk (some y) (l.drop (i + 1)) = true ∧ l.length ≤ 800 then ⟨(acc.data.toList ++ (symL y ++ symsL (l.drop (i + 1)))).toArray⟩ else ⟨#[]⟩) := by
        intro hlt
        rw [decide_eq_false (by omega), spec_SymText_j1 l i y acc (by omega) hs hw (by omega)]
        have hL := symL_len hs
        rw [ih k (i + 1) _ (by omega) (by omega) (by
          show (acc.data.toList ++ symL y).length ≤ _
          have : acc.data.toList.length = acc.size := by rw [Array.length_toList]; rfl
          rw [List.length_append]
          omega) (by omega)]
        rw [show prevAt l (i + 1) = some y from by rw [prevAt, hy], List.append_assoc]
      have over : ¬ i < 800 → spec_SymText.j1 (k + 1) l acc (i : Int) (decide ((i : Int) ≥ 800)) y.f0 y.f1 y.f2 = some (⟨#[]⟩ : ByteArray) := by
        intro hge
        rw [decide_eq_true (by omega), bad]
      cases i with
      | zero =>
        rw [if_neg (by omega), good (by omega)]
        rfl
      | succ j =>
        have hwj : wrap64 (((j + 1 : Nat) : Int) - 1) = (j : Int) := by rw [w64 (by omega) (by omega)]; omega
        have hrj : rd_T61 l (j : Int) = l.getD j z61 := by unfold rd_T61; rw [Int.toNat_natCast]
        rw [if_pos (by omega), hwj, if_pos (by omega), if_pos (by omega), hrj]
        rw [show risesOk (prevAt l (j + 1)) y = Op.bytesLess (l.getD j z61).f0.toList y.f0.toList from rfl]
        by_cases hb : Op.bytesLess (l.getD j z61).f0.toList y.f0.toList = true
        · rw [if_pos hb, hb, Bool.true_and]
          by_cases hlt : j + 1 < 800
          · exact good hlt
          · rw [over hlt, if_neg (fun e => by omega)]
        · have hb' : Op.bytesLess (l.getD j z61).f0.toList y.f0.toList = false := by simpa using hb
          rw [if_neg hb, hb', Bool.false_and, if_neg (fun e => by cases e.1)]
    · have hrhs : ∀ (z : Bool), ¬ ((symOk y && z) = true ∧ l.length ≤ 800) := fun z e => hs (by have := e.1; rw [Bool.and_eq_true] at this; exact this.1)
      rw [if_neg (hrhs _)]
      by_cases h1 : nameOk y.f0 = true
      · rw [if_pos h1]
        by_cases h2 : inR y.f1 0 255 = true
        · rw [if_pos h2]
          by_cases h3 : inR y.f2 0 65535 = true
          · exact absurd (by unfold symOk; rw [h1, h2, h3]; rfl) hs
          · rw [if_neg h3]
        · rw [if_neg h2]
      · rw [if_neg h1]
def symTextP (l : List S61) : ByteArray := if symsOk none l = true ∧ l.length ≤ 800 then ⟨(symsL l).toArray⟩ else ⟨#[]⟩
theorem spec_SymText_eq (l : List S61) (hl : l.length ≤ 1048576) {k : Nat} (hk : 2 * l.length + 60 < k) : spec_SymText.f k l = some (symTextP l) := by
  have := spec_SymText_l0 l hl l.length k 0 ⟨#[]⟩ (by omega) (by omega) (by show 0 ≤ _; omega) hk
  unfold spec_SymText.f symTextP
  refine this.trans ?_
  rw [List.drop_zero]
  rfl

theorem impl_isSym_eq (y : S61) {k : Nat} (hk : 20 ≤ k) : impl_isSym.f k y.f0 y.f1 y.f2 = some (symOk y) := by
  unfold impl_isSym.f symOk
  rw [impl_NameOk_eq y.f0 hk, impl_isByte_eq, impl_isWord_eq]
  simp only [Option.bind_some]
  cases nameOk y.f0 <;> cases inR y.f1 0 255 <;> simp
theorem impl_areSyms_l0 (l : List S61) (hl : l.length ≤ 1048576) : ∀ (n k i : Nat), i + n = l.length → n + 40 < k → impl_areSyms.l0 k l l (l.length : Int) (i : Int) = some (symsOk (prevAt l i) (l.drop i) && decide ((l.length : Int) ≤ 800)) := by
  intro n
  induction n with
  | zero =>
    intro k i hi hk
    obtain ⟨k, rfl⟩ : ∃ m, k = m + 1 := ⟨k - 1, by omega⟩
    rw [List.drop_eq_nil_of_le (by omega)]
    simp only [impl_areSyms.l0]
    rw [if_neg (by omega), symsOk, Bool.true_and]
  | succ n ih =>
    intro k i hi hk
    obtain ⟨k, rfl⟩ : ∃ m, k = m + 1 := ⟨k - 1, by omega⟩
    have hrd : rd_T61 l (i : Int) = l.getD i z61 := by unfold rd_T61; rw [Int.toNat_natCast]
    have hw : wrap64 ((i : Int) + 1) = ((i + 1 : Nat) : Int) := up1 (by omega : i < l.length) (by omega)
    have next := ih k (i + 1) (by omega) (by omega)
    rw [drop_at z61 l i (by omega), symsOk, impl_areSyms.l0, if_pos (by omega), if_pos (by omega), if_pos (by omega), hrd, hw, next]
    have hpv : prevAt l (i + 1) = some (l.getD i z61) := rfl
    rw [hpv]
    generalize l.getD i z61 = y
    rw [impl_isSym_eq y (by omega)]
    simp only [Option.bind_some]
    cases symOk y with
    | false => rw [if_neg (by decide), Bool.false_and, Bool.false_and]
    | true =>
      rw [if_pos rfl, Bool.true_and]
      cases i with
      | zero =>
        rw [if_neg (by omega)]
        rfl
      | succ j =>
        have hwj : wrap64 (((j + 1 : Nat) : Int) - 1) = (j : Int) := by rw [w64 (by omega) (by omega)]; omega
        have hrj : rd_T61 l (j : Int) = l.getD j z61 := by unfold rd_T61; rw [Int.toNat_natCast]
        rw [if_pos (by omega), hwj, if_pos (by omega), if_pos (by omega), hrj]
        rw [show risesOk (prevAt l (j + 1)) y = Op.bytesLess (l.getD j z61).f0.toList y.f0.toList from rfl]
        by_cases hb : Op.bytesLess (l.getD j z61).f0.toList y.f0.toList = true
        · rw [if_pos hb, hb, Bool.true_and]
        · have hb' : Op.bytesLess (l.getD j z61).f0.toList y.f0.toList = false := by simpa using hb
          rw [if_neg hb, hb', Bool.false_and, Bool.false_and]
theorem impl_symText_row (y : S61) (hy : symOk y = true) : impl_symText.row y = some ⟨(symL y).toArray⟩ := by
  obtain ⟨h0, h1, h2⟩ := symOk_parts hy
  obtain ⟨b, hb⟩ : ∃ b : Nat, y.f1 = (b : Int) := ⟨y.f1.toNat, by omega⟩
  obtain ⟨v, hv⟩ : ∃ v : Nat, y.f2 = (v : Int) := ⟨y.f2.toNat, by omega⟩
  have e2 : impl_hexDigits.f (b : Int) 2 = some ⟨(hexFix 2 b).toArray⟩ := impl_hexDigits_eq b 2 (by omega) (by decide) (by decide) (by rw [show 16 ^ 2 = 256 from rfl]; omega)
  have e4 : impl_hexDigits.f (v : Int) 4 = some ⟨(hexFix 4 v).toArray⟩ := impl_hexDigits_eq v 4 (by omega) (by decide) (by decide) (by rw [show 16 ^ 4 = 65536 from rfl]; omega)
  have z2 : (⟨(hexFix 2 b).toArray⟩ : ByteArray).size = 2 := hexFix_len 2 b
  have z4 : (⟨(hexFix 4 v).toArray⟩ : ByteArray).size = 4 := hexFix_len 4 v
  have hl : y.f0.data.toList.length = y.f0.size := by rw [Array.length_toList]; rfl
  have e58 : ((⟨(hexFix 2 b).toArray⟩ : ByteArray) ++ (⟨#[58]⟩ : ByteArray)) ++ ⟨(hexFix 4 v).toArray⟩ = ⟨(hexFix 2 b ++ (58 :: hexFix 4 v)).toArray⟩ := by
    refine ByteArray.ext (Array.toList_inj.1 ?_)
    simp [ByteArray.data_append, Array.toList_append]
  unfold impl_symText.row
  rw [hb, hv, e2, e4]
  simp only [Option.bind_some]
  rw [if_pos ⟨by omega, by omega⟩, e58]
  unfold impl_spaced.f strings_Join.f
  have hj : Go.Lib.join ([(⟨(hexFix 2 b ++ (58 :: hexFix 4 v)).toArray⟩ : ByteArray), y.f0].map (·.data.toList)) (⟨#[32]⟩ : ByteArray).data.toList = hexFix 2 b ++ (58 :: (hexFix 4 v ++ (32 :: y.f0.data.toList))) := by
    show Go.Lib.join [hexFix 2 b ++ (58 :: hexFix 4 v), y.f0.data.toList] [32] = _
    rw [Go.Lib.join_cons]
    simp [Go.Lib.joinTail]
  have hlen : (hexFix 2 b ++ (58 :: (hexFix 4 v ++ (32 :: y.f0.data.toList)))).length ≤ 100 := by
    simp only [List.length_append, List.length_cons, hexFix_len]
    omega
  rw [hj, if_pos (by show 2 ≤ _; omega), if_pos (by omega)]
  simp only [Option.bind_some]
  have hz : (⟨(hexFix 2 b ++ (58 :: (hexFix 4 v ++ (32 :: y.f0.data.toList)))).toArray⟩ : ByteArray).size ≤ 100 := hlen
  rw [if_pos (by omega)]
  refine congrArg some (ByteArray.ext (Array.toList_inj.1 ?_))
  simp [ByteArray.data_append, Array.toList_append, symL, hb, hv]
theorem impl_symText_go : ∀ (l : List S61) (p : Option S61) (acc : ByteArray), symsOk p l = true → acc.size + 30 * l.length ≤ 140737488355328 → impl_symText.go l acc = some ⟨(acc.data.toList ++ symsL l).toArray⟩
  | [], _, acc, _, _ => by
    rw [impl_symText.go, symsL, List.append_nil]
  | y :: r, p, acc, h, hs => by
    rw [symsOk, Bool.and_eq_true, Bool.and_eq_true] at h
    have hL := symL_len h.1
    have hz : (⟨(symL y).toArray⟩ : ByteArray).size = (symL y).length := rfl
    rw [List.length_cons] at hs
    rw [impl_symText.go, impl_symText_row y h.1]
    simp only [Option.bind_some]
    rw [if_pos (by omega), impl_symText_go r (some y) _ h.2.2 (by rw [ByteArray.size_append, hz]; omega), symsL]
    simp [ByteArray.data_append, Array.toList_append]
theorem impl_SymText_eq (l : List S61) (hl : l.length ≤ 1048576) {k : Nat} (hk : l.length + 60 < k) : impl_SymText.f k l = some (symTextP l) := by
  have h := impl_areSyms_l0 l hl l.length k 0 (by omega) (by omega)
  rw [show ((0 : Nat) : Int) = 0 from rfl, List.drop_zero, show prevAt l 0 = none from rfl] at h
  unfold impl_SymText.f impl_areSyms.f symTextP
  rw [h]
  simp only [Option.bind_some]
  by_cases hc : symsOk none l = true ∧ l.length ≤ 800
  · rw [if_pos hc, hc.1, decide_eq_true (by omega : (l.length : Int) ≤ 800), if_pos (show (true && true) = true from rfl)]
    have hg := impl_symText_go l none ⟨#[]⟩ hc.1 (by show 0 + _ ≤ _; omega)
    unfold impl_symText.f
    rw [hg]
    rfl
  · rw [if_neg hc, if_neg]
    intro e
    rw [Bool.and_eq_true, decide_eq_true_eq] at e
    exact hc ⟨e.1, by omega⟩

open Go.Proofs.YtmiebnpmckjidaaDoor.Kin in
theorem FnExactSymText (l : List S60) (h : l.length ≤ maxLen ∧ ∀ x ∈ l, okT60 x) : ∃ k, laws_FnExactSymText.f k l = some true := by
  refine ⟨4000000, ?_⟩
  unfold laws_FnExactSymText.f
  obtain ⟨t, ht, hle, hlen⟩ := laws_szSymS_some l h.1 (fun x hx => (h.2 x hx).1) (k := 4000000) (left := 1048576) (by decide) (by decide) (by decide)
  rw [ht]
  simp only [Option.bind_some]
  by_cases hc : t < 0
  · rw [if_pos hc]
  · rw [if_neg hc]
    have hl := hlen (by omega)
    have hm : (l.map symI).length ≤ 1048576 := by simpa using hl
    rw [laws_toSymS_eq l hl (by decide)]
    simp only [Option.bind_some]
    rw [spec_SymText_eq _ hm (by omega), impl_SymText_eq _ hm (by omega)]
    simp only [Option.bind_some, if_true]
    rw [laws_eqSymS_same _ hm (by decide)]
    simp

end Go.Proofs.YtmiebnpmckjidaaDoor.Pure
