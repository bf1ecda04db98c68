/-
The law FnExactReadSyms, told as a plain function of the text, answers true for every input.
-/
import Derived.Test.YtmiebnpmckjidaaDoorPFnExactReadSymsx10
import Derived.Test.YtmiebnpmckjidaaDoorAidA
import Derived.Test.YtmiebnpmckjidaaDoorAidB
import Derived.Test.YtmiebnpmckjidaaDoorAidC
import Derived.Test.YtmiebnpmckjidaaDoorAidH
import Derived.Test.YtmiebnpmckjidaaDoorAidL
import Derived.Test.YtmiebnpmckjidaaDoorAidJ
import Derived.Test.YtmiebnpmckjidaaDoorAidO
import Derived.Test.YtmiebnpmckjidaaDoorAidM
namespace Go.Proofs.YtmiebnpmckjidaaDoor.Pure
open Go.RowKit Go.Proofs.YtmiebnpmckjidaaDoor.Aid Go.Proofs.YtmiebnpmckjidaaDoor.PFnExactReadSyms Go.Proofs.YtmiebnpmckjidaaDoorW.PrintWords Go.Proofs.YtmiebnpmckjidaaDoorW.PrintLast Go.Proofs.YtmiebnpmckjidaaDoorW.PrintMore
set_option linter.unusedVariables false
set_option linter.unusedSimpArgs false

theorem spec_l1In_eq (a b c : Int) : spec_l1In.f a b c = some (inR a b c) := by
  unfold spec_l1In.f inR
  by_cases h : a ≥ b
  · rw [if_pos h, decide_eq_true (show b ≤ a from h)]
    rfl
  · rw [if_neg h, decide_eq_false (show ¬ b ≤ a from h)]
    rfl

theorem impl_within_eq (a b c : Int) : impl_within.f a b c = some (inR a b c) := by
  unfold impl_within.f inR
  by_cases h : a ≥ b
  · rw [if_pos h, decide_eq_true (show b ≤ a from h)]
    rfl
  · rw [if_neg h, decide_eq_false (show ¬ b ≤ a from h)]
    rfl

theorem impl_isByte_eq (a : Int) : impl_isByte.f a = some (inR a 0 255) := by
  unfold impl_isByte.f
  rw [impl_within_eq]
  rfl

theorem impl_isWord_eq (a : Int) : impl_isWord.f a = some (inR a 0 65535) := by
  unfold impl_isWord.f
  rw [impl_within_eq]
  rfl

theorem spec_l4Byte_eq (a : Int) : spec_l4Byte.f a = some (inR a 0 255) := by
  unfold spec_l4Byte.f
  rw [spec_l1In_eq]
  rfl

theorem spec_l4Word_eq (a : Int) : spec_l4Word.f a = some (inR a 0 65535) := by
  unfold spec_l4Word.f
  rw [spec_l1In_eq]
  rfl

theorem spec_l1Letter_eq (c : Int) : spec_l1Letter.f c = some (isLet c) := by
  unfold spec_l1Letter.f isLet inR
  by_cases h1 : c ≥ 97
  · by_cases h2 : c ≤ 122
    · simp [h1, h2]
    · by_cases h3 : c = 95
      · simp [h3]
      · simp [h1, h2, h3]
  · by_cases h3 : c = 95
    · simp [h3]
    · simp [h1, h3]

theorem impl_isDigit_eq (c : Int) : impl_isDigit.f c = some (inR c 48 57) := by
  unfold impl_isDigit.f inR
  by_cases h : c ≥ 48
  · rw [if_pos h, decide_eq_true (show 48 ≤ c from h)]
    rfl
  · rw [if_neg h, decide_eq_false (show ¬ 48 ≤ c from h)]
    rfl

theorem impl_isSmall_eq (c : Int) : impl_isSmall.f c = some (inR c 97 122) := by
  unfold impl_isSmall.f inR
  by_cases h : c ≥ 97
  · rw [if_pos h, decide_eq_true (show 97 ≤ c from h)]
    rfl
  · rw [if_neg h, decide_eq_false (show ¬ 97 ≤ c from h)]
    rfl

theorem spec_NameOk_l0 (s : ByteArray) (hs : s.size ≤ 140737488351232) : ∀ (n k i : Nat), i + n = s.size → n < k → spec_NameOk.l0 k s (i : Int) = some (allB isNam s n i) := by
  intro n
  induction n with
  | zero =>
    intro k i hi hk
    obtain ⟨k, rfl⟩ : ∃ m, k = m + 1 := ⟨k - 1, by omega⟩
    simp only [spec_NameOk.l0]
    rw [if_neg (by omega)]
    rfl
  | succ n ih =>
    intro k i hi hk
    obtain ⟨k, rfl⟩ : ∃ m, k = m + 1 := ⟨k - 1, by omega⟩
    have hn := ih k (i + 1) (by omega) (by omega)
    have hw : wrap64 ((i : Int) + 1) = ((i + 1 : Nat) : Int) := by rw [w64 (by omega) (by omega)]; omega
    simp only [spec_NameOk.l0]
    rw [if_pos (by omega), if_pos (by omega), spec_l1Letter_eq, hw, hn]
    simp only [Option.bind_some, allB, isNam, inR]
    by_cases h1 : isLet (bt s i) = true
    · simp [h1]
    · by_cases h2 : bt s i ≥ 48
      · by_cases h3 : bt s i ≤ 57
        · simp [h1, h2, h3]
        · simp [h1, h2, h3]
      · simp [h1, h2]
theorem spec_NameOk_eq (s : ByteArray) {k : Nat} (hk : 20 ≤ k) : spec_NameOk.f k s = some (nameOk s) := by
  unfold spec_NameOk.f nameOk
  obtain ⟨k, rfl⟩ : ∃ m, k = m + 1 := ⟨k - 1, by omega⟩
  simp only [spec_NameOk.j0]
  by_cases h1 : (s.size : Int) < 1
  · rw [if_pos h1, inR_neg (by omega)]
    rfl
  · by_cases h2 : (s.size : Int) > 16
    · rw [if_neg h1, if_pos h2, inR_neg (by omega)]
      rfl
    · have hl := spec_NameOk_l0 s (by omega) s.size k 0 (by omega) (by omega)
      rw [if_neg h1, if_neg h2, inR_pos (by omega) (by omega), if_pos (by omega), spec_l1Letter_eq]
      simp only [Option.bind_some, Bool.true_and]
      rw [show ((0 : Nat) : Int) = 0 from rfl] at hl
      rw [hl]
      obtain ⟨n, hn⟩ : ∃ n, s.size = n + 1 := ⟨s.size - 1, by omega⟩
      by_cases h3 : isLet (bt s 0) = true
      · rw [h3, isLet_dig h3]
        simp
      · have h3' : isLet (bt s 0) = false := by simpa using h3
        rw [h3', hn]
        simp only [Bool.not_false, if_true, allB]
        rw [show bt s ((0 : Nat) : Int) = bt s 0 from rfl]
        unfold isNam
        rw [h3']
        cases inR (bt s 0) 48 57 <;> simp

theorem impl_NameOk_l0 (s : ByteArray) (hs : s.size ≤ 140737488351232) : ∀ (n k i : Nat), i + n = s.size → n < k → impl_NameOk.l0 k s (s.size : Int) (i : Int) = some (allB isNam s n i) := by
  intro n
  induction n with
  | zero =>
    intro k i hi hk
    obtain ⟨k, rfl⟩ : ∃ m, k = m + 1 := ⟨k - 1, by omega⟩
    simp only [impl_NameOk.l0]
    rw [if_neg (by omega)]
    rfl
  | succ n ih =>
    intro k i hi hk
    obtain ⟨k, rfl⟩ : ∃ m, k = m + 1 := ⟨k - 1, by omega⟩
    have hn := ih k (i + 1) (by omega) (by omega)
    have hw : wrap64 ((i : Int) + 1) = ((i + 1 : Nat) : Int) := by rw [w64 (by omega) (by omega)]; omega
    simp only [impl_NameOk.l0]
    rw [if_pos (by omega), if_pos (by omega), if_pos (by omega), impl_isSmall_eq, impl_isDigit_eq, hw, hn]
    simp only [Option.bind_some, allB, isNam, isLet]
    by_cases h1 : inR (bt s i) 97 122 = true
    · simp [h1]
    · by_cases h2 : inR (bt s i) 48 57 = true
      · simp [h1, h2]
      · by_cases h3 : bt s i = 95
        · simp [h1, h2, h3]
        · by_cases h4 : bt s i = 46
          · simp [h1, h2, h3, h4]
          · simp [h1, h2, h3, h4]
theorem impl_NameOk_eq (s : ByteArray) {k : Nat} (hk : 20 ≤ k) : impl_NameOk.f k s = some (nameOk s) := by
  unfold impl_NameOk.f nameOk
  obtain ⟨k, rfl⟩ : ∃ m, k = m + 1 := ⟨k - 1, by omega⟩
  simp only [impl_NameOk.j0, impl_within_eq, Option.bind_some]
  by_cases h1 : 1 ≤ (s.size : Int) ∧ (s.size : Int) ≤ 16
  · have hl := impl_NameOk_l0 s (by omega) s.size k 0 (by omega) (by omega)
    rw [inR_pos h1.1 h1.2, if_pos rfl, if_pos (by omega), impl_isDigit_eq]
    simp only [Option.bind_some, Bool.true_and]
    rw [show ((0 : Nat) : Int) = 0 from rfl] at hl
    rw [hl]
    cases inR (bt s 0) 48 57 <;> simp
  · rw [inR_neg h1]
    rfl

theorem laws_eqSymS_l0 (l : List S61) (hl : l.length ≤ 1048576) : ∀ (n k i : Nat), i + n = l.length → n < k → laws_eqSymS.l0 k l l (i : Int) = some true := by
  intro n
  induction n with
  | zero =>
    intro k i hi hk
    obtain ⟨k, rfl⟩ : ∃ m, k = m + 1 := ⟨k - 1, by omega⟩
    simp only [laws_eqSymS.l0]
    rw [if_neg (by omega)]
  | succ n ih =>
    intro k i hi hk
    obtain ⟨k, rfl⟩ : ∃ m, k = m + 1 := ⟨k - 1, by omega⟩
    simp only [laws_eqSymS.l0, laws_eqSym.f, if_true, Option.bind_some]
    rw [if_pos (by omega), if_pos (by omega), if_pos (by omega), up1 (by omega : i < l.length) (by omega)]
    exact ih k (i + 1) (by omega) (by omega)
theorem laws_eqSymS_same (l : List S61) (hl : l.length ≤ 1048576) {k : Nat} (hk : 1048577 ≤ k) : laws_eqSymS.f k l l = some true := by
  unfold laws_eqSymS.f
  rw [if_pos rfl]
  exact laws_eqSymS_l0 l hl l.length k 0 (by omega) (by omega)

theorem spec_l1Digit_eq {k : Nat} (hk : 1 ≤ k) {c : Int} (h0 : 0 ≤ c) (h1 : c ≤ 255) : spec_l1Digit.f k c = some (dig c) := by
  obtain ⟨k, rfl⟩ : ∃ m, k = m + 1 := ⟨k - 1, by omega⟩
  unfold spec_l1Digit.f dig
  simp only [spec_l1Digit.j0]
  by_cases a1 : 48 ≤ c ∧ c ≤ 57
  · rw [if_pos a1.1, decide_eq_true a1.2, if_pos rfl, inR_pos a1.1 a1.2, if_pos rfl]
    congr 1
    omega
  · rw [inR_neg a1]
    have e : (if c ≥ 48 then (if decide (c ≤ 57) = true then some ((c - 48) % 256) else if c ≥ 65 then if c ≤ 70 then some ((c - 65) % 256 + 10) else some 99 else some 99) else if false = true then some ((c - 48) % 256) else if c ≥ 65 then if c ≤ 70 then some ((c - 65) % 256 + 10) else some 99 else some 99) = (if c ≥ 65 then if c ≤ 70 then some ((c - 65) % 256 + 10) else some 99 else some 99) := by
      by_cases b1 : c ≥ 48
      · rw [if_pos b1, decide_eq_false (by omega)]
        rfl
      · rw [if_neg b1]
        rfl
    rw [e]
    by_cases a2 : 65 ≤ c ∧ c ≤ 70
    · rw [if_pos a2.1, if_pos a2.2, inR_pos a2.1 a2.2]
      simp only [Bool.false_eq_true, if_false, if_true]
      congr 1
      omega
    · rw [inR_neg a2]
      simp only [Bool.false_eq_true, if_false]
      by_cases b2 : c ≥ 65
      · rw [if_pos b2, if_neg (by omega)]
      · rw [if_neg b2]

theorem spec_l1Base_l0 (s : ByteArray) (hs : s.size ≤ 1048576) (base : Int) (hb : 0 ≤ base ∧ base ≤ 16) : ∀ (n k i : Nat) (acc : Int), i + n = s.size → n + 5 ≤ k → 0 ≤ acc → acc ≤ 65535 →
    spec_l1Base.l0 k s base acc (i : Int) = some (match baseGo base s n i acc with | none => (0, false) | some v => (v, s.toList != ([] : List UInt8))) := by
  intro n
  induction n with
  | zero =>
    intro k i acc hi hk h0 h1
    obtain ⟨k, rfl⟩ : ∃ m, k = m + 1 := ⟨k - 1, by omega⟩
    simp only [spec_l1Base.l0, baseGo]
    rw [if_neg (by omega)]
  | succ n ih =>
    intro k i acc hi hk h0 h1
    obtain ⟨k, rfl⟩ : ∃ m, k = m + 1 := ⟨k - 1, by omega⟩
    have hd := dig_nonneg (c := bt s (i : Int))
    have hm : 0 ≤ acc * base := Int.mul_nonneg h0 hb.1
    have hM : acc * base ≤ 65535 * 16 := Int.mul_le_mul h1 hb.2 hb.1 (by decide)
    simp only [spec_l1Base.l0, baseGo]
    rw [if_pos (by omega), if_pos (by omega), spec_l1Digit_eq (by omega) (bt_nonneg _ _) (bt_le _ _), w64 (n := acc * base) (by omega) (by omega), up1 (by omega : i < s.size) (by omega)]
    simp only [Option.bind_some]
    rw [w64 (n := acc * base + dig (bt s (i : Int))) (by omega) (by omega)]
    by_cases c1 : dig (bt s (i : Int)) ≥ base
    · rw [if_pos c1, if_pos c1]
    · rw [if_neg c1, if_neg c1]
      by_cases c2 : acc * base + dig (bt s (i : Int)) > 65535
      · rw [if_pos c2, if_pos c2]
      · rw [if_neg c2, if_neg c2]
        exact ih k (i + 1) _ (by omega) (by omega) (by omega) (by omega)
theorem spec_l1Base_eq (s : ByteArray) (hs : s.size ≤ 1048576) {base : Int} (hb : 0 ≤ base ∧ base ≤ 16) {k : Nat} (hk : s.size + 5 ≤ k) : spec_l1Base.f k s base = some (told (baseOf base s)) := by
  unfold spec_l1Base.f baseOf
  have h := spec_l1Base_l0 s hs base hb s.size k 0 0 (by omega) (by omega) (by omega) (by omega)
  rw [show ((0 : Nat) : Int) = 0 from rfl] at h
  rw [h]
  by_cases hz : s.size = 0
  · rw [if_pos hz, size_zero.2 hz, hz]
    rfl
  · rw [if_neg hz]
    have hne : (s.toList != ([] : List UInt8)) = true := by
      rw [bne_iff_ne]
      exact fun h => hz (size_zero.1 h)
    cases baseGo base s s.size 0 0 with
    | none => rfl
    | some v => simp [told, hne]

theorem impl_valueOf_over (s d : ByteArray) (hs : s.size ≤ 1048576) : ∀ (n k i : Nat) (acc : Int), i + n = s.size → n < k → 65535 < acc → ∃ v, impl_valueOf.l0 k s d acc (s.size : Int) (i : Int) = some (v, false) := by
  intro n k i acc hi hk h0
  obtain ⟨k, rfl⟩ : ∃ m, k = m + 1 := ⟨k - 1, by omega⟩
  cases n with
  | zero =>
    simp only [impl_valueOf.l0]
    rw [if_neg (by omega)]
    split
    · exact ⟨_, rfl⟩
    · rw [decide_eq_false (by omega)]
      exact ⟨_, rfl⟩
  | succ n =>
    simp only [impl_valueOf.l0, strings_IndexByte.f]
    rw [if_pos (by omega), if_pos (by omega), if_pos (by omega)]
    simp only [Option.bind_some]
    split
    · exact ⟨_, rfl⟩
    · first | exact ⟨_, rfl⟩ | (rw [if_pos (by omega)]; exact ⟨_, rfl⟩)
theorem impl_valueOf_l0 (s d : ByteArray) (hs : s.size ≤ 1048576) (base : Int) (hb : 2 ≤ base ∧ base ≤ 16) (hd : (d.size : Int) = base) (hi16 : ∀ c : Int, 0 ≤ c → c ≤ 255 → Go.Lib.indexByte d.data.toList c.toNat.toUInt8 = if dig c < base then dig c else -1) :
    ∀ (n k i : Nat) (acc : Int), i + n = s.size → n + 5 ≤ k → 0 ≤ acc → acc ≤ 65535 →
    ∃ v, impl_valueOf.l0 k s d acc (s.size : Int) (i : Int) = some (v, (baseGo base s n i acc).isSome && (s.toList != ([] : List UInt8))) ∧ ∀ u, baseGo base s n i acc = some u → v = u := by
  intro n
  induction n with
  | zero =>
    intro k i acc hi hk h0 h1
    obtain ⟨k, rfl⟩ : ∃ m, k = m + 1 := ⟨k - 1, by omega⟩
    simp only [impl_valueOf.l0, baseGo]
    rw [if_neg (by omega), decide_eq_true h1]
    refine ⟨acc, ?_, fun u hu => Option.some.inj hu⟩
    by_cases hz : s.toList = []
    · rw [if_pos hz, hz]
      rfl
    · rw [if_neg hz]
      simp [hz]
  | succ n ih =>
    intro k i acc hi hk h0 h1
    obtain ⟨k, rfl⟩ : ∃ m, k = m + 1 := ⟨k - 1, by omega⟩
    have hdg := dig_nonneg (c := bt s (i : Int))
    have hm : 0 ≤ acc * base := Int.mul_nonneg h0 (by omega)
    have hM : acc * base ≤ 65535 * 16 := Int.mul_le_mul h1 hb.2 (by omega) (by decide)
    simp only [impl_valueOf.l0, baseGo, strings_IndexByte.f]
    rw [if_pos (by omega), if_pos (by omega), if_pos (by omega), hi16 _ (bt_nonneg _ _) (bt_le _ _), hd]
    simp only [Option.bind_some]
    by_cases c1 : dig (bt s (i : Int)) ≥ base
    · rw [if_neg (by omega : ¬ dig (bt s (i : Int)) < base), if_pos c1]
      exact ⟨0, by simp, fun u hu => by cases hu⟩
    · rw [if_pos (by omega : dig (bt s (i : Int)) < base), if_neg c1, if_neg (by omega), if_neg (by omega), w64 (n := acc * base) (by omega) (by omega), w64 (n := acc * base + dig (bt s (i : Int))) (by omega) (by omega), up1 (by omega : i < s.size) (by omega)]
      by_cases c2 : acc * base + dig (bt s (i : Int)) > 65535
      · rw [if_pos c2]
        obtain ⟨v, hv⟩ := impl_valueOf_over s d hs n k (i + 1) _ (by omega) (by omega) c2
        exact ⟨v, by rw [hv]; rfl, fun u hu => by cases hu⟩
      · rw [if_neg c2]
        exact ih k (i + 1) _ (by omega) (by omega) (by omega) (by omega)
theorem impl_valueOf_eq (s d : ByteArray) (hs : s.size ≤ 1048576) {base : Int} (hb : 2 ≤ base ∧ base ≤ 16) (hd : (d.size : Int) = base) (hi16 : ∀ c : Int, 0 ≤ c → c ≤ 255 → Go.Lib.indexByte d.data.toList c.toNat.toUInt8 = if dig c < base then dig c else -1) {k : Nat} (hk : s.size + 5 ≤ k) :
    ∃ v, impl_valueOf.f k s d = some (v, (baseOf base s).isSome) ∧ ∀ u, baseOf base s = some u → v = u := by
  unfold impl_valueOf.f baseOf
  obtain ⟨v, hv, hu⟩ := impl_valueOf_l0 s d hs base hb hd hi16 s.size k 0 0 (by omega) (by omega) (by omega) (by omega)
  rw [show ((0 : Nat) : Int) = 0 from rfl] at hv
  refine ⟨v, ?_, ?_⟩
  · rw [hv]
    by_cases hz : s.size = 0
    · rw [if_pos hz, size_zero.2 hz]
      simp
    · have hne : (s.toList != ([] : List UInt8)) = true := by
        rw [bne_iff_ne]
        exact fun h => hz (size_zero.1 h)
      rw [if_neg hz, hne, Bool.and_true]
  · intro u h
    by_cases hz : s.size = 0
    · rw [if_pos hz] at h
      cases h
    · rw [if_neg hz] at h
      exact hu u h

--NEEDS stringslite_HasPrefix
theorem strings_HasPrefix_one (s : ByteArray) (c : UInt8) : strings_HasPrefix.f s ⟨#[c]⟩ = some (decide (1 ≤ s.size ∧ bt s 0 = (c.toNat : Int))) := by
  unfold strings_HasPrefix.f stringslite_HasPrefix.f
  have hz : ((⟨#[c]⟩ : ByteArray).size : Int) = 1 := rfl
  rw [hz]
  by_cases h : 1 ≤ s.size
  · rw [if_pos (by omega), if_pos (by decide), if_pos (by omega)]
    have hp := prefix_one s c h
    have e : (⟨#[c]⟩ : ByteArray).toList = [c] := by rw [ByteArray.toList_eq]
    simp only [Option.bind_some]
    rw [show (1 : Int).toNat = 1 from rfl, e, hp]
    simp [h]
  · rw [if_neg (by omega)]
    simp [h]

theorem impl_ReadNum_eq (s : ByteArray) {k : Nat} (hk : 40 ≤ k) : impl_ReadNum.f k s = some (told (numOf s)) := by
  unfold impl_ReadNum.f numOf
  by_cases h1 : (s.size : Int) > 18
  · rw [if_pos h1, if_pos h1]
    rfl
  · rw [if_neg h1, if_neg h1]
    have hx : (s.extract 1 s.size).size ≤ 18 := by simp; omega
    obtain ⟨v1, e1, u1⟩ := impl_valueOf_eq (s.extract 1 s.size) ⟨#[48, 49, 50, 51, 52, 53, 54, 55, 56, 57, 65, 66, 67, 68, 69, 70]⟩ (by omega) (base := 16) (by decide) rfl (fun c a b => idx16 a b) (k := k) (by omega)
    obtain ⟨v2, e2, u2⟩ := impl_valueOf_eq (s.extract 1 s.size) ⟨#[48, 49]⟩ (by omega) (base := 2) (by decide) rfl (fun c a b => idx2 a b) (k := k) (by omega)
    obtain ⟨v3, e3, u3⟩ := impl_valueOf_eq s ⟨#[48, 49, 50, 51, 52, 53, 54, 55, 56, 57]⟩ (by omega) (base := 10) (by decide) rfl (fun c a b => idx10 a b) (k := k) (by omega)
    have fin : ∀ (v : Int) (o : Option Int), (∀ u, o = some u → v = u) → (if o.isSome = true then some (v, true) else some (0, false)) = some (told o) := by
      intro v o h
      cases o with
      | none => rfl
      | some u =>
        rw [h u rfl]
        rfl
    by_cases h2 : s.size = 0
    · have e0 : baseOf 10 s = none := by
        unfold baseOf
        rw [if_pos h2]
      rw [e0] at e3
      rw [if_pos h2, e3]
      have p2 : (1 ≤ s.size) = False := eq_false (by omega)
      rw [strings_HasPrefix_one s 36, strings_HasPrefix_one s 37]
      simp only [p2, false_and, decide_false, Option.bind_some, Bool.false_eq_true, if_false]
      simp [told]
    · rw [if_neg h2]
      have p1 : (1 ≤ (s.size : Int)) = True := eq_true (by omega)
      have p2 : (1 ≤ s.size) = True := eq_true (by omega)
      rw [strings_HasPrefix_one s 36, strings_HasPrefix_one s 37]
      simp only [Option.bind_some, decide_eq_true_eq, p1, p2, true_and, if_true]
      rw [show (((36 : UInt8).toNat : Nat) : Int) = 36 from rfl, show (((37 : UInt8).toNat : Nat) : Int) = 37 from rfl]
      rw [e1, e2, e3]
      simp only [Option.bind_some]
      by_cases c1 : bt s 0 = 36
      · rw [if_pos c1, if_pos c1]
        exact fin v1 _ u1
      · rw [if_neg c1, if_neg c1]
        by_cases c2 : bt s 0 = 37
        · rw [if_pos c2, if_pos c2]
          exact fin v2 _ u2
        · rw [if_neg c2, if_neg c2]
          exact fin v3 _ u3

theorem laws_markText_l0 : ∀ (n : Nat) (x : Int) (acc : ByteArray), 0 ≤ x → x < 2 ^ n → x ≤ 4611686018427387904 → acc.size + n ≤ 1000 → ∃ v, ∀ k, n < k → laws_markText.l0 k x acc = some v := by
  intro n
  induction n with
  | zero =>
    intro x acc h0 h1 h2 h3
    refine ⟨(⟨#[109]⟩ : ByteArray) ++ acc, fun k hk => ?_⟩
    obtain ⟨k, rfl⟩ : ∃ m, k = m + 1 := ⟨k - 1, by omega⟩
    simp only [laws_markText.l0]
    rw [if_neg (by omega), if_pos (by omega)]
  | succ n ih =>
    intro x acc h0 h1 h2 h3
    by_cases hx : x > 0
    · have hp : (2 : Int) ^ (n + 1) = 2 ^ n * 2 := Int.pow_succ 2 n
      have hs : (strOfNums [(wrap64 (48 + (Int.tmod x 10))) % 256]).size = 1 := rfl
      have hd : Int.tdiv x 10 = x / 10 := Int.tdiv_eq_ediv_of_nonneg h0
      have hlt : x / 10 < 2 ^ n := by omega
      obtain ⟨v, hv⟩ := ih (x / 10) ((strOfNums [(wrap64 (48 + (Int.tmod x 10))) % 256]) ++ acc) (by omega) hlt (by omega) (by rw [ByteArray.size_append, hs]; omega)
      refine ⟨v, fun k hk => ?_⟩
      obtain ⟨k, rfl⟩ : ∃ m, k = m + 1 := ⟨k - 1, by omega⟩
      simp only [laws_markText.l0, Option.bind_some]
      rw [if_pos hx, if_pos (by rw [hs]; omega), hd, w64 (by omega) (by omega)]
      exact hv k (by omega)
    · refine ⟨(⟨#[109]⟩ : ByteArray) ++ acc, fun k hk => ?_⟩
      obtain ⟨k, rfl⟩ : ∃ m, k = m + 1 := ⟨k - 1, by omega⟩
      simp only [laws_markText.l0]
      rw [if_neg hx, if_pos (by omega)]
theorem laws_markText_all : ∃ T : Int → ByteArray, ∀ x, 0 ≤ x → x ≤ 4611686018427387904 → ∀ k, 70 ≤ k → laws_markText.f k x = some (T x) := by
  have h : ∀ x : Int, ∃ v, 0 ≤ x → x ≤ 4611686018427387904 → ∀ k, 70 ≤ k → laws_markText.f k x = some v := by
    intro x
    by_cases hx : 0 ≤ x ∧ x ≤ 4611686018427387904
    · unfold laws_markText.f
      by_cases h0 : x ≤ 0
      · exact ⟨_, fun _ _ k hk => by rw [if_pos h0]⟩
      · obtain ⟨v, hv⟩ := laws_markText_l0 63 x ⟨#[]⟩ hx.1 (by omega) hx.2 (by decide)
        exact ⟨v, fun _ _ k hk => by rw [if_neg h0]; exact hv k (by omega)⟩
    · exact ⟨ByteArray.empty, fun a b => absurd ⟨a, b⟩ hx⟩
  exact ⟨fun x => Classical.choose (h x), fun x => Classical.choose_spec (h x)⟩

--NEEDS laws_markText laws_markSymS
theorem laws_markHeldS_l0 {T : Int → ByteArray} (hT : ∀ x, 0 ≤ x → x ≤ 4611686018427387904 → ∀ k, 70 ≤ k → laws_markText.f k x = some (T x)) :
    ∀ (n k i : Nat) (m : Int) (y : List S61), i + n = y.length → y.length ≤ 1048576 → n + 80 ≤ k → 0 ≤ m → m ≤ 3 * i + 1000000 →
    ∃ z, laws_markSymS.l0 k y m (i : Int) = some (m + 3 * n, z) ∧ z.length = y.length ∧ (∀ j, j < i → z.getD j z61 = y.getD j z61) ∧ ∀ j, i ≤ j → j < y.length → z.getD j z61 = ⟨T (m + 3 * ((j : Int) - i)), m + 3 * ((j : Int) - i) + 1, m + 3 * ((j : Int) - i) + 2⟩ := by
  intro n
  induction n with
  | zero =>
    intro k i m y hi hl hk h0 h1
    obtain ⟨k, rfl⟩ : ∃ m, k = m + 1 := ⟨k - 1, by omega⟩
    refine ⟨y, ?_, rfl, fun _ _ => rfl, fun j h2 h3 => by omega⟩
    simp only [laws_markSymS.l0]
    rw [if_neg (by omega)]
    simp
  | succ n ih =>
    intro k i m y hi hl hk h0 h1
    obtain ⟨k, rfl⟩ : ∃ m, k = m + 1 := ⟨k - 1, by omega⟩
    have hs : ∀ (q : List S61) (v : S61), i < q.length → rd_T61 (q.set i v) (i : Int) = v := by
      intro q v hq
      unfold rd_T61
      rw [Int.toNat_natCast, List.getD_eq_getElem?_getD, List.getElem?_set_self hq]
      rfl
    have hstep : laws_markSymS.l0 (k + 1) y m (i : Int) = laws_markSymS.l0 k (y.set i ⟨T m, m + 1, m + 2⟩) (m + 3) ((i + 1 : Nat) : Int) := by
      simp only [laws_markSymS.l0, Option.bind_some, Int.toNat_natCast]
      rw [if_pos (by omega), hT m (by omega) (by omega) k (by omega)]
      simp only [Option.bind_some]
      rw [if_pos (by omega), w64 (n := m + 1) (by omega) (by omega), w64 (n := m + 1 + 1) (by omega) (by omega), w64 (n := m + 1 + 1 + 1) (by omega) (by omega), up1 (by omega : i < y.length) (by omega)]
      simp only [List.set_set]
      rw [hs _ _ (by omega), hs _ _ (by omega), show m + 1 + 1 = m + 2 by omega, show m + 2 + 1 = m + 3 by omega]
    obtain ⟨z, hz, h3, h4, h5⟩ := ih k (i + 1) (m + 3) (y.set i ⟨T m, m + 1, m + 2⟩) (by simp; omega) (by simpa using hl) (by omega) (by omega) (by omega)
    refine ⟨z, ?_, by simpa using h3, fun j hj => ?_, fun j hj hj2 => ?_⟩
    · rw [hstep, hz]
      congr 2
      omega
    · rw [h4 j (by omega), List.getD_eq_getElem?_getD, List.getD_eq_getElem?_getD, List.getElem?_set_ne (by omega)]
    · by_cases e : j = i
      · rw [e, h4 i (by omega), List.getD_eq_getElem?_getD, List.getElem?_set_self (by omega)]
        simp
      · rw [h5 j (by omega) (by simpa using hj2)]
        have : m + 3 + 3 * ((j : Int) - ((i + 1 : Nat) : Int)) = m + 3 * ((j : Int) - i) := by omega
        rw [this]
theorem laws_heldSymS_l0 {T : Int → ByteArray} (hT : ∀ x, 0 ≤ x → x ≤ 4611686018427387904 → ∀ k, 70 ≤ k → laws_markText.f k x = some (T x)) :
    ∀ (n k i : Nat) (m : Int) (z : List S61), i + n = z.length → z.length ≤ 1048576 → n + 80 ≤ k → 0 ≤ m → m ≤ 3 * i + 1000000 →
    (∀ j, i ≤ j → j < z.length → z.getD j z61 = ⟨T (m + 3 * ((j : Int) - i)), m + 3 * ((j : Int) - i) + 1, m + 3 * ((j : Int) - i) + 2⟩) → laws_heldSymS.l0 k z m (i : Int) = some (m + 3 * n) := by
  intro n
  induction n with
  | zero =>
    intro k i m z hi hl hk h0 h1 h2
    obtain ⟨k, rfl⟩ : ∃ m, k = m + 1 := ⟨k - 1, by omega⟩
    simp only [laws_heldSymS.l0]
    rw [if_neg (by omega)]
    simp
  | succ n ih =>
    intro k i m z hi hl hk h0 h1 h2
    obtain ⟨k, rfl⟩ : ∃ m, k = m + 1 := ⟨k - 1, by omega⟩
    have hr : rd_T61 z (i : Int) = ⟨T m, m + 1, m + 1 + 1⟩ := by
      unfold rd_T61
      rw [Int.toNat_natCast, h2 i (Nat.le_refl _) (by omega)]
      have : m + 3 * ((i : Int) - i) = m := by omega
      rw [this, show m + 2 = m + 1 + 1 by omega]
    simp only [laws_heldSymS.l0]
    rw [if_pos (by omega), if_pos (by omega), hT m (by omega) (by omega) k (by omega), hr]
    simp only [Option.bind_some, if_true]
    rw [w64 (n := m + 1) (by omega) (by omega), w64 (n := m + 1 + 1) (by omega) (by omega), w64 (n := m + 1 + 1 + 1) (by omega) (by omega), up1 (by omega : i < z.length) (by omega)]
    simp only [if_true]
    rw [ih k (i + 1) (m + 1 + 1 + 1) z (by omega) hl (by omega) (by omega) (by omega) (fun j hj hj2 => by
      rw [h2 j (by omega) hj2]
      have : m + 1 + 1 + 1 + 3 * ((j : Int) - ((i + 1 : Nat) : Int)) = m + 3 * ((j : Int) - i) := by omega
      rw [this])]
    congr 1
    omega
theorem laws_markHeldY (l : List S61) (hl : l.length ≤ 1048576) {k : Nat} (hk : l.length + 80 ≤ k) : ∃ z, laws_markSymS.f k l 1 = some (1 + 3 * (l.length : Int), z) ∧ z.length = l.length ∧ ∀ k', l.length + 80 ≤ k' → laws_heldSymS.f k' z 1 = some (1 + 3 * (l.length : Int)) := by
  obtain ⟨T, hT⟩ := laws_markText_all
  obtain ⟨z, h1, h2, _, h3⟩ := laws_markHeldS_l0 hT l.length k 0 1 l (by omega) hl (by omega) (by omega) (by omega)
  refine ⟨z, h1, h2, fun k' hk' => ?_⟩
  have := laws_heldSymS_l0 hT z.length k' 0 1 z (by omega) (by omega) (by omega) (by omega) (by omega) (fun j hj hj2 => h3 j hj (by omega))
  rw [h2] at this
  exact this

theorem spec_HexOf_l0 (d : Nat) (hd : d ≤ 4) : ∀ (m k i a : Nat) (s : List UInt8), i + m = d → m < k → a < 65536 → s.length + m ≤ 4 → spec_HexOf.l0 k (a : Int) (d : Int) ⟨s.toArray⟩ (i : Int) = some (if a / 16 ^ m = 0 then ⟨(36 :: (hexFix m a ++ s)).toArray⟩ else ⟨#[]⟩) := by
  intro m
  induction m with
  | zero =>
    intro k i a s hi hk ha hs
    obtain ⟨k, rfl⟩ : ∃ q, k = q + 1 := ⟨k - 1, by omega⟩
    simp only [spec_HexOf.l0]
    rw [if_neg (by omega)]
    by_cases h : a = 0
    · subst h
      rw [if_neg (by omega), if_pos (by rw [bytes_size]; omega), if_pos (by simp), show (⟨#[36]⟩ : ByteArray) = ⟨[36].toArray⟩ from rfl, bytes_append]
      rfl
    · rw [if_pos (by omega), if_neg (by simp; exact h)]
  | succ m ih =>
    intro k i a s hi hk ha hs
    obtain ⟨k, rfl⟩ : ∃ q, k = q + 1 := ⟨k - 1, by omega⟩
    simp only [spec_HexOf.l0]
    have e1 : Int.tmod (a : Int) 16 = ((a % 16 : Nat) : Int) := by
      rw [Int.tmod_eq_emod_of_nonneg (by omega)]; omega
    have e2 : wrap64 (Int.tdiv (a : Int) 16) = ((a / 16 : Nat) : Int) := by
      rw [Int.tdiv_eq_ediv_of_nonneg (by omega), w64 (by omega) (by omega)]; omega
    have e3 : wrap64 (((a % 16 : Nat) : Int) + 1) = ((a % 16 + 1 : Nat) : Int) := by
      rw [w64 (by omega) (by omega)]; omega
    have e4 : wrap64 ((i : Int) + 1) = ((i + 1 : Nat) : Int) := by
      rw [w64 (by omega) (by omega)]; omega
    simp only [e1, e2, e3, e4, Int.toNat_natCast]
    rw [if_pos (by omega), if_pos (by omega), if_pos (by omega), if_pos (by omega), digit_cut (a % 16) (by omega), if_pos (by rw [bytes_size, bytes_size]; simp; omega), bytes_append, ih k (i + 1) (a / 16) _ (by omega) (by omega) (by omega) (by simp; omega)]
    rw [Nat.pow_succ, Nat.mul_comm, ← Nat.div_div_eq_div_mul]
    simp [hexFix]
theorem spec_HexOf_eq (n d : Int) {k : Nat} (hk : 10 ≤ k) : spec_HexOf.f k n d = some (if inR d 1 4 = true then (if inR n 0 65535 = true then hexText d.toNat n.toNat else ⟨#[]⟩) else ⟨#[]⟩) := by
  obtain ⟨k, rfl⟩ : ∃ q, k = q + 1 := ⟨k - 1, by omega⟩
  unfold spec_HexOf.f
  simp only [spec_l1In_eq, Option.bind_some]
  by_cases h1 : inR d 1 4 = true
  · by_cases h2 : inR n 0 65535 = true
    · simp only [h1, h2, if_true, spec_HexOf.j0, Bool.not_true, Bool.false_eq_true, if_false]
      rw [inR_iff] at h1 h2
      obtain ⟨a, rfl⟩ : ∃ a : Nat, n = (a : Int) := ⟨n.toNat, by omega⟩
      obtain ⟨e, rfl⟩ : ∃ e : Nat, d = (e : Int) := ⟨d.toNat, by omega⟩
      have := spec_HexOf_l0 e (by omega) e k 0 a [] (by omega) (by omega) (by omega) (by simp; omega)
      rw [show ((0 : Nat) : Int) = 0 from rfl, show (⟨([] : List UInt8).toArray⟩ : ByteArray) = ⟨#[]⟩ from rfl, List.append_nil] at this
      rw [this]
      rfl
    · rw [Bool.not_eq_true] at h2
      simp only [h1, h2, if_true, spec_HexOf.j0, Bool.not_false, Bool.false_eq_true, if_false]
  · rw [Bool.not_eq_true] at h1
    simp only [h1, spec_HexOf.j0, Bool.false_eq_true, if_false, if_true]

theorem impl_hexDigits_eq (n d : Nat) (hn : n < 65536) (hd0 : 1 ≤ d) (hd : d ≤ 4) (hz : n / 16 ^ d = 0) : impl_hexDigits.f (n : Int) (d : Int) = some ⟨(hexFix d n).toArray⟩ := by
  unfold impl_hexDigits.f strconv_FormatInt.f
  rw [if_neg (by decide), if_pos rfl, if_pos (by omega), if_pos (by omega)]
  simp only [Option.bind_some, Int.toNat_natCast]
  have hl := hexLow_len n
  unfold strings_ToUpper.f
  rw [if_pos (by rw [bytes_size]; omega), if_pos (by rw [List.all_eq_true]; intro b hb; exact decide_eq_true (hexLow_small n hn b (by simpa using hb)))]
  simp only [Option.bind_some]
  have hsz : (⟨(Go.Lib.toUpperA (hexLow n).toArray.toList).toArray⟩ : ByteArray).size = (hexLow n).length := by rw [bytes_size]; simp [Go.Lib.toUpperA]
  rw [hsz]
  have hm : mx 0 (wrap64 ((d : Int) - ((hexLow n).length : Int))) = ((d - (hexLow n).length : Nat) : Int) := by
    rw [w64 (by omega) (by omega)]
    unfold mx
    split <;> omega
  rw [hm]
  unfold strings_Repeat.f
  rw [if_pos (by omega), if_pos (by omega), if_pos (by rw [show (⟨#[48]⟩ : ByteArray).size = 1 from rfl]; omega)]
  simp only [Option.bind_some, Int.toNat_natCast]
  have hr : (⟨(Go.Lib.repeatL (⟨#[48]⟩ : ByteArray).data.toList (d - (hexLow n).length)).toArray⟩ : ByteArray).size = d - (hexLow n).length := by
    rw [bytes_size, Go.Lib.repeatL_length]; simp
  rw [hr, if_pos (by omega), bytes_append]
  have := hexPad d n hd0 hd hz hn
  rw [← this]
  simp [Go.Lib.toUpperA]
theorem index_one_at (c : UInt8) (a b : List UInt8) (h : c ∉ a) : Go.Lib.index (a ++ c :: b) [c] = (a.length : Nat) := by
  rcases cut_at c (a ++ c :: b) with ⟨_, hn⟩ | ⟨a', b', e, hn, hi⟩
  · exact absurd (by simp) hn
  · have h1 := (sp_hit (b := b) h).1
    have h2 := (sp_hit (b := b') hn).1
    rw [e, h2] at h1
    rw [hi, h1]
/-- A text cut at the first byte c. -/
def cutP (s : ByteArray) (c : UInt8) : ByteArray × ByteArray × Bool := (⟨(Go.Lib.cut s.data.toList [c]).1.toArray⟩, ⟨(Go.Lib.cut s.data.toList [c]).2.1.toArray⟩, (Go.Lib.cut s.data.toList [c]).2.2)
theorem cut_miss (c : UInt8) (l : List UInt8) (h : c ∉ l) : Go.Lib.cut l [c] = (l, [], false) := by
  rcases cut_at c l with ⟨hi, _⟩ | ⟨a, b, e, _, _⟩
  · unfold Go.Lib.cut
    rw [hi, if_neg (by decide)]
  · rw [e] at h
    exact absurd (by simp) h
theorem cut_hit (c : UInt8) (a b : List UInt8) (h : c ∉ a) : Go.Lib.cut (a ++ c :: b) [c] = (a, b, true) := by
  unfold Go.Lib.cut
  rw [index_one_at c a b h, if_pos (by omega), Int.toNat_natCast]
  simp
theorem ext_list (s : ByteArray) (i : Nat) : (s.extract 0 i).data.toList = s.data.toList.take i ∧ (s.extract i s.size).data.toList = s.data.toList.drop i := ⟨Go.Lib.extract_from_zero s i, by
  rw [ByteArray.data_extract, Array.toList_extract, List.extract]
  exact List.take_of_length_le (by rw [List.length_drop, len_list]; exact Nat.le_refl _)⟩
theorem ba_list {s : ByteArray} {l : List UInt8} (h : s.data.toList = l) : s = ⟨l.toArray⟩ := by
  rw [← h]
theorem spec_l1Cut_l0 (s : ByteArray) (hs : s.size ≤ 140737488351232) (c : UInt8) : ∀ (n k i : Nat), i + n = s.size → n < k → c ∉ s.data.toList.take i → spec_l1Cut.l0 k s (c.toNat : Int) (i : Int) = some (cutP s c) := by
  intro n
  induction n with
  | zero =>
    intro k i hi hk hc
    obtain ⟨k, rfl⟩ : ∃ m, k = m + 1 := ⟨k - 1, by omega⟩
    simp only [spec_l1Cut.l0]
    rw [List.take_of_length_le (by rw [len_list]; omega)] at hc
    rw [if_neg (by omega)]
    unfold cutP
    rw [cut_miss c _ hc]
  | succ n ih =>
    intro k i hi hk hc
    obtain ⟨k, rfl⟩ : ∃ m, k = m + 1 := ⟨k - 1, by omega⟩
    have hw : wrap64 ((i : Int) + 1) = ((i + 1 : Nat) : Int) := by rw [w64 (by omega) (by omega)]; omega
    obtain ⟨x, hx, bx⟩ := bt_drop s i (by omega)
    have ht : s.data.toList.take (i + 1) = s.data.toList.take i ++ [x] := by
      have h2 : s.data.toList[i]? = some x := by
        have := congrArg List.head? hx
        simpa [List.head?_drop] using this
      rw [List.take_add_one, h2]
      rfl
    simp only [spec_l1Cut.l0]
    rw [if_pos (by omega), if_pos (by omega), hw, bx]
    by_cases h : x = c
    · subst h
      have hl : s.data.toList = s.data.toList.take i ++ x :: s.data.toList.drop (i + 1) := by
        rw [← hx]
        exact (List.take_append_drop i _).symm
      have hcut : Go.Lib.cut s.data.toList [x] = (s.data.toList.take i, s.data.toList.drop (i + 1), true) := by
        conv => lhs; rw [hl]
        exact cut_hit x _ _ hc
      rw [if_pos rfl, if_pos (by omega), if_pos (by omega), if_pos (by omega)]
      unfold cutP
      rw [hcut, Int.toNat_natCast, Int.toNat_natCast, ba_list (ext_list s i).1, ba_list (ext_list s (i + 1)).2]
    · have hne : ¬ ((x.toNat : Int) = (c.toNat : Int)) := by
        intro e
        exact h (UInt8.toNat_inj.1 (by omega))
      rw [if_neg hne]
      refine ih k (i + 1) (by omega) (by omega) ?_
      rw [ht]
      simp only [List.mem_append, List.mem_singleton, not_or]
      exact ⟨hc, fun e => h e.symm⟩
theorem spec_l1Cut_eq (s : ByteArray) (hs : s.size ≤ 140737488351232) (c : UInt8) {k : Nat} (hk : s.size < k) : spec_l1Cut.f k s (c.toNat : Int) = some (cutP s c) := spec_l1Cut_l0 s hs c s.size k 0 (by omega) hk (by simp)
theorem cutP_size (s : ByteArray) (c : UInt8) : (cutP s c).1.size ≤ s.size ∧ (cutP s c).2.1.size ≤ s.size ∧ ((cutP s c).2.2 = true → (cutP s c).2.1.size < s.size) := by
  have hl := len_list s
  unfold cutP
  rcases cut_at c s.data.toList with ⟨_, hn⟩ | ⟨a, b, e, hn, _⟩
  · rw [cut_miss c _ hn]
    exact ⟨Nat.le_of_eq hl, Nat.zero_le _, fun h => by cases h⟩
  · have hlen := congrArg List.length e
    rw [e, cut_hit c a b hn]
    simp only [List.length_append, List.length_cons] at hlen
    refine ⟨?_, ?_, fun _ => ?_⟩
    · show a.length ≤ _
      omega
    · show b.length ≤ _
      omega
    · show b.length < _
      omega

--NEEDS spec_HexOf
def symOk (y : S61) : Bool := nameOk y.f0 && (inR y.f1 0 255 && inR y.f2 0 65535)
def risesOk : Option S61 → S61 → Bool
  | none, _ => true
  | some p, y => Op.bytesLess p.f0.toList y.f0.toList
def symsOk : Option S61 → List S61 → Bool
  | _, [] => true
  | p, y :: r => symOk y && (risesOk p y && symsOk (some y) r)
def symL (y : S61) : List UInt8 := hexFix 2 y.f1.toNat ++ (58 :: (hexFix 4 y.f2.toNat ++ (32 :: (y.f0.data.toList ++ [10]))))
def symsL : List S61 → List UInt8
  | [] => []
  | y :: r => symL y ++ symsL r
def prevAt (l : List S61) : Nat → Option S61
  | 0 => none
  | i + 1 => some (l.getD i z61)
theorem hex_cut (d n : Nat) (hz : n / 16 ^ d = 0) : (hexText d n).size = d + 1 ∧ ((hexText d n).extract 1 (hexText d n).size).data.toList = hexFix d n := by
  have e : hexText d n = ⟨(36 :: hexFix d n).toArray⟩ := by unfold hexText; rw [if_pos hz]
  have hs : (hexText d n).size = d + 1 := by
    rw [e]
    show (36 :: hexFix d n).length = _
    rw [List.length_cons, hexFix_len]
  refine ⟨hs, ?_⟩
  rw [ByteArray.data_extract, Array.toList_extract, List.extract, hs, e]
  simp
  exact List.take_of_length_le (by rw [hexFix_len]; exact Nat.le_refl _)
theorem symOk_parts {y : S61} (h : symOk y = true) : y.f0.size ≤ 16 ∧ (0 ≤ y.f1 ∧ y.f1 ≤ 255) ∧ (0 ≤ y.f2 ∧ y.f2 ≤ 65535) := by
  unfold symOk nameOk at h
  simp only [Bool.and_eq_true, inR_iff] at h
  exact ⟨by omega, h.2.1, h.2.2⟩
theorem symL_len {y : S61} (h : symOk y = true) : (symL y).length ≤ 25 := by
  have := symOk_parts h
  have hl : y.f0.data.toList.length = y.f0.size := by rw [Array.length_toList]; rfl
  unfold symL
  simp only [List.length_append, List.length_cons, hexFix_len, List.length_nil]
  omega
theorem spec_SymText_j1 (l : List S61) (i : Nat) (y : S61) (acc : ByteArray) (ha : acc.size ≤ 100000) (hy : symOk y = true) (hw : wrap64 ((i : Int) + 1) = ((i + 1 : Nat) : Int)) {k : Nat} (hk : 30 ≤ k) :
    spec_SymText.j1 (k + 1) l acc (i : Int) false y.f0 y.f1 y.f2 = spec_SymText.l0 k l ⟨(acc.data.toList ++ symL y).toArray⟩ ((i + 1 : Nat) : Int) := by
  obtain ⟨h0, h1, h2⟩ := symOk_parts hy
  obtain ⟨b, hb⟩ : ∃ b : Nat, y.f1 = (b : Int) := ⟨y.f1.toNat, by omega⟩
  obtain ⟨v, hv⟩ : ∃ v : Nat, y.f2 = (v : Int) := ⟨y.f2.toNat, by omega⟩
  have hx : spec_HexOf.f k y.f1 2 = some (hexText 2 b) := by
    rw [spec_HexOf_eq y.f1 2 (by omega), if_pos (by decide), if_pos (inR_pos h1.1 (by omega)), hb]
    rfl
  have hz : spec_HexOf.f k y.f2 4 = some (hexText 4 v) := by
    rw [spec_HexOf_eq y.f2 4 (by omega), if_pos (by decide), if_pos (inR_pos h2.1 h2.2), hv]
    rfl
  obtain ⟨s2, e2⟩ := hex_cut 2 b (by rw [show 16 ^ 2 = 256 from rfl]; omega)
  obtain ⟨s4, e4⟩ := hex_cut 4 v (by rw [show 16 ^ 4 = 65536 from rfl]; omega)
  have x2 : ((hexText 2 b).extract 1 (hexText 2 b).size).size = 2 := by rw [ByteArray.size_extract, s2]; omega
  have x4 : ((hexText 4 v).extract 1 (hexText 4 v).size).size = 4 := by rw [ByteArray.size_extract, s4]; omega
  have c1 : (⟨#[58]⟩ : ByteArray).size = 1 := rfl
  have c2 : (⟨#[32]⟩ : ByteArray).size = 1 := rfl
  simp only [spec_SymText.j1, if_neg Bool.false_ne_true, hx, hz, Option.bind_some]
  rw [if_pos (by omega), if_pos (by omega), if_pos (by rw [ByteArray.size_append]; omega), if_pos (by omega), if_pos (by simp only [ByteArray.size_append]; omega), if_pos (by simp only [ByteArray.size_append]; omega), if_pos (by simp only [ByteArray.size_append]; omega), if_pos (by simp only [ByteArray.size_append]; omega), hw]
  refine congrArg (fun z => spec_SymText.l0 k l z _) ?_
  refine ByteArray.ext (Array.toList_inj.1 ?_)
  simp only [ByteArray.data_append, Array.toList_append, e2, e4, symL, hb, hv, Int.toNat_natCast]
  simp
theorem spec_SymText_l0 (l : List S61) (hl : l.length ≤ 1048576) : ∀ (n k i : Nat) (acc : ByteArray), i + n = l.length → i ≤ 800 → acc.size ≤ 30 * i → 2 * n + 60 < k → spec_SymText.l0 k l acc (i : Int) = some (if symsOk (prevAt l i) (l.drop i) = true ∧ l.length ≤ 800 then ⟨(acc.data.toList ++ symsL (l.drop i)).toArray⟩ else ⟨#[]⟩) := by
  intro n
  induction n with
  | zero =>
    intro k i acc hi h8 ha hk
    obtain ⟨k, rfl⟩ : ∃ m, k = m + 1 := ⟨k - 1, by omega⟩
    rw [List.drop_eq_nil_of_le (by omega)]
    simp only [spec_SymText.l0]
    rw [if_neg (by omega), if_pos ⟨rfl, by omega⟩, symsL, List.append_nil]
  | succ n ih =>
    intro k i acc hi h8 ha hk
    obtain ⟨k, rfl⟩ : ∃ m, k = m + 2 := ⟨k - 2, by omega⟩
    have hrd : rd_T61 l (i : Int) = l.getD i z61 := by unfold rd_T61; rw [Int.toNat_natCast]
    have hw : wrap64 ((i : Int) + 1) = ((i + 1 : Nat) : Int) := up1 (by omega : i < l.length) (by omega)
    rw [drop_at z61 l i (by omega), symsOk, symsL]
    rw [spec_SymText.l0, if_pos (by omega), if_pos (by omega), hrd]
    generalize hy : l.getD i z61 = y
    have bad : spec_SymText.j1 (k + 1) l acc (i : Int) true y.f0 y.f1 y.f2 = some (⟨#[]⟩ : ByteArray) := by simp only [spec_SymText.j1, if_true]
    rw [spec_NameOk_eq y.f0 (by omega), spec_l4Byte_eq, spec_l4Word_eq]
    simp only [Option.bind_some, bad]
    by_cases hs : symOk y = true
    · have hs' := hs
      unfold symOk at hs'
      simp only [Bool.and_eq_true] at hs'
      rw [if_pos hs'.1, if_pos hs'.2.1, if_pos hs'.2.2, hs, Bool.true_and]
      have good : i < 800 → spec_SymText.j1 (k + 1) l acc (i : Int) (decide ((i : Int) ≥ 800)) y.f0 y.f1 y.f2 = some (if symsOk (some y) (l.drop (i + 1)) = true ∧ l.length ≤ 800 then ⟨(acc.data.toList ++ (symL y ++ symsL (l.drop (i + 1)))).toArray⟩ else ⟨#[]⟩) := by
        intro hlt
        rw [decide_eq_false (by omega), spec_SymText_j1 l i y acc (by omega) hs hw (by omega)]
        have hL := symL_len hs
        rw [ih k (i + 1) _ (by omega) (by omega) (by
          show (acc.data.toList ++ symL y).length ≤ _
          have : acc.data.toList.length = acc.size := by rw [Array.length_toList]; rfl
          rw [List.length_append]
          omega) (by omega)]
        rw [show prevAt l (i + 1) = some y from by rw [prevAt, hy], List.append_assoc]
      have over : ¬ i < 800 → spec_SymText.j1 (k + 1) l acc (i : Int) (decide ((i : Int) ≥ 800)) y.f0 y.f1 y.f2 = some (⟨#[]⟩ : ByteArray) := by
        intro hge
        rw [decide_eq_true (by omega), bad]
      cases i with
      | zero =>
        rw [if_neg (by omega), good (by omega)]
        rfl
      | succ j =>
        have hwj : wrap64 (((j + 1 : Nat) : Int) - 1) = (j : Int) := by rw [w64 (by omega) (by omega)]; omega
        have hrj : rd_T61 l (j : Int) = l.getD j z61 := by unfold rd_T61; rw [Int.toNat_natCast]
        rw [if_pos (by omega), hwj, if_pos (by omega), if_pos (by omega), hrj]
        rw [show risesOk (prevAt l (j + 1)) y = Op.bytesLess (l.getD j z61).f0.toList y.f0.toList from rfl]
        by_cases hb : Op.bytesLess (l.getD j z61).f0.toList y.f0.toList = true
        · rw [if_pos hb, hb, Bool.true_and]
          by_cases hlt : j + 1 < 800
          · exact good hlt
          · rw [over hlt, if_neg (fun e => by omega)]
        · have hb' : Op.bytesLess (l.getD j z61).f0.toList y.f0.toList = false := by simpa using hb
          rw [if_neg hb, hb', Bool.false_and, if_neg (fun e => by cases e.1)]
    · have hrhs : ∀ (z : Bool), ¬ ((symOk y && z) = true ∧ l.length ≤ 800) := fun z e => hs (by have := e.1; rw [Bool.and_eq_true] at this; exact this.1)
      rw [if_neg (hrhs _)]
      by_cases h1 : nameOk y.f0 = true
      · rw [if_pos h1]
        by_cases h2 : inR y.f1 0 255 = true
        · rw [if_pos h2]
          by_cases h3 : inR y.f2 0 65535 = true
          · exact absurd (by unfold symOk; rw [h1, h2, h3]; rfl) hs
          · rw [if_neg h3]
        · rw [if_neg h2]
      · rw [if_neg h1]
def symTextP (l : List S61) : ByteArray := if symsOk none l = true ∧ l.length ≤ 800 then ⟨(symsL l).toArray⟩ else ⟨#[]⟩
theorem spec_SymText_eq (l : List S61) (hl : l.length ≤ 1048576) {k : Nat} (hk : 2 * l.length + 60 < k) : spec_SymText.f k l = some (symTextP l) := by
  have := spec_SymText_l0 l hl l.length k 0 ⟨#[]⟩ (by omega) (by omega) (by show 0 ≤ _; omega) hk
  unfold spec_SymText.f symTextP
  refine this.trans ?_
  rw [List.drop_zero]
  rfl

theorem impl_isSym_eq (y : S61) {k : Nat} (hk : 20 ≤ k) : impl_isSym.f k y.f0 y.f1 y.f2 = some (symOk y) := by
  unfold impl_isSym.f symOk
  rw [impl_NameOk_eq y.f0 hk, impl_isByte_eq, impl_isWord_eq]
  simp only [Option.bind_some]
  cases nameOk y.f0 <;> cases inR y.f1 0 255 <;> simp
theorem impl_areSyms_l0 (l : List S61) (hl : l.length ≤ 1048576) : ∀ (n k i : Nat), i + n = l.length → n + 40 < k → impl_areSyms.l0 k l l (l.length : Int) (i : Int) = some (symsOk (prevAt l i) (l.drop i) && decide ((l.length : Int) ≤ 800)) := by
  intro n
  induction n with
  | zero =>
    intro k i hi hk
    obtain ⟨k, rfl⟩ : ∃ m, k = m + 1 := ⟨k - 1, by omega⟩
    rw [List.drop_eq_nil_of_le (by omega)]
    simp only [impl_areSyms.l0]
    rw [if_neg (by omega), symsOk, Bool.true_and]
  | succ n ih =>
    intro k i hi hk
    obtain ⟨k, rfl⟩ : ∃ m, k = m + 1 := ⟨k - 1, by omega⟩
    have hrd : rd_T61 l (i : Int) = l.getD i z61 := by unfold rd_T61; rw [Int.toNat_natCast]
    have hw : wrap64 ((i : Int) + 1) = ((i + 1 : Nat) : Int) := up1 (by omega : i < l.length) (by omega)
    have next := ih k (i + 1) (by omega) (by omega)
    rw [drop_at z61 l i (by omega), symsOk, impl_areSyms.l0, if_pos (by omega), if_pos (by omega), if_pos (by omega), hrd, hw, next]
    have hpv : prevAt l (i + 1) = some (l.getD i z61) := rfl
    rw [hpv]
    generalize l.getD i z61 = y
    rw [impl_isSym_eq y (by omega)]
    simp only [Option.bind_some]
    cases symOk y with
    | false => rw [if_neg (by decide), Bool.false_and, Bool.false_and]
    | true =>
      rw [if_pos rfl, Bool.true_and]
      cases i with
      | zero =>
        rw [if_neg (by omega)]
        rfl
      | succ j =>
        have hwj : wrap64 (((j + 1 : Nat) : Int) - 1) = (j : Int) := by rw [w64 (by omega) (by omega)]; omega
        have hrj : rd_T61 l (j : Int) = l.getD j z61 := by unfold rd_T61; rw [Int.toNat_natCast]
        rw [if_pos (by omega), hwj, if_pos (by omega), if_pos (by omega), hrj]
        rw [show risesOk (prevAt l (j + 1)) y = Op.bytesLess (l.getD j z61).f0.toList y.f0.toList from rfl]
        by_cases hb : Op.bytesLess (l.getD j z61).f0.toList y.f0.toList = true
        · rw [if_pos hb, hb, Bool.true_and]
        · have hb' : Op.bytesLess (l.getD j z61).f0.toList y.f0.toList = false := by simpa using hb
          rw [if_neg hb, hb', Bool.false_and, Bool.false_and]
theorem impl_symText_row (y : S61) (hy : symOk y = true) : impl_symText.row y = some ⟨(symL y).toArray⟩ := by
  obtain ⟨h0, h1, h2⟩ := symOk_parts hy
  obtain ⟨b, hb⟩ : ∃ b : Nat, y.f1 = (b : Int) := ⟨y.f1.toNat, by omega⟩
  obtain ⟨v, hv⟩ : ∃ v : Nat, y.f2 = (v : Int) := ⟨y.f2.toNat, by omega⟩
  have e2 : impl_hexDigits.f (b : Int) 2 = some ⟨(hexFix 2 b).toArray⟩ := impl_hexDigits_eq b 2 (by omega) (by decide) (by decide) (by rw [show 16 ^ 2 = 256 from rfl]; omega)
  have e4 : impl_hexDigits.f (v : Int) 4 = some ⟨(hexFix 4 v).toArray⟩ := impl_hexDigits_eq v 4 (by omega) (by decide) (by decide) (by rw [show 16 ^ 4 = 65536 from rfl]; omega)
  have z2 : (⟨(hexFix 2 b).toArray⟩ : ByteArray).size = 2 := hexFix_len 2 b
  have z4 : (⟨(hexFix 4 v).toArray⟩ : ByteArray).size = 4 := hexFix_len 4 v
  have hl : y.f0.data.toList.length = y.f0.size := by rw [Array.length_toList]; rfl
  have e58 : ((⟨(hexFix 2 b).toArray⟩ : ByteArray) ++ (⟨#[58]⟩ : ByteArray)) ++ ⟨(hexFix 4 v).toArray⟩ = ⟨(hexFix 2 b ++ (58 :: hexFix 4 v)).toArray⟩ := by
    refine ByteArray.ext (Array.toList_inj.1 ?_)
    simp [ByteArray.data_append, Array.toList_append]
  unfold impl_symText.row
  rw [hb, hv, e2, e4]
  simp only [Option.bind_some]
  rw [if_pos ⟨by omega, by omega⟩, e58]
  unfold impl_spaced.f strings_Join.f
  have hj : Go.Lib.join ([(⟨(hexFix 2 b ++ (58 :: hexFix 4 v)).toArray⟩ : ByteArray), y.f0].map (·.data.toList)) (⟨#[32]⟩ : ByteArray).data.toList = hexFix 2 b ++ (58 :: (hexFix 4 v ++ (32 :: y.f0.data.toList))) := by
    show Go.Lib.join [hexFix 2 b ++ (58 :: hexFix 4 v), y.f0.data.toList] [32] = _
    rw [Go.Lib.join_cons]
    simp [Go.Lib.joinTail]
  have hlen : (hexFix 2 b ++ (58 :: (hexFix 4 v ++ (32 :: y.f0.data.toList)))).length ≤ 100 := by
    simp only [List.length_append, List.length_cons, hexFix_len]
    omega
  rw [hj, if_pos (by show 2 ≤ _; omega), if_pos (by omega)]
  simp only [Option.bind_some]
  have hz : (⟨(hexFix 2 b ++ (58 :: (hexFix 4 v ++ (32 :: y.f0.data.toList)))).toArray⟩ : ByteArray).size ≤ 100 := hlen
  rw [if_pos (by omega)]
  refine congrArg some (ByteArray.ext (Array.toList_inj.1 ?_))
  simp [ByteArray.data_append, Array.toList_append, symL, hb, hv]
theorem impl_symText_go : ∀ (l : List S61) (p : Option S61) (acc : ByteArray), symsOk p l = true → acc.size + 30 * l.length ≤ 140737488355328 → impl_symText.go l acc = some ⟨(acc.data.toList ++ symsL l).toArray⟩
  | [], _, acc, _, _ => by
    rw [impl_symText.go, symsL, List.append_nil]
  | y :: r, p, acc, h, hs => by
    rw [symsOk, Bool.and_eq_true, Bool.and_eq_true] at h
    have hL := symL_len h.1
    have hz : (⟨(symL y).toArray⟩ : ByteArray).size = (symL y).length := rfl
    rw [List.length_cons] at hs
    rw [impl_symText.go, impl_symText_row y h.1]
    simp only [Option.bind_some]
    rw [if_pos (by omega), impl_symText_go r (some y) _ h.2.2 (by rw [ByteArray.size_append, hz]; omega), symsL]
    simp [ByteArray.data_append, Array.toList_append]

/-- A text cut at each byte c. -/
theorem split_by (c : UInt8) (s : ByteArray) (hs : s.size ≤ 1048576) : strings_Split.f s ⟨#[c]⟩ = some ((sp c s.data.toList).map ofL) := by
  have hone : (⟨#[c]⟩ : ByteArray).size = 1 := rfl
  unfold strings_Split.f
  rw [if_pos (by omega), if_pos (by omega)]
  refine congrArg some (map_data _ _ ?_)
  rw [Go.Lib.splitB_data]
  exact splitK_sp c _ _ rfl
theorem sp_short (c : UInt8) : ∀ l : List UInt8, ∀ p ∈ sp c l, p.length ≤ l.length := by
  have h1 : ∀ l : List UInt8, (sph c l).length ≤ l.length := by
    intro l
    induction l with
    | nil => simp [sph]
    | cons x r ih =>
      rw [sph]
      split <;> simp <;> omega
  have h2 : ∀ l : List UInt8, ∀ p ∈ spt c l, p.length ≤ l.length := by
    intro l
    induction l with
    | nil => simp [spt]
    | cons x r ih =>
      rw [spt]
      have := h1 r
      split
      · intro p hp
        rcases List.mem_cons.1 hp with rfl | hp
        · simp; omega
        · have := ih p hp
          simp; omega
      · intro p hp
        have := ih p hp
        simp; omega
  intro l p hp
  rcases List.mem_cons.1 hp with rfl | hp
  · exact h1 l
  · exact h2 l p hp

/-- What an answer is worth: a right list with its text, or none. -/
def goodSyms (s : ByteArray) (r : List S61 × Bool) : Prop := (r.2 = true ∧ symsOk none r.1 = true ∧ r.1.length ≤ 800 ∧ s.data.toList = symsL r.1) ∨ (r.2 = false ∧ r.1 = [])
theorem symTextP_good {s : ByteArray} {l : List S61} (h : s.toList = [] → l = []) (ht : (symTextP l).toList = s.toList) : symsOk none l = true ∧ l.length ≤ 800 ∧ s.data.toList = symsL l := by
  unfold symTextP at ht
  by_cases c : symsOk none l = true ∧ l.length ≤ 800
  · rw [if_pos c] at ht
    refine ⟨c.1, c.2, ?_⟩
    rw [← toList_inj ht]
  · rw [if_neg c] at ht
    have h0 : s.toList = [] := by rw [← ht]; exact size_zero.2 rfl
    have hl := h h0
    rw [hl] at c
    exact absurd ⟨rfl, by decide⟩ c
theorem symTextP_of {s : ByteArray} {l : List S61} (h1 : symsOk none l = true) (h2 : l.length ≤ 800) (h3 : s.data.toList = symsL l) : (symTextP l).toList = s.toList := by
  unfold symTextP
  rw [if_pos ⟨h1, h2⟩, ← h3]
/-- A symbol's line, without the line's end. -/
def symRow (y : S61) : List UInt8 := hexFix 2 y.f1.toNat ++ (58 :: (hexFix 4 y.f2.toNat ++ (32 :: y.f0.data.toList)))
theorem symL_row (y : S61) : symL y = symRow y ++ [10] := by
  unfold symL symRow
  simp
theorem symRow_free {y : S61} (h : symOk y = true) : (10 : UInt8) ∉ symRow y := by
  have hd : ∀ m a, (10 : UInt8) ∉ hexFix m a := by
    intro m a hm
    obtain ⟨x, hx, e⟩ := hexFix_dig m a 10 hm
    have : ∀ x < 16, (10 : UInt8) ≠ hexU x := by decide
    exact this x hx e
  have hn : (10 : UInt8) ∉ y.f0.data.toList := by
    intro hm
    unfold symOk at h
    rw [Bool.and_eq_true] at h
    have := nam_range ((name_bytes h.1).1 10 hm)
    rw [show ((10 : UInt8).toNat : Int) = 10 from rfl] at this
    omega
  unfold symRow
  intro hm
  rcases List.mem_append.1 hm with hm | hm
  · exact hd _ _ hm
  · rcases List.mem_cons.1 hm with hm | hm
    · exact absurd hm (by decide)
    · rcases List.mem_append.1 hm with hm | hm
      · exact hd _ _ hm
      · rcases List.mem_cons.1 hm with hm | hm
        · exact absurd hm (by decide)
        · exact hn hm
theorem name_size {y : S61} (h : symOk y = true) : 1 ≤ y.f0.size := by
  unfold symOk nameOk at h
  simp only [Bool.and_eq_true, inR_iff] at h
  omega
theorem ext_mid (s : ByteArray) (a b : List UInt8) (c : List UInt8) (i j : Nat) (hs : s.data.toList = a ++ (b ++ c)) (hi : i = a.length) (hj : j = a.length + b.length) : (s.extract i j).data.toList = b := by
  rw [ByteArray.data_extract, Array.toList_extract, List.extract, hs, hi, hj, List.drop_left, Nat.add_sub_cancel_left, List.take_left]
/-- What the two numbers and the name of a right line are. -/
theorem row_parts {y : S61} (h : symOk y = true) {L : ByteArray} (hL : L.data.toList = symRow y) : L.size = 8 + y.f0.size ∧ (L.extract 0 2).size = 2 ∧ (L.extract 3 7).size = 4 ∧ baseOf 16 (L.extract 0 2) = some y.f1 ∧ baseOf 16 (L.extract 3 7) = some y.f2 ∧ L.extract 8 L.size = y.f0 := by
  obtain ⟨h0, h1, h2⟩ := symOk_parts h
  have hz : L.size = 8 + y.f0.size := by
    rw [← len_list, hL]
    unfold symRow
    simp only [List.length_append, List.length_cons, hexFix_len, len_list]
    omega
  unfold symRow at hL
  have e1 := ext_mid L [] (hexFix 2 y.f1.toNat) _ 0 2 hL rfl (by rw [hexFix_len]; rfl)
  have e2 := ext_mid L (hexFix 2 y.f1.toNat ++ [58]) (hexFix 4 y.f2.toNat) (32 :: y.f0.data.toList) 3 7 (by rw [hL]; simp) (by rw [List.length_append, hexFix_len]; rfl) (by rw [List.length_append, hexFix_len, hexFix_len]; rfl)
  have e3 := ext_mid L (hexFix 2 y.f1.toNat ++ (58 :: (hexFix 4 y.f2.toNat ++ [32]))) y.f0.data.toList [] 8 L.size (by rw [hL]; simp) (by simp [hexFix_len]) (by rw [hz, len_list]; simp [hexFix_len])
  have b1 := baseOf_hex 2 y.f1.toNat (by omega) (by rw [show 16 ^ 2 = 256 from rfl]; omega) (by omega) _ e1
  have b2 := baseOf_hex 4 y.f2.toNat (by omega) (by rw [show 16 ^ 4 = 65536 from rfl]; omega) (by omega) _ e2
  refine ⟨hz, ?_, ?_, ?_, ?_, ?_⟩
  · rw [ByteArray.size_extract]
    omega
  · rw [ByteArray.size_extract]
    omega
  · rw [b1, Int.toNat_of_nonneg h1.1]
  · rw [b2, Int.toNat_of_nonneg h2.1]
  · exact ByteArray.ext (Array.toList_inj.1 e3)
theorem syms_all : ∀ {l : List S61} {p : Option S61}, symsOk p l = true → ∀ y ∈ l, symOk y = true
  | [], _, _, y, hy => by cases hy
  | x :: r, p, h, y, hy => by
    rw [symsOk, Bool.and_eq_true, Bool.and_eq_true] at h
    rcases List.mem_cons.1 hy with rfl | hy
    · exact h.1
    · exact syms_all h.2.2 y hy
theorem bytes_nil {s : ByteArray} : s.toList = [] ↔ s.data.toList = [] := by
  rw [size_zero, ← len_list, List.length_eq_zero_iff]
/-- The reference reads the text of right symbols as these. -/
theorem spec_ReadSyms_fwd (s : ByteArray) : ∀ (l out : List S61) (k : Nat) (b : ByteArray), (∀ y ∈ l, symOk y = true) → b.data.toList = symsL l → out.length + l.length ≤ 800 → (symTextP (out ++ l)).toList = s.toList → 1100000 + 4 * l.length ≤ k → b.size ≤ 1048576 → spec_ReadSyms.l0 k s out b = some (out ++ l, true)
  | [], out, k, b, ho, hb, hl, hs, hk, hz => by
    obtain ⟨k, rfl⟩ : ∃ m, k = m + 2 := ⟨k - 2, by omega⟩
    rw [List.append_nil] at hs ⊢
    rw [spec_ReadSyms.l0, if_pos (bytes_nil.2 hb), spec_ReadSyms.j1, if_neg (by decide), spec_SymText_eq out (by omega) (by omega)]
    simp only [Option.bind_some]
    rw [if_pos hs]
  | y :: r, out, k, b, ho, hb, hl, hs, hk, hz => by
    obtain ⟨k, rfl⟩ : ∃ m, k = m + 3 := ⟨k - 3, by omega⟩
    have hy := ho y List.mem_cons_self
    have hb2 : b.data.toList = symRow y ++ 10 :: symsL r := by
      rw [hb, symsL, symL_row, List.append_assoc]
      rfl
    have hcut : cutP b 10 = (ofL (symRow y), ofL (symsL r), true) := by
      unfold cutP
      rw [hb2, cut_hit 10 _ _ (symRow_free hy)]
      rfl
    have hne : ¬ b.toList = [] := by
      intro h
      have := bytes_nil.1 h
      rw [hb2] at this
      simp at this
    rw [List.length_cons] at hl hk
    obtain ⟨p0, p1, p2, p3, p4, p5⟩ := row_parts (L := ofL (symRow y)) hy rfl
    have hn := name_size hy
    have h16 := (symOk_parts hy).1
    have hcz := (cutP_size b 10).2.1
    rw [hcut] at hcz
    simp only at hcz
    rw [spec_ReadSyms.l0, if_neg hne, decide_eq_true (by omega : (out.length : Int) ≤ 800), spec_ReadSyms.j1, if_pos rfl, show (10 : Int) = ((10 : UInt8).toNat : Int) from rfl, spec_l1Cut_eq b (by omega) 10 (by omega), hcut]
    simp only [Option.bind_some]
    generalize ofL (symRow y) = L at p0 p1 p2 p3 p4 p5 ⊢
    rw [if_neg (by omega), show (!true) = false from rfl, spec_ReadSyms.j2, if_neg (by decide), if_pos (by decide), if_pos (by omega), spec_l1Base_eq _ (by omega) (by decide) (by omega), p3]
    simp only [Option.bind_some]
    rw [if_pos (by decide), if_pos (by omega), spec_l1Base_eq _ (by omega) (by decide) (by omega), p4]
    simp only [Option.bind_some, told, Option.isSome_some, if_true, Option.getD_some]
    rw [if_pos (by omega), if_pos (by omega), p5]
    have := spec_ReadSyms_fwd s r (out ++ [y]) k (ofL (symsL r)) (fun z hz => ho z (List.mem_cons_of_mem _ hz)) rfl (by rw [List.length_append, List.length_singleton]; omega) (by rw [List.append_assoc]; exact hs) (by omega) (by omega)
    rw [List.append_assoc] at this
    exact this
/-- The reference answers with a right list whose text is the input, or with none. -/
theorem spec_ReadSyms_back (s : ByteArray) : ∀ (n : Nat) (out : List S61) (k : Nat) (b : ByteArray), out.length + n = 801 → (s.toList = [] → out = [] ∧ b.toList = []) → 1100000 + 4 * n ≤ k → b.size ≤ 1048576 → ∃ r, spec_ReadSyms.l0 k s out b = some r ∧ goodSyms s r := by
  have fin : ∀ (k : Nat) (out : List S61) (b : ByteArray), out.length ≤ 801 → (s.toList = [] → out = []) → 1090000 ≤ k → ∃ r, spec_ReadSyms.j1 (k + 1) s out b false = some r ∧ goodSyms s r := by
    intro k out b hl h hk
    rw [spec_ReadSyms.j1, if_neg (by decide), spec_SymText_eq out (by omega) (by omega)]
    simp only [Option.bind_some]
    by_cases ht : (symTextP out).toList = s.toList
    · obtain ⟨q1, q2, q3⟩ := symTextP_good h ht
      rw [if_pos ht]
      exact ⟨_, rfl, .inl ⟨rfl, q1, q2, q3⟩⟩
    · rw [if_neg ht]
      exact ⟨_, rfl, .inr ⟨rfl, rfl⟩⟩
  have none' : ∃ r : List S61 × Bool, some (([] : List S61), false) = some r ∧ goodSyms s r := ⟨_, rfl, .inr ⟨rfl, rfl⟩⟩
  intro n
  induction n with
  | zero =>
    intro out k b ho h hk hz
    obtain ⟨k, rfl⟩ : ∃ m, k = m + 2 := ⟨k - 2, by omega⟩
    rw [spec_ReadSyms.l0]
    by_cases hb : b.toList = []
    · rw [if_pos hb]
      exact fin k out b (by omega) (fun h0 => (h h0).1) (by omega)
    · rw [if_neg hb, decide_eq_false (by omega : ¬ (out.length : Int) ≤ 800)]
      exact fin k out b (by omega) (fun h0 => (h h0).1) (by omega)
  | succ n ih =>
    intro out k b ho h hk hz
    obtain ⟨k, rfl⟩ : ∃ m, k = m + 3 := ⟨k - 3, by omega⟩
    rw [spec_ReadSyms.l0]
    by_cases hb : b.toList = []
    · rw [if_pos hb]
      exact fin (k + 1) out b (by omega) (fun h0 => (h h0).1) (by omega)
    · rw [if_neg hb, decide_eq_true (by omega : (out.length : Int) ≤ 800), spec_ReadSyms.j1, if_pos rfl, show (10 : Int) = ((10 : UInt8).toNat : Int) from rfl, spec_l1Cut_eq b (by omega) 10 (by omega)]
      obtain ⟨z1, z2, _⟩ := cutP_size b 10
      generalize cutP b 10 = C at z1 z2 ⊢
      obtain ⟨L, M, e⟩ := C
      simp only at z1 z2
      simp only [Option.bind_some]
      by_cases h9 : (L.size : Int) < 9
      · rw [if_pos h9, spec_ReadSyms.j2, if_pos rfl]
        exact none'
      · rw [if_neg h9]
        cases e with
        | false =>
          rw [show (!false) = true from rfl, spec_ReadSyms.j2, if_pos rfl]
          exact none'
        | true =>
          have x1 : (L.extract 0 2).size ≤ 1048576 := by rw [ByteArray.size_extract]; omega
          have x2 : (L.extract 3 7).size ≤ 1048576 := by rw [ByteArray.size_extract]; omega
          have y1 : (L.extract 0 2).size ≤ 4 := by rw [ByteArray.size_extract]; omega
          have y2 : (L.extract 3 7).size ≤ 4 := by rw [ByteArray.size_extract]; omega
          rw [show (!true) = false from rfl, spec_ReadSyms.j2, if_neg (by decide), if_pos (by decide), if_pos (by omega), spec_l1Base_eq _ x1 (by decide) (by omega)]
          simp only [Option.bind_some]
          rw [if_pos (by decide), if_pos (by omega), spec_l1Base_eq _ x2 (by decide) (by omega)]
          simp only [Option.bind_some]
          by_cases t1 : (told (baseOf 16 (L.extract 0 2))).2 = true
          · rw [if_pos t1]
            by_cases t2 : (told (baseOf 16 (L.extract 3 7))).2 = true
            · rw [if_pos t2, if_pos (by omega), if_pos (by omega)]
              refine ih _ k M (by rw [List.length_append, List.length_singleton]; omega) (fun h0 => absurd (h h0).2 hb) (by omega) (by omega)
            · rw [if_neg t2]
              exact none'
          · rw [if_neg t1]
            exact none'
/-- What both answer. -/
noncomputable def rdSyms (s : ByteArray) : List S61 × Bool := by
  classical
  exact if h : ∃ l : List S61, symsOk none l = true ∧ l.length ≤ 800 ∧ s.data.toList = symsL l then (h.choose, true) else ([], false)
theorem rdSyms_of {s : ByteArray} {r : List S61 × Bool} (hg : goodSyms s r) (hf : ∀ l : List S61, symsOk none l = true → l.length ≤ 800 → s.data.toList = symsL l → r = (l, true)) : r = rdSyms s := by
  unfold rdSyms
  by_cases h : ∃ l : List S61, symsOk none l = true ∧ l.length ≤ 800 ∧ s.data.toList = symsL l
  · rw [dif_pos h]
    exact hf _ h.choose_spec.1 h.choose_spec.2.1 h.choose_spec.2.2
  · rw [dif_neg h]
    rcases hg with ⟨h1, h2, h3, h4⟩ | ⟨h1, h2⟩
    · exact absurd ⟨_, h2, h3, h4⟩ h
    · obtain ⟨r1, r2⟩ := r
      simp only at h1 h2
      rw [h1, h2]
theorem rdSyms_len (s : ByteArray) : (rdSyms s).1.length ≤ 800 := by
  unfold rdSyms
  by_cases h : ∃ l : List S61, symsOk none l = true ∧ l.length ≤ 800 ∧ s.data.toList = symsL l
  · rw [dif_pos h]
    exact h.choose_spec.2.1
  · rw [dif_neg h]
    exact Nat.zero_le _
theorem spec_ReadSyms_eq (s : ByteArray) (hs : s.size ≤ 1048576) {k : Nat} (hk : 1110000 ≤ k) : spec_ReadSyms.f k s = some (rdSyms s) := by
  unfold spec_ReadSyms.f
  obtain ⟨r, h1, h2⟩ := spec_ReadSyms_back s 801 [] k s rfl (fun h => ⟨rfl, h⟩) (by omega) hs
  rw [h1, rdSyms_of h2]
  intro l q1 q2 q3
  have := spec_ReadSyms_fwd s l [] k s (syms_all q1) q3 (by rw [List.length_nil]; omega) (symTextP_of q1 q2 q3) (by omega) hs
  rw [h1] at this
  exact Option.some.inj this

theorem num_hex (w : ByteArray) (h : w.size ≤ 4) {k : Nat} (hk : 40 ≤ k) : impl_ReadNum.f k ((⟨#[36]⟩ : ByteArray) ++ w) = some (told (baseOf 16 w)) := by
  have h1 : (⟨#[36]⟩ : ByteArray).size = 1 := rfl
  have hz : ((⟨#[36]⟩ : ByteArray) ++ w).size = 1 + w.size := by rw [ByteArray.size_append, h1]
  have hl : ((⟨#[36]⟩ : ByteArray) ++ w).data.toList = 36 :: w.data.toList := by rw [ByteArray.data_append, Array.toList_append]; rfl
  have hb : bt ((⟨#[36]⟩ : ByteArray) ++ w) 0 = 36 := by
    obtain ⟨x, hx, bx⟩ := bt_drop ((⟨#[36]⟩ : ByteArray) ++ w) 0 (by omega)
    rw [List.drop_zero, hl] at hx
    have bx' : bt ((⟨#[36]⟩ : ByteArray) ++ w) 0 = (x.toNat : Int) := bx
    rw [bx', ← (List.cons.inj hx).1]
    rfl
  have he : ((⟨#[36]⟩ : ByteArray) ++ w).extract 1 ((⟨#[36]⟩ : ByteArray) ++ w).size = w := by
    refine ByteArray.ext (Array.toList_inj.1 ?_)
    rw [(ext_list _ 1).2, hl]
    rfl
  rw [impl_ReadNum_eq _ hk]
  unfold numOf
  rw [if_neg (by omega), if_neg (by omega), if_pos hb, he]
/-- The end of the program's reading. -/
theorem impl_ReadSyms_fin (s : ByteArray) (out : List S61) (hl : out.length ≤ 801) {k : Nat} (hk : 1000 ≤ k) : ((impl_areSyms.f k out).bind fun t => (if t = true then ((impl_symText.f out).bind fun u => (if u.toList = s.toList then (some (out, true)) else (some (([] : List S61), false)))) else (some (([] : List S61), false)))) = some (if symsOk none out = true ∧ out.length ≤ 800 ∧ s.data.toList = symsL out then (out, true) else ([], false)) := by
  have h := impl_areSyms_l0 out (by omega) out.length k 0 (by omega) (by omega)
  rw [show ((0 : Nat) : Int) = 0 from rfl, List.drop_zero, show prevAt out 0 = none from rfl] at h
  unfold impl_areSyms.f
  rw [h]
  simp only [Option.bind_some]
  by_cases hc : symsOk none out = true ∧ out.length ≤ 800
  · have hg := impl_symText_go out none ⟨#[]⟩ hc.1 (by show 0 + _ ≤ _; omega)
    unfold impl_symText.f
    rw [hc.1, decide_eq_true (by omega : (out.length : Int) ≤ 800), if_pos (show (true && true) = true from rfl), hg]
    simp only [Option.bind_some]
    rw [List.nil_append]
    by_cases hq : symsL out = s.data.toList
    · rw [if_pos ((list_eq_iff s _).2 hq), if_pos ⟨trivial, hc.2, hq.symm⟩]
    · rw [if_neg (fun e => hq ((list_eq_iff s _).1 e)), if_neg (fun e => hq e.2.2.symm)]
  · rw [if_neg, if_neg (fun e => hc ⟨e.1, e.2.1⟩)]
    intro e
    rw [Bool.and_eq_true, decide_eq_true_eq] at e
    exact hc ⟨e.1, by omega⟩
theorem rd_map (f : Nat → ByteArray) (ws : List ByteArray) (i : Nat) (h : i < ws.length) : rdOf ByteArray.empty ws (i : Int) = ws[i] := by
  unfold rdOf
  rw [Int.toNat_natCast, List.getD_eq_getElem?_getD, List.getElem?_eq_getElem h]
  rfl
theorem impl_ReadSyms_back (s : ByteArray) (ws : List ByteArray) (hl : ws.length ≤ 800) (hw : ∀ w ∈ ws, w.size ≤ 1048576) : ∀ (n k i : Nat) (out : List S61), i + n = ws.length → out.length = i → n + 2000 ≤ k → ∃ r, impl_ReadSyms.l0 k s out ws (ws.length : Int) (i : Int) = some r ∧ goodSyms s r := by
  intro n
  induction n with
  | zero =>
    intro k i out hi ho hk
    obtain ⟨k, rfl⟩ : ∃ m, k = m + 1 := ⟨k - 1, by omega⟩
    rw [impl_ReadSyms.l0, if_neg (by omega), impl_ReadSyms_fin s out (by omega) (by omega)]
    refine ⟨_, rfl, ?_⟩
    split
    · rename_i h
      exact .inl ⟨rfl, h.1, h.2.1, h.2.2⟩
    · exact .inr ⟨rfl, rfl⟩
  | succ n ih =>
    intro k i out hi ho hk
    obtain ⟨k, rfl⟩ : ∃ m, k = m + 1 := ⟨k - 1, by omega⟩
    have hrd := rd_map (fun _ => ByteArray.empty) ws i (by omega)
    have hm := hw _ (List.getElem_mem (l := ws) (n := i) (by omega))
    rw [impl_ReadSyms.l0, if_pos (by omega), if_pos (by omega), if_pos (by omega), hrd]
    generalize ws[i] = L at hm ⊢
    by_cases h8 : (L.size : Int) < 8
    · rw [if_pos h8]
      exact ⟨_, rfl, .inr ⟨rfl, rfl⟩⟩
    · have y1 : (L.extract 0 2).size ≤ 4 := by rw [ByteArray.size_extract]; omega
      have y2 : (L.extract 3 7).size ≤ 4 := by rw [ByteArray.size_extract]; omega
      rw [if_neg h8, if_pos (by decide), if_pos (by omega), if_pos (by omega), num_hex _ y1 (by omega)]
      simp only [Option.bind_some]
      rw [if_pos (by decide), if_pos (by omega), if_pos (by omega), num_hex _ y2 (by omega)]
      simp only [Option.bind_some]
      rw [if_pos (by omega), if_pos (by omega), up1 (by omega : i < ws.length) (by omega)]
      exact ih k (i + 1) _ (by omega) (by rw [List.length_append, List.length_singleton]; omega) (by omega)
theorem impl_ReadSyms_fwd (s : ByteArray) (l : List S61) (hok : symsOk none l = true) (hl : l.length ≤ 800) (hs : s.data.toList = symsL l) : ∀ (n k i : Nat), i + n = l.length → n + 2000 ≤ k → impl_ReadSyms.l0 k s (l.take i) (l.map fun y => ofL (symRow y)) (l.length : Int) (i : Int) = some (l, true) := by
  intro n
  induction n with
  | zero =>
    intro k i hi hk
    obtain ⟨k, rfl⟩ : ∃ m, k = m + 1 := ⟨k - 1, by omega⟩
    rw [impl_ReadSyms.l0, if_neg (by omega), List.take_of_length_le (by omega), impl_ReadSyms_fin s l (by omega) (by omega), if_pos ⟨hok, hl, hs⟩]
  | succ n ih =>
    intro k i hi hk
    obtain ⟨k, rfl⟩ : ∃ m, k = m + 1 := ⟨k - 1, by omega⟩
    have hrd := rd_map (fun _ => ByteArray.empty) (l.map fun y => ofL (symRow y)) i (by rw [List.length_map]; omega)
    rw [List.getElem_map] at hrd
    have hy := syms_all hok _ (List.getElem_mem (l := l) (n := i) (by omega))
    have htk : l.take (i + 1) = l.take i ++ [l[i]] := by
      rw [List.take_add_one, List.getElem?_eq_getElem (by omega)]
      rfl
    rw [impl_ReadSyms.l0, if_pos (by omega), if_pos (by omega), List.length_map, if_pos (by omega), hrd]
    obtain ⟨p0, p1, p2, p3, p4, p5⟩ := row_parts (L := ofL (symRow l[i])) hy rfl
    have hi2 := ih k (i + 1) (by omega) (by omega)
    rw [htk] at hi2
    generalize l[i] = y at p0 p1 p2 p3 p4 p5 hi2 ⊢
    generalize ofL (symRow y) = L at p0 p1 p2 p3 p4 p5 ⊢
    rw [if_neg (by omega), if_pos (by decide), if_pos (by omega), if_pos (by omega), num_hex _ (by omega) (by omega), p3]
    simp only [Option.bind_some]
    rw [if_pos (by decide), if_pos (by omega), if_pos (by omega), num_hex _ (by omega) (by omega), p4]
    simp only [Option.bind_some]
    rw [if_pos (by omega), if_pos (by rw [List.length_take]; omega), up1 (by omega : i < l.length) (by omega), p5]
    exact hi2
theorem sp_syms : ∀ l : List S61, (∀ y ∈ l, symOk y = true) → sp 10 (symsL l) = l.map symRow ++ [[]]
  | [], _ => rfl
  | y :: r, h => by
    have ih := sp_syms r (fun z hz => h z (List.mem_cons_of_mem _ hz))
    have hf := symRow_free (h y List.mem_cons_self)
    have e : symsL (y :: r) = symRow y ++ 10 :: symsL r := by
      rw [symsL, symL_row, List.append_assoc]
      rfl
    obtain ⟨q1, q2⟩ := sp_hit (b := symsL r) hf
    unfold sp at ih ⊢
    rw [e, q1, q2, ih]
    rfl
theorem impl_ReadSyms_eq (s : ByteArray) (hs : s.size ≤ 1048576) {k : Nat} (hk : 10000 ≤ k) : impl_ReadSyms.f k s = some (rdSyms s) := by
  have hsp : ∀ p ∈ (sp 10 s.data.toList).map ofL, p.size ≤ 1048576 := by
    intro p hp
    obtain ⟨q, hq, rfl⟩ := List.mem_map.1 hp
    have := sp_short 10 _ q hq
    rw [len_list] at this
    rw [show (ofL q).size = q.length from bytes_size q]
    omega
  unfold impl_ReadSyms.f
  rw [split_by 10 s hs]
  simp only [Option.bind_some]
  have hpos : 1 ≤ ((sp 10 s.data.toList).map ofL).length := by
    rw [List.length_map]
    unfold sp
    simp
  by_cases h8 : ((sp 10 s.data.toList).map ofL).length > 801
  · rw [if_pos (by omega)]
    refine congrArg some (rdSyms_of (s := s) (r := ([], false)) (.inr ⟨rfl, rfl⟩) ?_)
    intro l q1 q2 q3
    rw [q3, sp_syms l (syms_all q1)] at h8
    simp at h8
    omega
  · rw [if_neg (by omega), w64 (by omega) (by omega), if_pos (by omega), if_pos (by omega)]
    have hn : ((((sp 10 s.data.toList).map ofL).length : Int) - 1).toNat = ((sp 10 s.data.toList).map ofL).length - 1 := by omega
    rw [hn]
    obtain ⟨r, h1, h2⟩ := impl_ReadSyms_back s (((sp 10 s.data.toList).map ofL).take (((sp 10 s.data.toList).map ofL).length - 1)) (by rw [List.length_take]; omega) (fun w hw => hsp w (List.mem_of_mem_take hw)) _ k 0 [] (Nat.zero_add _) rfl (by rw [List.length_take]; omega)
    rw [show ((0 : Nat) : Int) = 0 from rfl] at h1
    rw [h1, rdSyms_of h2]
    intro l q1 q2 q3
    have h3 := impl_ReadSyms_fwd s l q1 q2 q3 l.length k 0 (by omega) (by omega)
    have e : ((sp 10 s.data.toList).map ofL).take (((sp 10 s.data.toList).map ofL).length - 1) = l.map fun y => ofL (symRow y) := by
      rw [q3, sp_syms l (syms_all q1), List.map_append, List.length_append, List.length_map, List.length_map, List.map_cons, List.map_nil, List.length_singleton, Nat.add_sub_cancel, List.take_left' (by rw [List.length_map, List.length_map]), List.map_map]
      rfl
    rw [e, List.length_map] at h1
    rw [show ((0 : Nat) : Int) = 0 from rfl, List.take_zero, h1] at h3
    exact Option.some.inj h3

theorem FnExactReadSyms (s : ByteArray) (h : s.size ≤ maxLen) : ∃ k, laws_FnExactReadSyms.f k s = some true := by
  refine ⟨1200003, ?_⟩
  obtain ⟨K, hK⟩ : ∃ K : Nat, K = 1200000 := ⟨_, rfl⟩
  rw [show 1200003 = K + 3 by omega]
  unfold laws_FnExactReadSyms.f
  by_cases hb : (s.size : Int) > 1048576
  · rw [if_pos hb]
  · rw [if_neg hb]
    have hs : s.size ≤ 1048576 := by omega
    have hS := fun k hk => spec_ReadSyms_eq s hs (k := k) hk
    have hI := fun k hk => impl_ReadSyms_eq s hs (k := k) hk
    have hlen := rdSyms_len s
    generalize rdSyms s = R at hS hI hlen
    obtain ⟨l, ok⟩ := R
    replace hlen : l.length ≤ 800 := hlen
    have hE := fun k hk => laws_eqSymS_same l (by omega) (k := k) hk
    obtain ⟨z, m1, n1, g1⟩ := laws_markHeldY l (by omega) (k := K + 2) (by omega)
    rw [hS (K + 3) (by omega), hI (K + 3) (by omega)]
    simp only [Option.bind_some]
    rw [hE (K + 3) (by omega)]
    simp only [Option.bind_some, if_true, bne_self_eq_false]
    rw [laws_FnExactReadSyms.j0, if_neg (by decide), m1]
    simp only [Option.bind_some]
    rw [g1 (K + 2) (by omega)]
    simp only [Option.bind_some]
    rw [if_neg (by omega), if_pos trivial, hI (K + 2) (by omega)]
    simp only [Option.bind_some]
    rw [hE (K + 2) (by omega)]
    simp only [Option.bind_some, if_true, bne_self_eq_false]
    rw [laws_FnExactReadSyms.j1, if_neg (by decide), g1 (K + 1) (by omega)]
    simp only [Option.bind_some]
    rw [if_neg (by omega), if_pos trivial]

end Go.Proofs.YtmiebnpmckjidaaDoor.Pure
