/-
The law FnExactReadInsText, told as a plain function of the text, answers true for every input.
-/
import Derived.Test.YtmiebnpmckjidaaGreatDoorPFnExactReadInsTextx11
import Derived.Test.YtmiebnpmckjidaaGreatDoorAidA
import Derived.Test.YtmiebnpmckjidaaGreatDoorAidB
import Derived.Test.YtmiebnpmckjidaaGreatDoorAidI
import Derived.Test.YtmiebnpmckjidaaGreatDoorAidO
import Derived.Test.YtmiebnpmckjidaaGreatDoorAidN
import Derived.Test.YtmiebnpmckjidaaGreatDoorAidM
import Derived.Test.YtmiebnpmckjidaaGreatDoorAidC
import Derived.Test.YtmiebnpmckjidaaGreatDoorAidH
import Derived.Test.YtmiebnpmckjidaaGreatDoorAidJ
import Derived.Test.YtmiebnpmckjidaaGreatDoorAidP
namespace Go.Proofs.YtmiebnpmckjidaaGreatDoor.Pure
open Go.RowKit Go.Proofs.YtmiebnpmckjidaaGreatDoor.Aid Go.Proofs.YtmiebnpmckjidaaGreatDoor.PFnExactReadInsText Go.Proofs.YtmiebnpmckjidaaGreatDoorW.PrintWords Go.Proofs.YtmiebnpmckjidaaGreatDoorW.PrintLast Go.Proofs.YtmiebnpmckjidaaGreatDoorW.PrintMore
set_option linter.unusedVariables false
set_option linter.unusedSimpArgs false

theorem spec_l1In_eq (a b c : Int) : spec_l1In.f a b c = some (inR a b c) := by
  unfold spec_l1In.f inR
  by_cases h : a ≥ b
  · rw [if_pos h, decide_eq_true (show b ≤ a from h)]
    rfl
  · rw [if_neg h, decide_eq_false (show ¬ b ≤ a from h)]
    rfl

theorem impl_within_eq (a b c : Int) : impl_within.f a b c = some (inR a b c) := by
  unfold impl_within.f inR
  by_cases h : a ≥ b
  · rw [if_pos h, decide_eq_true (show b ≤ a from h)]
    rfl
  · rw [if_neg h, decide_eq_false (show ¬ b ≤ a from h)]
    rfl

theorem impl_isByte_eq (a : Int) : impl_isByte.f a = some (inR a 0 255) := by
  unfold impl_isByte.f
  rw [impl_within_eq]
  rfl

theorem impl_isWord_eq (a : Int) : impl_isWord.f a = some (inR a 0 65535) := by
  unfold impl_isWord.f
  rw [impl_within_eq]
  rfl

theorem spec_SignedOf_eq (a : Int) : spec_SignedOf.f a = some (sgn a) := by
  unfold spec_SignedOf.f sgn
  rw [spec_l1In_eq]
  by_cases h : 0 ≤ a ∧ a ≤ 255
  · rw [inR_pos h.1 h.2]
    simp only [Option.bind_some, if_true]
    by_cases h2 : a > 127
    · rw [if_pos h2, if_pos h2, w64 (by omega) (by omega)]
    · rw [if_neg h2, if_neg h2]
  · rw [inR_neg h]
    rfl

theorem impl_SignedOf_eq (a : Int) : impl_SignedOf.f a = some (sgn a) := by
  unfold impl_SignedOf.f sgn
  rw [impl_isByte_eq]
  by_cases h : 0 ≤ a ∧ a ≤ 255
  · rw [inR_pos h.1 h.2]
    simp only [Option.bind_some, if_true]
    by_cases h2 : a > 127
    · rw [if_pos h2, if_pos h2, w64 (by omega) (by omega)]
    · rw [if_neg h2, if_neg h2]
  · rw [inR_neg h]
    rfl

theorem spec_l1Digit_eq {k : Nat} (hk : 1 ≤ k) {c : Int} (h0 : 0 ≤ c) (h1 : c ≤ 255) : spec_l1Digit.f k c = some (dig c) := by
  obtain ⟨k, rfl⟩ : ∃ m, k = m + 1 := ⟨k - 1, by omega⟩
  unfold spec_l1Digit.f dig
  simp only [spec_l1Digit.j0]
  by_cases a1 : 48 ≤ c ∧ c ≤ 57
  · rw [if_pos a1.1, decide_eq_true a1.2, if_pos rfl, inR_pos a1.1 a1.2, if_pos rfl]
    congr 1
    omega
  · rw [inR_neg a1]
    have e : (if c ≥ 48 then (if decide (c ≤ 57) = true then some ((c - 48) % 256) else if c ≥ 65 then if c ≤ 70 then some ((c - 65) % 256 + 10) else some 99 else some 99) else if false = true then some ((c - 48) % 256) else if c ≥ 65 then if c ≤ 70 then some ((c - 65) % 256 + 10) else some 99 else some 99) = (if c ≥ 65 then if c ≤ 70 then some ((c - 65) % 256 + 10) else some 99 else some 99) := by
      by_cases b1 : c ≥ 48
      · rw [if_pos b1, decide_eq_false (by omega)]
        rfl
      · rw [if_neg b1]
        rfl
    rw [e]
    by_cases a2 : 65 ≤ c ∧ c ≤ 70
    · rw [if_pos a2.1, if_pos a2.2, inR_pos a2.1 a2.2]
      simp only [Bool.false_eq_true, if_false, if_true]
      congr 1
      omega
    · rw [inR_neg a2]
      simp only [Bool.false_eq_true, if_false]
      by_cases b2 : c ≥ 65
      · rw [if_pos b2, if_neg (by omega)]
      · rw [if_neg b2]

theorem spec_l1Base_l0 (s : ByteArray) (hs : s.size ≤ 1048576) (base : Int) (hb : 0 ≤ base ∧ base ≤ 16) : ∀ (n k i : Nat) (acc : Int), i + n = s.size → n + 5 ≤ k → 0 ≤ acc → acc ≤ 65535 →
    spec_l1Base.l0 k s base acc (i : Int) = some (match baseGo base s n i acc with | none => (0, false) | some v => (v, s.toList != ([] : List UInt8))) := by
  intro n
  induction n with
  | zero =>
    intro k i acc hi hk h0 h1
    obtain ⟨k, rfl⟩ : ∃ m, k = m + 1 := ⟨k - 1, by omega⟩
    simp only [spec_l1Base.l0, baseGo]
    rw [if_neg (by omega)]
  | succ n ih =>
    intro k i acc hi hk h0 h1
    obtain ⟨k, rfl⟩ : ∃ m, k = m + 1 := ⟨k - 1, by omega⟩
    have hd := dig_nonneg (c := bt s (i : Int))
    have hm : 0 ≤ acc * base := Int.mul_nonneg h0 hb.1
    have hM : acc * base ≤ 65535 * 16 := Int.mul_le_mul h1 hb.2 hb.1 (by decide)
    simp only [spec_l1Base.l0, baseGo]
    rw [if_pos (by omega), if_pos (by omega), spec_l1Digit_eq (by omega) (bt_nonneg _ _) (bt_le _ _), w64 (n := acc * base) (by omega) (by omega), up1 (by omega : i < s.size) (by omega)]
    simp only [Option.bind_some]
    rw [w64 (n := acc * base + dig (bt s (i : Int))) (by omega) (by omega)]
    by_cases c1 : dig (bt s (i : Int)) ≥ base
    · rw [if_pos c1, if_pos c1]
    · rw [if_neg c1, if_neg c1]
      by_cases c2 : acc * base + dig (bt s (i : Int)) > 65535
      · rw [if_pos c2, if_pos c2]
      · rw [if_neg c2, if_neg c2]
        exact ih k (i + 1) _ (by omega) (by omega) (by omega) (by omega)
theorem spec_l1Base_eq (s : ByteArray) (hs : s.size ≤ 1048576) {base : Int} (hb : 0 ≤ base ∧ base ≤ 16) {k : Nat} (hk : s.size + 5 ≤ k) : spec_l1Base.f k s base = some (told (baseOf base s)) := by
  unfold spec_l1Base.f baseOf
  have h := spec_l1Base_l0 s hs base hb s.size k 0 0 (by omega) (by omega) (by omega) (by omega)
  rw [show ((0 : Nat) : Int) = 0 from rfl] at h
  rw [h]
  by_cases hz : s.size = 0
  · rw [if_pos hz, size_zero.2 hz, hz]
    rfl
  · rw [if_neg hz]
    have hne : (s.toList != ([] : List UInt8)) = true := by
      rw [bne_iff_ne]
      exact fun h => hz (size_zero.1 h)
    cases baseGo base s s.size 0 0 with
    | none => rfl
    | some v => simp [told, hne]

theorem spec_ReadNum_eq (s : ByteArray) {k : Nat} (hk : 40 ≤ k) : spec_ReadNum.f k s = some (told (numOf s)) := by
  obtain ⟨k, rfl⟩ : ∃ m, k = m + 1 := ⟨k - 1, by omega⟩
  unfold spec_ReadNum.f numOf
  simp only [spec_ReadNum.j0]
  by_cases h1 : (s.size : Int) > 18
  · rw [if_pos h1, if_pos h1]
    rfl
  · rw [if_neg h1, if_neg h1]
    by_cases h2 : s.size = 0
    · rw [if_pos h2, size_zero.2 h2]
      rfl
    · have hne : (s.toList == ([] : List UInt8)) = false := by
        rw [beq_eq_false_iff_ne]
        exact fun h => h2 (size_zero.1 h)
      have hx : (s.extract 1 s.size).size ≤ 18 := by simp; omega
      rw [hne, if_neg h2, if_neg (by simp), if_pos (by omega)]
      have p1 : (1 ≤ (s.size : Int)) = True := eq_true (by omega)
      simp only [p1, if_true]
      rw [spec_l1Base_eq _ (by omega) (by decide : (0 : Int) ≤ 16 ∧ (16 : Int) ≤ 16) (by omega), spec_l1Base_eq _ (by omega) (by decide : (0 : Int) ≤ 2 ∧ (2 : Int) ≤ 16) (by omega), spec_l1Base_eq _ (by omega) (by decide : (0 : Int) ≤ 10 ∧ (10 : Int) ≤ 16) (by omega)]
      simp only [Option.bind_some, Prod.eta]
      split
      · rfl
      · split <;> rfl

theorem impl_valueOf_over (s d : ByteArray) (hs : s.size ≤ 1048576) : ∀ (n k i : Nat) (acc : Int), i + n = s.size → n < k → 65535 < acc → ∃ v, impl_valueOf.l0 k s d acc (s.size : Int) (i : Int) = some (v, false) := by
  intro n k i acc hi hk h0
  obtain ⟨k, rfl⟩ : ∃ m, k = m + 1 := ⟨k - 1, by omega⟩
  cases n with
  | zero =>
    simp only [impl_valueOf.l0]
    rw [if_neg (by omega)]
    split
    · exact ⟨_, rfl⟩
    · rw [decide_eq_false (by omega)]
      exact ⟨_, rfl⟩
  | succ n =>
    simp only [impl_valueOf.l0, strings_IndexByte.f]
    rw [if_pos (by omega), if_pos (by omega), if_pos (by omega)]
    simp only [Option.bind_some]
    split
    · exact ⟨_, rfl⟩
    · first | exact ⟨_, rfl⟩ | (rw [if_pos (by omega)]; exact ⟨_, rfl⟩)
theorem impl_valueOf_l0 (s d : ByteArray) (hs : s.size ≤ 1048576) (base : Int) (hb : 2 ≤ base ∧ base ≤ 16) (hd : (d.size : Int) = base) (hi16 : ∀ c : Int, 0 ≤ c → c ≤ 255 → Go.Lib.indexByte d.data.toList c.toNat.toUInt8 = if dig c < base then dig c else -1) :
    ∀ (n k i : Nat) (acc : Int), i + n = s.size → n + 5 ≤ k → 0 ≤ acc → acc ≤ 65535 →
    ∃ v, impl_valueOf.l0 k s d acc (s.size : Int) (i : Int) = some (v, (baseGo base s n i acc).isSome && (s.toList != ([] : List UInt8))) ∧ ∀ u, baseGo base s n i acc = some u → v = u := by
  intro n
  induction n with
  | zero =>
    intro k i acc hi hk h0 h1
    obtain ⟨k, rfl⟩ : ∃ m, k = m + 1 := ⟨k - 1, by omega⟩
    simp only [impl_valueOf.l0, baseGo]
    rw [if_neg (by omega), decide_eq_true h1]
    refine ⟨acc, ?_, fun u hu => Option.some.inj hu⟩
    by_cases hz : s.toList = []
    · rw [if_pos hz, hz]
      rfl
    · rw [if_neg hz]
      simp [hz]
  | succ n ih =>
    intro k i acc hi hk h0 h1
    obtain ⟨k, rfl⟩ : ∃ m, k = m + 1 := ⟨k - 1, by omega⟩
    have hdg := dig_nonneg (c := bt s (i : Int))
    have hm : 0 ≤ acc * base := Int.mul_nonneg h0 (by omega)
    have hM : acc * base ≤ 65535 * 16 := Int.mul_le_mul h1 hb.2 (by omega) (by decide)
    simp only [impl_valueOf.l0, baseGo, strings_IndexByte.f]
    rw [if_pos (by omega), if_pos (by omega), if_pos (by omega), hi16 _ (bt_nonneg _ _) (bt_le _ _), hd]
    simp only [Option.bind_some]
    by_cases c1 : dig (bt s (i : Int)) ≥ base
    · rw [if_neg (by omega : ¬ dig (bt s (i : Int)) < base), if_pos c1]
      exact ⟨0, by simp, fun u hu => by cases hu⟩
    · rw [if_pos (by omega : dig (bt s (i : Int)) < base), if_neg c1, if_neg (by omega), if_neg (by omega), w64 (n := acc * base) (by omega) (by omega), w64 (n := acc * base + dig (bt s (i : Int))) (by omega) (by omega), up1 (by omega : i < s.size) (by omega)]
      by_cases c2 : acc * base + dig (bt s (i : Int)) > 65535
      · rw [if_pos c2]
        obtain ⟨v, hv⟩ := impl_valueOf_over s d hs n k (i + 1) _ (by omega) (by omega) c2
        exact ⟨v, by rw [hv]; rfl, fun u hu => by cases hu⟩
      · rw [if_neg c2]
        exact ih k (i + 1) _ (by omega) (by omega) (by omega) (by omega)
theorem impl_valueOf_eq (s d : ByteArray) (hs : s.size ≤ 1048576) {base : Int} (hb : 2 ≤ base ∧ base ≤ 16) (hd : (d.size : Int) = base) (hi16 : ∀ c : Int, 0 ≤ c → c ≤ 255 → Go.Lib.indexByte d.data.toList c.toNat.toUInt8 = if dig c < base then dig c else -1) {k : Nat} (hk : s.size + 5 ≤ k) :
    ∃ v, impl_valueOf.f k s d = some (v, (baseOf base s).isSome) ∧ ∀ u, baseOf base s = some u → v = u := by
  unfold impl_valueOf.f baseOf
  obtain ⟨v, hv, hu⟩ := impl_valueOf_l0 s d hs base hb hd hi16 s.size k 0 0 (by omega) (by omega) (by omega) (by omega)
  rw [show ((0 : Nat) : Int) = 0 from rfl] at hv
  refine ⟨v, ?_, ?_⟩
  · rw [hv]
    by_cases hz : s.size = 0
    · rw [if_pos hz, size_zero.2 hz]
      simp
    · have hne : (s.toList != ([] : List UInt8)) = true := by
        rw [bne_iff_ne]
        exact fun h => hz (size_zero.1 h)
      rw [if_neg hz, hne, Bool.and_true]
  · intro u h
    by_cases hz : s.size = 0
    · rw [if_pos hz] at h
      cases h
    · rw [if_neg hz] at h
      exact hu u h

--NEEDS stringslite_HasPrefix
theorem strings_HasPrefix_one (s : ByteArray) (c : UInt8) : strings_HasPrefix.f s ⟨#[c]⟩ = some (decide (1 ≤ s.size ∧ bt s 0 = (c.toNat : Int))) := by
  unfold strings_HasPrefix.f stringslite_HasPrefix.f
  have hz : ((⟨#[c]⟩ : ByteArray).size : Int) = 1 := rfl
  rw [hz]
  by_cases h : 1 ≤ s.size
  · rw [if_pos (by omega), if_pos (by decide), if_pos (by omega)]
    have hp := prefix_one s c h
    have e : (⟨#[c]⟩ : ByteArray).toList = [c] := by rw [ByteArray.toList_eq]
    simp only [Option.bind_some]
    rw [show (1 : Int).toNat = 1 from rfl, e, hp]
    simp [h]
  · rw [if_neg (by omega)]
    simp [h]

theorem impl_ReadNum_eq (s : ByteArray) {k : Nat} (hk : 40 ≤ k) : impl_ReadNum.f k s = some (told (numOf s)) := by
  unfold impl_ReadNum.f numOf
  by_cases h1 : (s.size : Int) > 18
  · rw [if_pos h1, if_pos h1]
    rfl
  · rw [if_neg h1, if_neg h1]
    have hx : (s.extract 1 s.size).size ≤ 18 := by simp; omega
    obtain ⟨v1, e1, u1⟩ := impl_valueOf_eq (s.extract 1 s.size) ⟨#[48, 49, 50, 51, 52, 53, 54, 55, 56, 57, 65, 66, 67, 68, 69, 70]⟩ (by omega) (base := 16) (by decide) rfl (fun c a b => idx16 a b) (k := k) (by omega)
    obtain ⟨v2, e2, u2⟩ := impl_valueOf_eq (s.extract 1 s.size) ⟨#[48, 49]⟩ (by omega) (base := 2) (by decide) rfl (fun c a b => idx2 a b) (k := k) (by omega)
    obtain ⟨v3, e3, u3⟩ := impl_valueOf_eq s ⟨#[48, 49, 50, 51, 52, 53, 54, 55, 56, 57]⟩ (by omega) (base := 10) (by decide) rfl (fun c a b => idx10 a b) (k := k) (by omega)
    have fin : ∀ (v : Int) (o : Option Int), (∀ u, o = some u → v = u) → (if o.isSome = true then some (v, true) else some (0, false)) = some (told o) := by
      intro v o h
      cases o with
      | none => rfl
      | some u =>
        rw [h u rfl]
        rfl
    by_cases h2 : s.size = 0
    · have e0 : baseOf 10 s = none := by
        unfold baseOf
        rw [if_pos h2]
      rw [e0] at e3
      rw [if_pos h2, e3]
      have p2 : (1 ≤ s.size) = False := eq_false (by omega)
      rw [strings_HasPrefix_one s 36, strings_HasPrefix_one s 37]
      simp only [p2, false_and, decide_false, Option.bind_some, Bool.false_eq_true, if_false]
      simp [told]
    · rw [if_neg h2]
      have p1 : (1 ≤ (s.size : Int)) = True := eq_true (by omega)
      have p2 : (1 ≤ s.size) = True := eq_true (by omega)
      rw [strings_HasPrefix_one s 36, strings_HasPrefix_one s 37]
      simp only [Option.bind_some, decide_eq_true_eq, p1, p2, true_and, if_true]
      rw [show (((36 : UInt8).toNat : Nat) : Int) = 36 from rfl, show (((37 : UInt8).toNat : Nat) : Int) = 37 from rfl]
      rw [e1, e2, e3]
      simp only [Option.bind_some]
      by_cases c1 : bt s 0 = 36
      · rw [if_pos c1, if_pos c1]
        exact fin v1 _ u1
      · rw [if_neg c1, if_neg c1]
        by_cases c2 : bt s 0 = 37
        · rw [if_pos c2, if_pos c2]
          exact fin v2 _ u2
        · rw [if_neg c2, if_neg c2]
          exact fin v3 _ u3

theorem spec_HexOf_l0 (d : Nat) (hd : d ≤ 4) : ∀ (m k i a : Nat) (s : List UInt8), i + m = d → m < k → a < 65536 → s.length + m ≤ 4 → spec_HexOf.l0 k (a : Int) (d : Int) ⟨s.toArray⟩ (i : Int) = some (if a / 16 ^ m = 0 then ⟨(36 :: (hexFix m a ++ s)).toArray⟩ else ⟨#[]⟩) := by
  intro m
  induction m with
  | zero =>
    intro k i a s hi hk ha hs
    obtain ⟨k, rfl⟩ : ∃ q, k = q + 1 := ⟨k - 1, by omega⟩
    simp only [spec_HexOf.l0]
    rw [if_neg (by omega)]
    by_cases h : a = 0
    · subst h
      rw [if_neg (by omega), if_pos (by rw [bytes_size]; omega), if_pos (by simp), show (⟨#[36]⟩ : ByteArray) = ⟨[36].toArray⟩ from rfl, bytes_append]
      rfl
    · rw [if_pos (by omega), if_neg (by simp; exact h)]
  | succ m ih =>
    intro k i a s hi hk ha hs
    obtain ⟨k, rfl⟩ : ∃ q, k = q + 1 := ⟨k - 1, by omega⟩
    simp only [spec_HexOf.l0]
    have e1 : Int.tmod (a : Int) 16 = ((a % 16 : Nat) : Int) := by
      rw [Int.tmod_eq_emod_of_nonneg (by omega)]; omega
    have e2 : wrap64 (Int.tdiv (a : Int) 16) = ((a / 16 : Nat) : Int) := by
      rw [Int.tdiv_eq_ediv_of_nonneg (by omega), w64 (by omega) (by omega)]; omega
    have e3 : wrap64 (((a % 16 : Nat) : Int) + 1) = ((a % 16 + 1 : Nat) : Int) := by
      rw [w64 (by omega) (by omega)]; omega
    have e4 : wrap64 ((i : Int) + 1) = ((i + 1 : Nat) : Int) := by
      rw [w64 (by omega) (by omega)]; omega
    simp only [e1, e2, e3, e4, Int.toNat_natCast]
    rw [if_pos (by omega), if_pos (by omega), if_pos (by omega), if_pos (by omega), digit_cut (a % 16) (by omega), if_pos (by rw [bytes_size, bytes_size]; simp; omega), bytes_append, ih k (i + 1) (a / 16) _ (by omega) (by omega) (by omega) (by simp; omega)]
    rw [Nat.pow_succ, Nat.mul_comm, ← Nat.div_div_eq_div_mul]
    simp [hexFix]
theorem spec_HexOf_eq (n d : Int) {k : Nat} (hk : 10 ≤ k) : spec_HexOf.f k n d = some (if inR d 1 4 = true then (if inR n 0 65535 = true then hexText d.toNat n.toNat else ⟨#[]⟩) else ⟨#[]⟩) := by
  obtain ⟨k, rfl⟩ : ∃ q, k = q + 1 := ⟨k - 1, by omega⟩
  unfold spec_HexOf.f
  simp only [spec_l1In_eq, Option.bind_some]
  by_cases h1 : inR d 1 4 = true
  · by_cases h2 : inR n 0 65535 = true
    · simp only [h1, h2, if_true, spec_HexOf.j0, Bool.not_true, Bool.false_eq_true, if_false]
      rw [inR_iff] at h1 h2
      obtain ⟨a, rfl⟩ : ∃ a : Nat, n = (a : Int) := ⟨n.toNat, by omega⟩
      obtain ⟨e, rfl⟩ : ∃ e : Nat, d = (e : Int) := ⟨d.toNat, by omega⟩
      have := spec_HexOf_l0 e (by omega) e k 0 a [] (by omega) (by omega) (by omega) (by simp; omega)
      rw [show ((0 : Nat) : Int) = 0 from rfl, show (⟨([] : List UInt8).toArray⟩ : ByteArray) = ⟨#[]⟩ from rfl, List.append_nil] at this
      rw [this]
      rfl
    · rw [Bool.not_eq_true] at h2
      simp only [h1, h2, if_true, spec_HexOf.j0, Bool.not_false, Bool.false_eq_true, if_false]
  · rw [Bool.not_eq_true] at h1
    simp only [h1, spec_HexOf.j0, Bool.false_eq_true, if_false, if_true]

theorem impl_hexDigits_eq (n d : Nat) (hn : n < 65536) (hd0 : 1 ≤ d) (hd : d ≤ 4) (hz : n / 16 ^ d = 0) : impl_hexDigits.f (n : Int) (d : Int) = some ⟨(hexFix d n).toArray⟩ := by
  unfold impl_hexDigits.f strconv_FormatInt.f
  rw [if_neg (by decide), if_pos rfl, if_pos (by omega), if_pos (by omega)]
  simp only [Option.bind_some, Int.toNat_natCast]
  have hl := hexLow_len n
  unfold strings_ToUpper.f
  rw [if_pos (by rw [bytes_size]; omega), if_pos (by rw [List.all_eq_true]; intro b hb; exact decide_eq_true (hexLow_small n hn b (by simpa using hb)))]
  simp only [Option.bind_some]
  have hsz : (⟨(Go.Lib.toUpperA (hexLow n).toArray.toList).toArray⟩ : ByteArray).size = (hexLow n).length := by rw [bytes_size]; simp [Go.Lib.toUpperA]
  rw [hsz]
  have hm : mx 0 (wrap64 ((d : Int) - ((hexLow n).length : Int))) = ((d - (hexLow n).length : Nat) : Int) := by
    rw [w64 (by omega) (by omega)]
    unfold mx
    split <;> omega
  rw [hm]
  unfold strings_Repeat.f
  rw [if_pos (by omega), if_pos (by omega), if_pos (by rw [show (⟨#[48]⟩ : ByteArray).size = 1 from rfl]; omega)]
  simp only [Option.bind_some, Int.toNat_natCast]
  have hr : (⟨(Go.Lib.repeatL (⟨#[48]⟩ : ByteArray).data.toList (d - (hexLow n).length)).toArray⟩ : ByteArray).size = d - (hexLow n).length := by
    rw [bytes_size, Go.Lib.repeatL_length]; simp
  rw [hr, if_pos (by omega), bytes_append]
  have := hexPad d n hd0 hd hz hn
  rw [← this]
  simp [Go.Lib.toUpperA]
theorem shr_hex (n d : Nat) (hd : d ≤ 4) : shr .i64 (n : Int) (4 * (d : Int)) = ((n / 16 ^ d : Nat) : Int) := by
  unfold shr
  have e : min (4 * (d : Int)).toNat IntKind.i64.bits = 4 * d := by
    rw [show (4 * (d : Int)).toNat = 4 * d by omega]
    exact Nat.min_eq_left (by show 4 * d ≤ 64; omega)
  have hp : (2 : Int) ^ (4 * d) = ((16 ^ d : Nat) : Int) := by
    have h4 : d = 0 ∨ d = 1 ∨ d = 2 ∨ d = 3 ∨ d = 4 := by omega
    rcases h4 with rfl | rfl | rfl | rfl | rfl <;> rfl
  rw [e, hp]
  rfl

theorem impl_HexOf_eq (n d : Int) : impl_HexOf.f n d = some (if inR d 1 4 = true then (if inR n 0 65535 = true then hexText d.toNat n.toNat else ⟨#[]⟩) else ⟨#[]⟩) := by
  unfold impl_HexOf.f
  simp only [impl_within_eq, impl_isWord_eq, Option.bind_some]
  by_cases h1 : inR d 1 4 = true
  · by_cases h2 : inR n 0 65535 = true
    · simp only [h1, h2, if_true]
      rw [inR_iff] at h1 h2
      obtain ⟨a, rfl⟩ : ∃ a : Nat, n = (a : Int) := ⟨n.toNat, by omega⟩
      obtain ⟨e, rfl⟩ : ∃ e : Nat, d = (e : Int) := ⟨d.toNat, by omega⟩
      rw [w64 (by omega) (by omega), if_pos (by omega), shr_hex a e (by omega)]
      unfold hexText
      simp only [Int.toNat_natCast]
      by_cases hz : a / 16 ^ e = 0
      · rw [hz, if_neg (by decide), impl_hexDigits_eq a e (by omega) (by omega) (by omega) hz, if_pos rfl]
        simp only [Option.bind_some]
        rw [if_pos (by rw [bytes_size, hexFix_len]; omega), show (⟨#[36]⟩ : ByteArray) = ⟨[36].toArray⟩ from rfl, bytes_append]
        rfl
      · rw [if_pos (show ((a / 16 ^ e : Nat) : Int) > 0 from Int.natCast_pos.2 (Nat.pos_of_ne_zero hz)), if_neg hz]
    · rw [Bool.not_eq_true] at h2
      simp only [h1, h2, if_true, Bool.false_eq_true, if_false]
  · rw [Bool.not_eq_true] at h1
    simp only [h1, Bool.false_eq_true, if_false]

theorem ext_data (t : ByteArray) (i n : Nat) (h : i + n ≤ t.size) : (t.extract i (i + n)).data.toList = (t.data.toList.drop i).take n := by
  simp [ByteArray.data_extract, Array.toList_extract, List.extract]
theorem ext_occ (t p : ByteArray) (i : Nat) (h : i + p.size ≤ t.size) : ((t.extract i (i + p.size)).toList = p.toList) ↔ Go.Lib.occAt t.data.toList p.data.toList i = true := by
  have e := ext_data t i p.size h
  have hl : p.data.toList.length = p.size := by rw [Array.length_toList]; rfl
  unfold Go.Lib.occAt
  rw [List.isPrefixOf_iff_prefix, List.prefix_iff_eq_take, hl, ← e]
  constructor
  · intro hh
    rw [toList_inj hh]
  · intro hh
    have : p = t.extract i (i + p.size) := ByteArray.ext (Array.toList_inj.1 hh)
    rw [← this]
theorem spec_l3Hole_l1 (t : ByteArray) (hs : List ByteArray) (q : Nat) (hq : q < hs.length) (hql : hs.length ≤ 10) (p : ByteArray) (hp : rdOf ByteArray.empty hs (q : Int) = p) (hp0 : 1 ≤ p.size) (hp1 : p.size ≤ 10) (ht : t.size ≤ 1000) (K : Nat) (r : Int × ByteArray)
    (hr : ∀ k, K ≤ k → spec_l3Hole.l0 k t hs ((q + 1 : Nat) : Int) = some r) :
    ∀ (m k i : Nat), i + m = t.size + 1 → K + m + 2 ≤ k → Go.Lib.NoOcc t.data.toList p.data.toList i → spec_l3Hole.l1 k t hs (q : Int) (i : Int) = some (if 0 ≤ Go.Lib.index t.data.toList p.data.toList then (Go.Lib.index t.data.toList p.data.toList, p) else r) := by
  have hlt : t.data.toList.length = t.size := by rw [Array.length_toList]; rfl
  have hlp : p.data.toList.length = p.size := by rw [Array.length_toList]; rfl
  have hpn : p.data.toList ≠ [] := by intro h; rw [h] at hlp; simp at hlp; omega
  have hup : wrap64 ((q : Int) + 1) = ((q + 1 : Nat) : Int) := by rw [w64 (by omega) (by omega)]; omega
  intro m
  induction m with
  | zero =>
    intro k i hi hk hno
    obtain ⟨k, rfl⟩ : ∃ z, k = z + 1 := ⟨k - 1, by omega⟩
    rw [spec_l3Hole.l1]
    rw [if_pos (by omega), if_pos (by omega), hp, w64 (by omega) (by omega), if_neg (by omega), hup, hr k (by omega)]
    have := Go.Lib.index_past hpn hno (by omega)
    rw [this]
    rfl
  | succ m ih =>
    intro k i hi hk hno
    obtain ⟨k, rfl⟩ : ∃ z, k = z + 1 := ⟨k - 1, by omega⟩
    rw [spec_l3Hole.l1]
    rw [if_pos (by omega), if_pos (by omega), hp, w64 (by omega) (by omega)]
    by_cases hfit : i + p.size ≤ t.size
    · rw [if_pos (by omega), if_pos (by omega), if_pos (by omega), show ((i : Int) + (p.size : Int)).toNat = i + p.size by omega, Int.toNat_natCast]
      by_cases ho : Go.Lib.occAt t.data.toList p.data.toList i = true
      · rw [if_pos ((ext_occ t p i hfit).2 ho)]
        have hx := Go.Lib.index_hit hno (by omega) ho
        rw [hx, if_pos (by omega)]
      · rw [if_neg (fun h => ho ((ext_occ t p i hfit).1 h))]
        have hui : wrap64 ((i : Int) + 1) = ((i + 1 : Nat) : Int) := by rw [w64 (by omega) (by omega)]; omega
        rw [hui]
        exact ih k (i + 1) (by omega) (by omega) (hno.succ (by simpa using ho))
    · rw [if_neg (by omega), hup, hr k (by omega)]
      have := Go.Lib.index_past hpn hno (by omega)
      rw [this]
      rfl
def pN16 : ByteArray := ⟨#[110, 49, 54]⟩
def pN8 : ByteArray := ⟨#[110, 56]⟩
def pE8 : ByteArray := ⟨#[101, 56]⟩
/-- The hole of a text: where, and which. -/
def holeAt (t : ByteArray) : Int × ByteArray :=
  if 0 ≤ Go.Lib.index t.data.toList pN16.data.toList then (Go.Lib.index t.data.toList pN16.data.toList, pN16)
  else if 0 ≤ Go.Lib.index t.data.toList pN8.data.toList then (Go.Lib.index t.data.toList pN8.data.toList, pN8)
  else if 0 ≤ Go.Lib.index t.data.toList pE8.data.toList then (Go.Lib.index t.data.toList pE8.data.toList, pE8)
  else (-1, ⟨#[]⟩)
theorem spec_l3Hole_eq (t : ByteArray) (ht : t.size ≤ 1000) {k : Nat} (hk : 5000 ≤ k) : spec_l3Hole.f k t = some (holeAt t) := by
  unfold spec_l3Hole.f
  have h3 : ∀ k, 1 ≤ k → spec_l3Hole.l0 k t [pN16, pN8, pE8] ((3 : Nat) : Int) = some (-1, ⟨#[]⟩) := by
    intro k hk
    obtain ⟨k, rfl⟩ : ∃ z, k = z + 1 := ⟨k - 1, by omega⟩
    rw [spec_l3Hole.l0, if_neg (by decide)]
  have step : ∀ (q : Nat) (p : ByteArray) (K : Nat) (r : Int × ByteArray), q < 3 → rdOf ByteArray.empty [pN16, pN8, pE8] (q : Int) = p → 1 ≤ p.size → p.size ≤ 10 → (∀ k, K ≤ k → spec_l3Hole.l0 k t [pN16, pN8, pE8] ((q + 1 : Nat) : Int) = some r) →
      ∀ k, K + t.size + 4 ≤ k → spec_l3Hole.l0 k t [pN16, pN8, pE8] (q : Int) = some (if 0 ≤ Go.Lib.index t.data.toList p.data.toList then (Go.Lib.index t.data.toList p.data.toList, p) else r) := by
    intro q p K r hq hp h0 h1 hr k hk
    obtain ⟨k, rfl⟩ : ∃ z, k = z + 1 := ⟨k - 1, by omega⟩
    rw [spec_l3Hole.l0, if_pos (by simp only [List.length_cons, List.length_nil]; omega)]
    exact spec_l3Hole_l1 t _ q (by simpa using hq) (by decide) p hp h0 h1 ht K r hr (t.size + 1) k 0 (by omega) (by omega) (Go.Lib.NoOcc.zero _ _)
  have s2 := step 2 pE8 1 _ (by decide) rfl (by decide) (by decide) h3
  have s1 := step 1 pN8 _ _ (by decide) rfl (by decide) (by decide) s2
  have s0 := step 0 pN16 _ _ (by decide) rfl (by decide) (by decide) s1
  exact s0 k (by omega)
theorem names_holes : impl_names.f (⟨#[110, 49, 54, 32, 110, 56, 32, 101, 56]⟩ : ByteArray) = some [pN16, pN8, pE8] := by kernel_rfl
theorem impl_holeOf_eq (t : ByteArray) (ht : t.size ≤ 1000) {k : Nat} (hk : 10 ≤ k) : impl_holeOf.f k t = some (holeAt t).2 := by
  obtain ⟨k, rfl⟩ : ∃ z, k = z + 4 := ⟨k - 4, by omega⟩
  unfold impl_holeOf.f
  rw [names_holes]
  simp only [Option.bind_some]
  have hc : ∀ p : ByteArray, strings_Contains.f t p = some (decide (0 ≤ Go.Lib.index t.data.toList p.data.toList)) := by
    intro p
    unfold strings_Contains.f
    rw [if_pos (by omega)]
    rfl
  unfold holeAt
  rw [impl_holeOf.l0, if_pos (by decide), if_pos (by decide), if_pos (by decide), show rdOf ByteArray.empty [pN16, pN8, pE8] 0 = pN16 from rfl, hc]
  simp only [Option.bind_some, decide_eq_true_eq]
  by_cases c0 : 0 ≤ Go.Lib.index t.data.toList pN16.data.toList
  · rw [if_pos c0, if_pos c0]
  · rw [if_neg c0, if_neg c0, show wrap64 (0 + 1) = 1 from by unfold wrap64; decide, impl_holeOf.l0, if_pos (by decide), if_pos (by decide), if_pos (by decide), show rdOf ByteArray.empty [pN16, pN8, pE8] 1 = pN8 from rfl, hc]
    simp only [Option.bind_some, decide_eq_true_eq]
    by_cases c1 : 0 ≤ Go.Lib.index t.data.toList pN8.data.toList
    · rw [if_pos c1, if_pos c1]
    · rw [if_neg c1, if_neg c1, show wrap64 (1 + 1) = 2 from by unfold wrap64; decide, impl_holeOf.l0, if_pos (by decide), if_pos (by decide), if_pos (by decide), show rdOf ByteArray.empty [pN16, pN8, pE8] 2 = pE8 from rfl, hc]
      simp only [Option.bind_some, decide_eq_true_eq]
      by_cases c2 : 0 ≤ Go.Lib.index t.data.toList pE8.data.toList
      · rw [if_pos c2, if_pos c2]
      · rw [if_neg c2, if_neg c2, show wrap64 (2 + 1) = 3 from by unfold wrap64; decide, impl_holeOf.l0, if_neg (by decide)]
theorem holeAt_kind (t : ByteArray) : (holeAt t).2 = pN16 ∨ (holeAt t).2 = pN8 ∨ (holeAt t).2 = pE8 ∨ (holeAt t).2 = ⟨#[]⟩ := by
  unfold holeAt
  split
  · exact .inl rfl
  · split
    · exact .inr (.inl rfl)
    · split
      · exact .inr (.inr (.inl rfl))
      · exact .inr (.inr (.inr rfl))

def lenT (t : ByteArray) (cb : Bool) : Int := if t.size = 0 then 0 else if cb = true then 2 else if (holeAt t).2 = ⟨#[]⟩ then 1 else if (holeAt t).2 = pN16 then 3 else 2
def lenOf (c : Int) (cb : Bool) : Int := if 0 ≤ c ∧ c < 256 then lenT (tmplT c.toNat cb) cb else 0
theorem tmplT_size : ∀ n : Nat, n < 256 → ∀ cb : Bool, (tmplT n cb).size ≤ 100 := by decide +kernel
theorem bytes_toList (l : List UInt8) : (⟨l.toArray⟩ : ByteArray).toList = l := by rw [ByteArray.toList_eq]
theorem list_of (s : ByteArray) (l : List UInt8) : s.toList = l ↔ s = ⟨l.toArray⟩ := by
  constructor
  · intro h
    apply toList_inj
    rw [h, bytes_toList]
  · intro h
    rw [h, bytes_toList]
theorem spec_l3Length_eq (c : Int) (cb : Bool) (h : 0 ≤ c ∧ c < 256) {k : Nat} (hk : 5000 ≤ k) : spec_l3Length.f k c cb = some (lenT (tmplT c.toNat cb) cb) := by
  unfold spec_l3Length.f spec_l3Template.f
  rw [if_pos h]
  simp only [Option.bind_some]
  have hs := tmplT_size c.toNat (by omega) cb
  generalize tmplT c.toNat cb = t at hs
  unfold lenT
  by_cases h0 : t.size = 0
  · rw [if_pos h0, if_pos (size_zero.2 h0)]
  · rw [if_neg h0, if_neg (fun h => h0 (size_zero.1 h))]
    by_cases hc : cb = true
    · rw [if_pos hc, if_pos hc]
    · rw [if_neg hc, if_neg hc, spec_l3Hole_eq t (by omega) hk]
      simp only [Option.bind_some]
      have e1 : ((holeAt t).2.toList = ([] : List UInt8)) ↔ (holeAt t).2 = ⟨#[]⟩ := list_of _ _
      have e2 : ((holeAt t).2.toList = ([110, 49, 54] : List UInt8)) ↔ (holeAt t).2 = pN16 := list_of _ _
      by_cases x1 : (holeAt t).2 = ⟨#[]⟩
      · rw [if_pos x1, if_pos (e1.2 x1)]
      · rw [if_neg x1, if_neg (fun h => x1 (e1.1 h))]
        by_cases x2 : (holeAt t).2 = pN16
        · rw [if_pos x2, if_pos (e2.2 x2)]
        · rw [if_neg x2, if_neg (fun h => x2 (e2.1 h))]

theorem spec_LengthOf_eq (c : Int) (cb : Bool) {k : Nat} (hk : 5000 ≤ k) : spec_LengthOf.f k c cb = some (lenOf c cb) := by
  unfold spec_LengthOf.f lenOf
  rw [spec_l1In_eq]
  simp only [Option.bind_some]
  by_cases h : 0 ≤ c ∧ c < 256
  · rw [if_pos h, if_pos (inR_pos h.1 (by omega)), spec_l3Length_eq c cb h hk]
    rfl
  · rw [if_neg h, if_neg (by rw [inR_iff]; omega)]

def insOkT (t : ByteArray) (m : Int) : Bool := if t.size = 0 then false else if (holeAt t).2 = ⟨#[]⟩ then m == 0 else if (holeAt t).2 = pN16 then inR m 0 65535 else inR m 0 255
def insOkP (c : Int) (cb : Bool) (m : Int) : Bool := if 0 ≤ c ∧ c < 256 then insOkT (tmplT c.toNat cb) m else false
theorem lenT_zero (t : ByteArray) (cb : Bool) : lenT t cb = 0 ↔ t.size = 0 := by
  unfold lenT
  by_cases h : t.size = 0
  · rw [if_pos h]; exact ⟨fun _ => h, fun _ => rfl⟩
  · rw [if_neg h]
    refine ⟨fun h' => ?_, fun h' => absurd h' h⟩
    split at h'
    · cases h'
    · split at h'
      · cases h'
      · split at h' <;> cases h'
theorem spec_InsOk_eq (c : Int) (cb : Bool) (m : Int) {k : Nat} (hk : 5000 ≤ k) : spec_InsOk.f k c cb m = some (insOkP c cb m) := by
  unfold spec_InsOk.f insOkP
  rw [spec_LengthOf_eq c cb hk]
  simp only [Option.bind_some]
  unfold lenOf
  by_cases h : 0 ≤ c ∧ c < 256
  · rw [if_pos h, if_pos h]
    have hs := tmplT_size c.toNat (by omega) cb
    have hT : spec_l3Template.f c cb = some (tmplT c.toNat cb) := by unfold spec_l3Template.f; rw [if_pos h]
    rw [hT]
    generalize tmplT c.toNat cb = t at hs
    unfold insOkT
    by_cases h0 : t.size = 0
    · rw [if_pos ((lenT_zero t cb).2 h0), if_pos h0]
    · rw [if_neg (fun h' => h0 ((lenT_zero t cb).1 h')), if_neg h0]
      simp only [Option.bind_some]
      rw [spec_l3Hole_eq t (by omega) hk]
      simp only [Option.bind_some, spec_l1In_eq]
      have e1 : ((holeAt t).2.toList = ([110, 56] : List UInt8)) ↔ (holeAt t).2 = pN8 := list_of _ _
      have e2 : ((holeAt t).2.toList = ([110, 49, 54] : List UInt8)) ↔ (holeAt t).2 = pN16 := list_of _ _
      have e3 : ((holeAt t).2.toList = ([101, 56] : List UInt8)) ↔ (holeAt t).2 = pE8 := list_of _ _
      rcases holeAt_kind t with hp | hp | hp | hp
      · rw [if_pos (e2.2 hp), hp, if_neg (by decide), if_pos rfl]
      · rw [if_neg (fun h => absurd (hp.symm.trans (e2.1 h)) (by decide)), if_pos (e1.2 hp), hp, if_neg (by decide), if_neg (by decide)]
      · rw [if_neg (fun h => absurd (hp.symm.trans (e2.1 h)) (by decide)), if_neg (fun h => absurd (hp.symm.trans (e1.1 h)) (by decide)), if_pos (e3.2 hp), hp, if_neg (by decide), if_neg (by decide)]
      · rw [if_neg (fun h => absurd (hp.symm.trans (e2.1 h)) (by decide)), if_neg (fun h => absurd (hp.symm.trans (e1.1 h)) (by decide)), if_neg (fun h => absurd (hp.symm.trans (e3.1 h)) (by decide)), hp, if_pos rfl]
  · rw [if_neg h, if_neg h, if_pos rfl]
theorem impl_isByte_eq' (a : Int) : impl_isByte.f a = some (inR a 0 255) := by
  unfold impl_isByte.f
  rw [impl_within_eq]
  rfl
theorem impl_InsOk_eq (c : Int) (cb : Bool) (m : Int) {k : Nat} (hk : 10 ≤ k) : impl_InsOk.f k c cb m = some (insOkP c cb m) := by
  unfold impl_InsOk.f impl_TemplateOf.f insOkP
  simp only [Option.bind_some]
  by_cases h : 0 ≤ c ∧ c < 256
  · rw [if_pos h, if_pos h]
    have hs := tmplT_size c.toNat (by omega) cb
    generalize tmplT c.toNat cb = t at hs
    unfold insOkT
    by_cases h0 : t.size = 0
    · rw [if_pos (size_zero.2 h0), if_pos h0]
    · rw [if_neg (fun h => h0 (size_zero.1 h)), if_neg h0, impl_holeOf_eq t (by omega) hk]
      simp only [Option.bind_some, impl_isWord_eq, impl_isByte_eq']
      have e0 : ((holeAt t).2.toList = ([] : List UInt8)) ↔ (holeAt t).2 = ⟨#[]⟩ := list_of _ _
      have e2 : ((holeAt t).2.toList = ([110, 49, 54] : List UInt8)) ↔ (holeAt t).2 = pN16 := list_of _ _
      by_cases x1 : (holeAt t).2 = ⟨#[]⟩
      · rw [if_pos x1, if_pos (e0.2 x1)]
      · rw [if_neg x1, if_neg (fun h => x1 (e0.1 h))]
        by_cases x2 : (holeAt t).2 = pN16
        · rw [if_pos x2, if_pos (e2.2 x2)]
        · rw [if_neg x2, if_neg (fun h => x2 (e2.1 h))]
  · rw [if_neg h, if_neg h, if_pos (size_zero.2 rfl)]

theorem dig_nums {x : Nat} (h : x < 10) : strOfNums [(wrap64 (48 + (x : Int))) % 256] = ⟨[UInt8.ofNat (48 + x)].toArray⟩ := by
  unfold strOfNums
  rw [w64 (by omega) (by omega)]
  simp only [List.map_cons, List.map_nil]
  rw [show ((48 + (x : Int)) % 256).toNat = 48 + x by omega]
theorem dec_l0 : ∀ (m k x : Nat) (s : List UInt8), x < 10 ^ (m + 1) → m < k → m ≤ 4 → s.length + m ≤ 1000 → spec_l1Dec.l0 k (x : Int) ⟨s.toArray⟩ = some ⟨(Go.Lib.decDigits x ++ s).toArray⟩ := by
  have small : ∀ (k x : Nat) (s : List UInt8), x < 10 → 0 < k → s.length ≤ 1000 → spec_l1Dec.l0 k (x : Int) ⟨s.toArray⟩ = some ⟨(Go.Lib.decDigits x ++ s).toArray⟩ := by
    intro k x s hx hk hs
    obtain ⟨k, rfl⟩ : ∃ z, k = z + 1 := ⟨k - 1, by omega⟩
    rw [spec_l1Dec.l0, if_neg (by omega)]
    simp only [Option.bind_some]
    rw [dig_nums hx, if_pos (by rw [bytes_size, bytes_size]; simp; omega), bytes_append, Go.Lib.decDigits, dif_pos hx]
  intro m
  induction m with
  | zero => intro k x s hx hk _ hs; exact small k x s (by simpa using hx) hk (by omega)
  | succ m ih =>
    intro k x s hx hk hm hs
    by_cases h10 : x < 10
    · exact small k x s h10 (by omega) (by omega)
    · obtain ⟨k, rfl⟩ : ∃ z, k = z + 1 := ⟨k - 1, by omega⟩
      have hbig : x < 100000 := by
        have h4 : m = 0 ∨ m = 1 ∨ m = 2 ∨ m = 3 := by omega
        have : 10 ^ (m + 1 + 1) ≤ 100000 := by rcases h4 with rfl | rfl | rfl | rfl <;> decide
        omega
      have hd : x / 10 < 10 ^ (m + 1) := by
        rw [Nat.pow_succ, Nat.mul_comm] at hx
        exact Nat.div_lt_of_lt_mul hx
      rw [spec_l1Dec.l0, if_pos (by omega)]
      simp only [Option.bind_some]
      have e1 : Int.tmod (x : Int) 10 = ((x % 10 : Nat) : Int) := by rw [Int.tmod_eq_emod_of_nonneg (by omega)]; omega
      have e2 : wrap64 (Int.tdiv (x : Int) 10) = ((x / 10 : Nat) : Int) := by rw [Int.tdiv_eq_ediv_of_nonneg (by omega), w64 (by omega) (by omega)]; omega
      rw [e1, e2, dig_nums (by omega), if_pos (by rw [bytes_size, bytes_size]; simp; omega), bytes_append, ih k (x / 10) _ hd (by omega) (by omega) (by simp; omega)]
      conv => rhs; rw [Go.Lib.decDigits, dif_neg h10]
      simp
theorem spec_l1Dec_eq (n : Int) (h : -1000 < n ∧ n < 1000) {k : Nat} (hk : 20 ≤ k) : spec_l1Dec.f k n = some ⟨(Go.Lib.itoa n).toArray⟩ := by
  obtain ⟨k, rfl⟩ : ∃ z, k = z + 2 := ⟨k - 2, by omega⟩
  have pos : ∀ (k x : Nat), x < 1000 → 10 ≤ k → spec_l1Dec.f (k + 1) (x : Int) = some ⟨(Go.Lib.decDigits x).toArray⟩ := by
    intro k x hx hk
    rw [spec_l1Dec.f, if_neg (by omega)]
    have := dec_l0 2 k x [] (by omega) (by omega) (by decide) (by simp)
    rw [List.append_nil] at this
    exact this
  unfold Go.Lib.itoa
  by_cases h0 : n < 0
  · rw [if_pos h0, spec_l1Dec.f, if_pos h0, w64 (by omega) (by omega)]
    have hn : -n = ((n.natAbs : Nat) : Int) := by omega
    rw [hn, pos k n.natAbs (by omega) (by omega)]
    simp only [Option.bind_some]
    have hsz : (⟨(Go.Lib.decDigits n.natAbs).toArray⟩ : ByteArray).size ≤ 1000 := by
      have h1 : n.natAbs < 1000 := by omega
      have : ∀ x, x < 1000 → (Go.Lib.decDigits x).length ≤ 3 := by
        intro x hx
        rw [Go.Lib.decDigits]
        split
        · simp
        · rw [Go.Lib.decDigits]
          split
          · simp
          · rw [Go.Lib.decDigits, dif_pos (by omega)]
            simp
      rw [bytes_size]
      have := this _ h1
      omega
    rw [if_pos (by omega), show (⟨#[45]⟩ : ByteArray) = ⟨[45].toArray⟩ from rfl, bytes_append]
    rfl
  · rw [if_neg h0]
    obtain ⟨x, rfl⟩ : ∃ x : Nat, n = (x : Int) := ⟨n.toNat, by omega⟩
    rw [Int.toNat_natCast]
    exact pos (k + 1) x (by omega) (by omega)
theorem rep_one (T old new : List UInt8) (i : Nat) (hold : old ≠ []) (h : Go.Lib.index T old = i) : Go.Lib.replace T old new 1 = T.take i ++ new ++ T.drop (i + old.length) := by
  unfold Go.Lib.replace
  by_cases he : (old == new) = true
  · rw [if_pos he]
    have he' : old = new := beq_iff_eq.1 he
    rw [← he']
    rcases Go.Lib.index_spec T old with ⟨h1, _⟩ | ⟨j, h1, h2, h3, _⟩
    · omega
    · obtain rfl : j = i := by omega
      unfold Go.Lib.occAt at h3
      rw [List.isPrefixOf_iff_prefix] at h3
      obtain ⟨r, hr⟩ := h3
      have hd : T.drop (j + old.length) = r := by
        rw [← List.drop_drop, ← hr]
        simp
      rw [hd, List.append_assoc, hr, List.take_append_drop]
  · rw [if_neg he]
    have hc := Go.Lib.count_hit hold h
    have hn : Go.Lib.replaceNum T old 1 = 0 + 1 := by
      unfold Go.Lib.replaceNum
      rw [if_neg (by omega)]
      rfl
    rw [hn, Go.Lib.replaceK_hit old new 0 T i h]
    rfl
theorem ext_from (t : ByteArray) (i : Nat) : (t.extract i t.size).data.toList = t.data.toList.drop i := by
  have hlt : t.data.toList.length = t.size := by rw [Array.length_toList]; rfl
  simp [ByteArray.data_extract, Array.toList_extract, List.extract]
  exact List.take_of_length_le (by rw [List.length_drop]; omega)
theorem cut_fill (t p f : ByteArray) (i : Nat) (hp : 1 ≤ p.size) (h : Go.Lib.index t.data.toList p.data.toList = i) : (t.extract 0 i ++ f) ++ t.extract (i + p.size) t.size = ⟨(Go.Lib.replace t.data.toList p.data.toList f.data.toList 1).toArray⟩ := by
  have hlt : t.data.toList.length = t.size := by rw [Array.length_toList]; rfl
  have hlp : p.data.toList.length = p.size := by rw [Array.length_toList]; rfl
  have hroom := Go.Lib.index_room t.data.toList p.data.toList (by omega)
  have hold : p.data.toList ≠ [] := by intro e; rw [e] at hlp; simp at hlp; omega
  rw [rep_one _ _ _ i hold h, hlp]
  apply ByteArray.ext
  apply Array.toList_inj.1
  have e1 : (t.extract 0 i).data.toList = t.data.toList.take i := by simp
  rw [ByteArray.data_append, ByteArray.data_append, Array.toList_append, Array.toList_append, e1, ext_from]
/-- What stands in the place of a hole. -/
def fillT (p : ByteArray) (m : Int) : ByteArray := if p = pN8 then hexText 2 m.toNat else if p = pN16 then hexText 4 m.toNat else ⟨(Go.Lib.itoa (sgn m)).toArray⟩
def insTextP (c : Int) (cb : Bool) (m : Int) : ByteArray :=
  if insOkP c cb m = true then (let t := tmplT c.toNat cb; if (holeAt t).2 = ⟨#[]⟩ then t else ⟨(Go.Lib.replace t.data.toList (holeAt t).2.data.toList (fillT (holeAt t).2 m).data.toList 1).toArray⟩) else ⟨#[]⟩
theorem fillT_size (p : ByteArray) (m : Int) (hm : 0 ≤ m ∧ m ≤ 65535) (h2 : p ≠ pN16 → m ≤ 255) : (fillT p m).size ≤ 100 := by
  unfold fillT
  have hh : ∀ d n, d ≤ 4 → (hexText d n).size ≤ 100 := by
    intro d n hd
    unfold hexText
    split
    · rw [bytes_size, List.length_cons, hexFix_len]; omega
    · decide
  split
  · exact hh _ _ (by decide)
  · split
    · exact hh _ _ (by decide)
    · have h255 := h2 (by assumption)
      have hs : -1000 < sgn m ∧ sgn m < 1000 := by unfold sgn; split <;> (try split) <;> omega
      have h3 : ∀ x, x < 1000 → (Go.Lib.decDigits x).length ≤ 3 := by
        intro x hx
        rw [Go.Lib.decDigits]
        split
        · simp
        · rw [Go.Lib.decDigits]
          split
          · simp
          · rw [Go.Lib.decDigits, dif_pos (by omega)]
            simp
      rw [bytes_size]
      unfold Go.Lib.itoa
      split
      · have := h3 (sgn m).natAbs (by omega)
        simp only [List.length_cons]
        omega
      · have := h3 (sgn m).toNat (by omega)
        omega
theorem holeAt_at (t : ByteArray) (h : (holeAt t).2 ≠ ⟨#[]⟩) : (holeAt t).1 = Go.Lib.index t.data.toList (holeAt t).2.data.toList ∧ 0 ≤ (holeAt t).1 := by
  unfold holeAt at h ⊢
  by_cases c0 : 0 ≤ Go.Lib.index t.data.toList pN16.data.toList
  · rw [if_pos c0]; exact ⟨rfl, c0⟩
  · by_cases c1 : 0 ≤ Go.Lib.index t.data.toList pN8.data.toList
    · rw [if_neg c0, if_pos c1]; exact ⟨rfl, c1⟩
    · by_cases c2 : 0 ≤ Go.Lib.index t.data.toList pE8.data.toList
      · rw [if_neg c0, if_neg c1, if_pos c2]; exact ⟨rfl, c2⟩
      · rw [if_neg c0, if_neg c1, if_neg c2] at h
        exact absurd rfl h
theorem insOkP_in' {c : Int} {cb : Bool} {m : Int} (h : insOkP c cb m = true) : (0 ≤ c ∧ c < 256) ∧ (tmplT c.toNat cb).size ≠ 0 := by
  unfold insOkP at h
  by_cases hc : 0 ≤ c ∧ c < 256
  · rw [if_pos hc] at h
    refine ⟨hc, fun h0 => ?_⟩
    unfold insOkT at h
    rw [if_pos h0] at h
    cases h
  · rw [if_neg hc] at h
    cases h
theorem insOk_m {c : Int} {cb : Bool} {m : Int} (h : insOkP c cb m = true) (hh : (holeAt (tmplT c.toNat cb)).2 ≠ ⟨#[]⟩) : (0 ≤ m ∧ m ≤ 65535) ∧ ((holeAt (tmplT c.toNat cb)).2 ≠ pN16 → m ≤ 255) := by
  have hin := insOkP_in' h
  unfold insOkP at h
  rw [if_pos hin.1] at h
  unfold insOkT at h
  rw [if_neg hin.2, if_neg hh] at h
  by_cases hp : (holeAt (tmplT c.toNat cb)).2 = pN16
  · rw [if_pos hp, inR_iff] at h
    exact ⟨h, fun h' => absurd hp h'⟩
  · rw [if_neg hp, inR_iff] at h
    exact ⟨⟨h.1, by omega⟩, fun _ => h.2⟩
theorem spec_InsText_eq (c : Int) (cb : Bool) (m : Int) {k : Nat} (hk : 5000 ≤ k) : spec_InsText.f k c cb m = some (insTextP c cb m) := by
  unfold spec_InsText.f insTextP
  rw [spec_InsOk_eq c cb m hk]
  simp only [Option.bind_some]
  by_cases h : insOkP c cb m = true
  · rw [if_pos h, if_pos h]
    have hin := insOkP_in' h
    have hT : spec_l3Template.f c cb = some (tmplT c.toNat cb) := by unfold spec_l3Template.f; rw [if_pos hin.1]
    have hs := tmplT_size c.toNat (by omega) cb
    have hm := insOk_m h
    rw [hT]
    simp only [Option.bind_some]
    generalize tmplT c.toNat cb = t at hs hm
    rw [spec_l3Hole_eq t (by omega) hk]
    simp only [Option.bind_some]
    have e1 : ((holeAt t).2.toList = ([110, 56] : List UInt8)) ↔ (holeAt t).2 = pN8 := list_of _ _
    have e2 : ((holeAt t).2.toList = ([110, 49, 54] : List UInt8)) ↔ (holeAt t).2 = pN16 := list_of _ _
    have e3 : ((holeAt t).2.toList = ([101, 56] : List UInt8)) ↔ (holeAt t).2 = pE8 := list_of _ _
    by_cases hz : (holeAt t).2 = ⟨#[]⟩
    · rw [if_neg (fun h => absurd (hz.symm.trans (e2.1 h)) (by decide)), if_neg (fun h => absurd (hz.symm.trans (e1.1 h)) (by decide)), if_neg (fun h => absurd (hz.symm.trans (e3.1 h)) (by decide)), if_pos hz]
    · obtain ⟨hx, hx0⟩ := holeAt_at t hz
      have hmm := hm hz
      have hf := fillT_size (holeAt t).2 m hmm.1 hmm.2
      rw [if_neg hz]
      obtain ⟨i, hi⟩ : ∃ i : Nat, (holeAt t).1 = (i : Int) := ⟨(holeAt t).1.toNat, by omega⟩
      rw [hi] at hx
      have hroom := Go.Lib.index_room t.data.toList (holeAt t).2.data.toList (by omega)
      have hlt : t.data.toList.length = t.size := by rw [Array.length_toList]; rfl
      have hlp : (holeAt t).2.data.toList.length = (holeAt t).2.size := by rw [Array.length_toList]; rfl
      have hcut := fun hp => cut_fill t (holeAt t).2 (fillT (holeAt t).2 m) i hp hx.symm
      have he0 : (t.extract 0 i).size ≤ 100 := by simp; omega
      have a1 : (0 : Int) ≤ (i : Int) := by omega
      have a2 : (i : Int) ≤ (t.size : Int) := by omega
      have fin : ∀ (L : Int) (F : ByteArray), ((holeAt t).2.size : Int) = L → 1 ≤ L → L ≤ 3 → F = fillT (holeAt t).2 m → (if (t.extract 0 (i : Int).toNat).size + F.size ≤ 9223372036854775807 then (if 0 ≤ (wrap64 ((i : Int) + L)) then (if (wrap64 ((i : Int) + L)) ≤ (t.size : Int) then (if ((t.extract 0 (i : Int).toNat) ++ F).size + (t.extract ((wrap64 ((i : Int) + L)) : Int).toNat t.size).size ≤ 9223372036854775807 then (some (((t.extract 0 (i : Int).toNat) ++ F) ++ (t.extract ((wrap64 ((i : Int) + L)) : Int).toNat t.size))) else (none)) else (none)) else (none)) else (none)) = some (⟨(Go.Lib.replace t.data.toList (holeAt t).2.data.toList (fillT (holeAt t).2 m).data.toList 1).toArray⟩ : ByteArray) := by
        intro L F hL h1 h3 hF
        rw [hF]
        have w1 : wrap64 ((i : Int) + L) = ((i + (holeAt t).2.size : Nat) : Int) := by rw [w64 (by omega) (by omega)]; omega
        have a3 : (t.extract 0 i).size + (fillT (holeAt t).2 m).size ≤ 9223372036854775807 := by omega
        have a4 : (0 : Int) ≤ ((i + (holeAt t).2.size : Nat) : Int) := by omega
        have a5 : ((i + (holeAt t).2.size : Nat) : Int) ≤ (t.size : Int) := by omega
        have a6 : ((t.extract 0 i) ++ (fillT (holeAt t).2 m)).size + (t.extract (i + (holeAt t).2.size) t.size).size ≤ 9223372036854775807 := by
          rw [ByteArray.size_append]
          have : (t.extract (i + (holeAt t).2.size) t.size).size ≤ t.size := by simp
          omega
        rw [w1, Int.toNat_natCast, Int.toNat_natCast, if_pos a3, if_pos a4, if_pos a5, if_pos a6]
        rw [hcut (by omega)]
      rw [hi]
      rcases holeAt_kind t with hp | hp | hp | hp
      · have hx : spec_HexOf.f k m 4 = some (hexText (4 : Int).toNat m.toNat) := by rw [spec_HexOf_eq m 4 (by omega), if_pos (by decide), if_pos (inR_pos hmm.1.1 hmm.1.2)]
        rw [if_pos (e2.2 hp), if_pos a1, if_pos a2, hx]
        simp only [Option.bind_some]
        exact fin 3 _ (by rw [hp]; rfl) (by decide) (by decide) (by unfold fillT; rw [hp, if_neg (by decide), if_pos rfl]; rfl)
      · have h255 := hmm.2 (by rw [hp]; decide)
        have hx : spec_HexOf.f k m 2 = some (hexText (2 : Int).toNat m.toNat) := by rw [spec_HexOf_eq m 2 (by omega), if_pos (by decide), if_pos (inR_pos hmm.1.1 hmm.1.2)]
        rw [if_neg (fun h => absurd (hp.symm.trans (e2.1 h)) (by decide)), if_pos (e1.2 hp), if_pos a1, if_pos a2, hx]
        simp only [Option.bind_some]
        exact fin 2 _ (by rw [hp]; rfl) (by decide) (by decide) (by unfold fillT; rw [hp, if_pos rfl]; rfl)
      · have h255 := hmm.2 (by rw [hp]; decide)
        have hsg : -1000 < sgn m ∧ sgn m < 1000 := by unfold sgn; split <;> (try split) <;> omega
        rw [if_neg (fun h => absurd (hp.symm.trans (e2.1 h)) (by decide)), if_neg (fun h => absurd (hp.symm.trans (e1.1 h)) (by decide)), if_pos (e3.2 hp), if_pos a1, if_pos a2, spec_SignedOf_eq]
        simp only [Option.bind_some]
        rw [spec_l1Dec_eq (sgn m) hsg (by omega)]
        simp only [Option.bind_some]
        exact fin 2 _ (by rw [hp]; rfl) (by decide) (by decide) (by unfold fillT; rw [hp, if_neg (by decide), if_neg (by decide)])
      · exact absurd hp hz
  · rw [if_neg h, if_neg h]
theorem impl_filling_eq (p : ByteArray) (m : Int) (hp : p = pN16 ∨ p = pN8 ∨ p = pE8) (hm : 0 ≤ m ∧ m ≤ 65535) (h2 : p ≠ pN16 → m ≤ 255) : impl_filling.f p m = some (fillT p m) := by
  unfold impl_filling.f fillT
  have e1 : (p.toList = ([110, 56] : List UInt8)) ↔ p = pN8 := list_of _ _
  have e2 : (p.toList = ([110, 49, 54] : List UInt8)) ↔ p = pN16 := list_of _ _
  have hR : inR m 0 65535 = true := inR_pos hm.1 hm.2
  rcases hp with hp | hp | hp
  · rw [if_neg (fun h => absurd (hp.symm.trans (e1.1 h)) (by decide)), if_pos (e2.2 hp), impl_HexOf_eq, if_pos (by decide), if_pos hR, if_neg (by rw [hp]; decide), if_pos hp]
    rfl
  · rw [if_pos (e1.2 hp), impl_HexOf_eq, if_pos (by decide), if_pos hR, if_pos hp]
    rfl
  · rw [if_neg (fun h => absurd (hp.symm.trans (e1.1 h)) (by decide)), if_neg (fun h => absurd (hp.symm.trans (e2.1 h)) (by decide)), impl_SignedOf_eq, if_neg (by rw [hp]; decide), if_neg (by rw [hp]; decide)]
    simp only [Option.bind_some]
    have h255 := h2 (by rw [hp]; decide)
    have hsg : -1000 < sgn m ∧ sgn m < 1000 := by unfold sgn; split <;> (try split) <;> omega
    unfold impl_decimal.f strconv_FormatInt.f
    rw [if_pos rfl, if_pos (by omega), if_pos (by omega)]
    rfl
theorem impl_InsText_eq (c : Int) (cb : Bool) (m : Int) {k : Nat} (hk : 5000 ≤ k) : impl_InsText.f k c cb m = some (insTextP c cb m) := by
  unfold impl_InsText.f insTextP impl_TemplateOf.f
  rw [impl_InsOk_eq c cb m (by omega)]
  simp only [Option.bind_some]
  by_cases h : insOkP c cb m = true
  · rw [if_pos h, if_pos h]
    have hin := insOkP_in' h
    have hs := tmplT_size c.toNat (by omega) cb
    have hm := insOk_m h
    rw [if_pos hin.1]
    generalize tmplT c.toNat cb = t at hs hm
    rw [impl_holeOf_eq t (by omega) (by omega)]
    simp only [Option.bind_some]
    have e0 : ((holeAt t).2.toList = ([] : List UInt8)) ↔ (holeAt t).2 = ⟨#[]⟩ := list_of _ _
    by_cases hz : (holeAt t).2 = ⟨#[]⟩
    · rw [if_pos hz, if_pos (e0.2 hz)]
    · rw [if_neg hz, if_neg (fun h => hz (e0.1 h))]
      have hmm := hm hz
      have hk3 : (holeAt t).2 = pN16 ∨ (holeAt t).2 = pN8 ∨ (holeAt t).2 = pE8 := by
        rcases holeAt_kind t with hp | hp | hp | hp
        · exact .inl hp
        · exact .inr (.inl hp)
        · exact .inr (.inr hp)
        · exact absurd hp hz
      have hf := fillT_size (holeAt t).2 m hmm.1 hmm.2
      rw [impl_filling_eq _ _ hk3 hmm.1 hmm.2]
      simp only [Option.bind_some]
      have hp1 : 1 ≤ (holeAt t).2.size := by rcases hk3 with hp | hp | hp <;> rw [hp] <;> decide
      unfold strings_Replace.f
      have hcb := Go.Lib.countB_le (holeAt t).2 hp1 t.size t (Nat.le_refl _)
      have hmul : Go.Lib.countB t (holeAt t).2 * (fillT (holeAt t).2 m).size ≤ 100 * 100 := Nat.mul_le_mul (by omega) hf
      rw [if_pos (by omega), if_pos hp1, if_pos (by omega)]
      rfl
  · rw [if_neg h, if_neg h]

/-- A byte of a number's text. -/
def numC (c : UInt8) : Bool := c == 36 || (c == 45 || ((decide (48 ≤ c.toNat) && decide (c.toNat ≤ 57)) || (decide (65 ≤ c.toNat) && decide (c.toNat ≤ 70))))
def holed (t : ByteArray) : Bool := decide ((holeAt t).2 ≠ ⟨#[]⟩)
/-- What a template holds ahead of its hole, and behind it. -/
def headT (t : ByteArray) : List UInt8 := t.data.toList.take (holeAt t).1.toNat
def tailT (t : ByteArray) : List UInt8 := t.data.toList.drop ((holeAt t).1.toNat + (holeAt t).2.size)
/-- A text without its first number. -/
def numless : List UInt8 → List UInt8
  | [] => [0]
  | c :: r => if numC c = true then 0 :: r.dropWhile numC else c :: numless r
theorem numless_at : ∀ (A F B : List UInt8), (∀ c ∈ A, numC c = false) → F ≠ [] → (∀ c ∈ F, numC c = true) → (∀ c r, B = c :: r → numC c = false) → numless (A ++ (F ++ B)) = A ++ 0 :: B
  | [], [], B, _, h, _, _ => absurd rfl h
  | [], c :: F, B, _, _, h2, h3 => by
    have hd : ∀ F : List UInt8, (∀ c ∈ F, numC c = true) → (F ++ B).dropWhile numC = B := by
      intro F
      induction F with
      | nil =>
        intro _
        cases B with
        | nil => rfl
        | cons x r =>
          rw [List.nil_append, List.dropWhile_cons, h3 x r rfl]
          rfl
      | cons x r ih =>
        intro h
        rw [List.cons_append, List.dropWhile_cons, h x List.mem_cons_self, if_pos rfl]
        exact ih (fun c hc => h c (List.mem_cons_of_mem _ hc))
    show numless (c :: (F ++ B)) = _
    rw [numless, if_pos (h2 c List.mem_cons_self), hd F (fun c hc => h2 c (List.mem_cons_of_mem _ hc))]
    rfl
  | x :: A, F, B, h1, h, h2, h3 => by
    show numless (x :: (A ++ (F ++ B))) = _
    rw [numless, if_neg (by rw [h1 x List.mem_cons_self]; decide), numless_at A F B (fun c hc => h1 c (List.mem_cons_of_mem _ hc)) h h2 h3]
    rfl
/-- A text as one number. -/
def enc : List UInt8 → Nat
  | [] => 0
  | c :: r => (c.toNat + 1) + 257 * enc r
def tAt (i : Nat) : ByteArray := tmplT (i % 256) (decide (256 ≤ i))
def nodupB : List Nat → Bool
  | [] => true
  | x :: r => !(r.any (Nat.beq x)) && nodupB r
theorem nodupB_inj {α : Type} (f : α → Nat) : ∀ {l : List α}, nodupB (l.map f) = true → ∀ a ∈ l, ∀ b ∈ l, f a = f b → a = b
  | [], _, a, ha, _, _, _ => by cases ha
  | x :: r, h, a, ha, b, hb, e => by
    rw [List.map_cons, nodupB, Bool.and_eq_true, Bool.not_eq_true'] at h
    have hx : ∀ y ∈ r, f x ≠ f y := by
      intro y hy hxy
      have : (r.map f).any (Nat.beq (f x)) = true := List.any_eq_true.2 ⟨f y, List.mem_map.2 ⟨y, hy, rfl⟩, by rw [hxy]; exact Nat.beq_refl _⟩
      rw [h.1] at this
      cases this
    rcases List.mem_cons.1 ha with e1 | ha2
    · rcases List.mem_cons.1 hb with e2 | hb2
      · rw [e1, e2]
      · exact absurd (by rw [← e1]; exact e) (hx b hb2)
    · rcases List.mem_cons.1 hb with e2 | hb2
      · exact absurd (by rw [← e2]; exact e.symm) (hx a ha2)
      · exact nodupB_inj f h.2 a ha2 b hb2 e
def key1 (i : Nat) : Nat := if (tAt i).size = 0 then i else 512 + enc (tAt i).data.toList
def key2 (i : Nat) : Nat := if holed (tAt i) = true then 512 + enc (headT (tAt i) ++ 0 :: tailT (tAt i)) else i
theorem key1_nodup : nodupB ((List.range 512).map key1) = true := by decide +kernel
theorem key2_nodup : nodupB ((List.range 512).map key2) = true := by decide +kernel
theorem key3_apart : ((List.range 512).filter fun i => holed (tAt i)).all (fun j => (List.range 512).all fun i => holed (tAt i) || !(Nat.beq (key2 j) (512 + enc (numless (tAt i).data.toList)))) = true := by decide +kernel
theorem holed_shape : ∀ i < 512, holed (tAt i) = true → decide (256 ≤ i) = false ∧ (headT (tAt i)).all (fun c => !numC c) = true ∧ ((tailT (tAt i)).head?.all fun c => !numC c) = true := by decide +kernel
theorem cb_full : ∀ i < 512, 256 ≤ i → (tAt i).size ≠ 0 := by decide +kernel
/-- What a right instruction with this text is. -/
def rightIns (s : ByteArray) (c : Int) (cb : Bool) (m : Int) : Prop := insOkP c cb m = true ∧ insTextP c cb m = s
def idx (c : Int) (cb : Bool) : Nat := c.toNat + (if cb = true then 256 else 0)
theorem tAt_idx {c : Int} (h : 0 ≤ c ∧ c < 256) (cb : Bool) : tAt (idx c cb) = tmplT c.toNat cb ∧ idx c cb < 512 := by
  unfold tAt idx
  cases cb with
  | false =>
    rw [if_neg (by decide), decide_eq_false (by omega), show (c.toNat + 0) % 256 = c.toNat by omega]
    exact ⟨rfl, by omega⟩
  | true =>
    rw [if_pos rfl, decide_eq_true (by omega), show (c.toNat + 256) % 256 = c.toNat by omega]
    exact ⟨rfl, by omega⟩
theorem idx_inj {c c' : Int} {cb cb' : Bool} (h : 0 ≤ c ∧ c < 256) (h' : 0 ≤ c' ∧ c' < 256) (e : idx c cb = idx c' cb') : c = c' ∧ cb = cb' := by
  unfold idx at e
  cases cb <;> cases cb' <;> simp at e <;> refine ⟨by omega, ?_⟩ <;> first | rfl | omega
theorem fill_num {p : ByteArray} {m : Int} (hp : p = pN16 ∨ p = pN8 ∨ p = pE8) (hm : 0 ≤ m ∧ m ≤ 65535) (h2 : p ≠ pN16 → m ≤ 255) : (fillT p m).data.toList ≠ [] ∧ ∀ c ∈ (fillT p m).data.toList, numC c = true := by
  have hx : ∀ x < 16, numC (hexU x) = true := by decide
  have hh : ∀ d n, n < 16 ^ d → (hexText d n).data.toList ≠ [] ∧ ∀ c ∈ (hexText d n).data.toList, numC c = true := by
    intro d n hn
    unfold hexText
    rw [if_pos (Nat.div_eq_of_lt hn)]
    refine ⟨by simp, ?_⟩
    intro c hc
    rcases List.mem_cons.1 hc with rfl | hc
    · rfl
    · obtain ⟨x, h1, rfl⟩ := hexFix_dig _ _ c hc
      exact hx x h1
  have hd : ∀ n, ∀ c ∈ Go.Lib.decDigits n, numC c = true := by
    intro n c hc
    have := (dec_fold n).2 c hc
    unfold digitB at this
    unfold numC
    rw [decide_eq_true this.1, decide_eq_true this.2]
    simp
  unfold fillT
  by_cases c8 : p = pN8
  · rw [if_pos c8]
    have := h2 (by rw [c8]; decide)
    exact hh 2 _ (by rw [show 16 ^ 2 = 256 from rfl]; omega)
  · rw [if_neg c8]
    by_cases c16 : p = pN16
    · rw [if_pos c16]
      exact hh 4 _ (by rw [show 16 ^ 4 = 65536 from rfl]; omega)
    · rw [if_neg c16]
      show Go.Lib.itoa (sgn m) ≠ [] ∧ ∀ c ∈ Go.Lib.itoa (sgn m), numC c = true
      unfold Go.Lib.itoa
      split
      · refine ⟨by simp, ?_⟩
        intro c hc
        rcases List.mem_cons.1 hc with rfl | hc
        · rfl
        · exact hd _ c hc
      · exact ⟨dec_ne _, hd _⟩
/-- The text of a right instruction, by parts. -/
theorem right_parts {s : ByteArray} {c : Int} {cb : Bool} {m : Int} (h : rightIns s c cb m) : (0 ≤ c ∧ c < 256) ∧ (tmplT c.toNat cb).size ≠ 0 ∧ ((holed (tmplT c.toNat cb) = false ∧ m = 0 ∧ s = tmplT c.toNat cb) ∨ (holed (tmplT c.toNat cb) = true ∧ cb = false ∧ (0 ≤ m ∧ m ≤ 65535) ∧ ((holeAt (tmplT c.toNat cb)).2 ≠ pN16 → m ≤ 255) ∧ s.data.toList = headT (tmplT c.toNat cb) ++ ((fillT (holeAt (tmplT c.toNat cb)).2 m).data.toList ++ tailT (tmplT c.toNat cb)))) := by
  obtain ⟨h1, h2⟩ := h
  have hin := insOkP_in' h1
  refine ⟨hin.1, hin.2, ?_⟩
  have hm := insOk_m h1
  unfold insTextP at h2
  rw [if_pos h1] at h2
  have hcb : holed (tmplT c.toNat cb) = true → cb = false := by
    intro hh
    obtain ⟨e1, e2⟩ := tAt_idx hin.1 cb
    rw [← e1] at hh
    have := (holed_shape _ e2 hh).1
    cases cb with
    | false => rfl
    | true =>
      unfold idx at this
      simp at this
  have h0 : holed (tmplT c.toNat cb) = false → m = 0 := by
    intro hh
    unfold holed at hh
    rw [decide_eq_false_iff_not, Decidable.not_not] at hh
    unfold insOkP at h1
    rw [if_pos hin.1] at h1
    unfold insOkT at h1
    rw [if_neg hin.2, if_pos hh, beq_iff_eq] at h1
    exact h1
  generalize tmplT c.toNat cb = t at *
  by_cases hz : (holeAt t).2 = ⟨#[]⟩
  · have hf : holed t = false := by unfold holed; rw [hz]; rfl
    simp only [hz, if_true] at h2
    exact .inl ⟨hf, h0 hf, h2.symm⟩
  · have hf : holed t = true := by unfold holed; exact decide_eq_true hz
    simp only [if_neg hz] at h2
    obtain ⟨hx, hx0⟩ := holeAt_at t hz
    obtain ⟨i, hi⟩ : ∃ i : Nat, (holeAt t).1 = (i : Int) := ⟨(holeAt t).1.toNat, by omega⟩
    rw [hi] at hx
    have hlp : (holeAt t).2.data.toList.length = (holeAt t).2.size := by rw [Array.length_toList]; rfl
    have hold : (holeAt t).2.data.toList ≠ [] := by
      intro e
      apply hz
      rw [e] at hlp
      exact ByteArray.ext (Array.toList_inj.1 e)
    rw [rep_one _ _ _ i hold hx.symm, hlp] at h2
    refine .inr ⟨hf, hcb hf, (hm hz).1, (hm hz).2, ?_⟩
    rw [← h2]
    unfold headT tailT
    rw [hi, Int.toNat_natCast]
    simp
theorem hole_kinds {t : ByteArray} (h : holed t = true) : (holeAt t).2 = pN16 ∨ (holeAt t).2 = pN8 ∨ (holeAt t).2 = pE8 := by
  rcases holeAt_kind t with hp | hp | hp | hp
  · exact .inl hp
  · exact .inr (.inl hp)
  · exact .inr (.inr hp)
  · unfold holed at h
    rw [hp] at h
    cases h
theorem right_numless {s : ByteArray} {c : Int} {cb : Bool} {m : Int} (h : rightIns s c cb m) (hh : holed (tAt (idx c cb)) = true) : numless s.data.toList = headT (tAt (idx c cb)) ++ 0 :: tailT (tAt (idx c cb)) := by
  obtain ⟨h1, h2, h3⟩ := right_parts h
  obtain ⟨e1, e2⟩ := tAt_idx h1 cb
  rw [← e1] at h3
  rcases h3 with ⟨h4, _⟩ | ⟨_, _, h5, h6, h7⟩
  · rw [h4] at hh
    cases hh
  · obtain ⟨_, g1, g2⟩ := holed_shape _ e2 hh
    obtain ⟨q1, q2⟩ := fill_num (hole_kinds hh) h5 h6
    rw [h7]
    refine numless_at _ _ _ (fun c hc => ?_) q1 q2 (fun c r hB => ?_)
    · have := List.all_eq_true.1 g1 c hc
      simpa using this
    · rw [hB] at g2
      simpa using g2
/-- No two right instructions have one text but for the number. -/
theorem right_same {s : ByteArray} {c c' : Int} {cb cb' : Bool} {m m' : Int} (h : rightIns s c cb m) (h' : rightIns s c' cb' m') : c = c' ∧ cb = cb' := by
  obtain ⟨h1, h2, h3⟩ := right_parts h
  obtain ⟨h1', h2', h3'⟩ := right_parts h'
  obtain ⟨e1, e2⟩ := tAt_idx h1 cb
  obtain ⟨e1', e2'⟩ := tAt_idx h1' cb'
  rw [← e1] at h2 h3
  rw [← e1'] at h2' h3'
  apply idx_inj h1 h1'
  have r1 := right_numless h
  have r2 := right_numless h'
  have apart : ∀ i j, i < 512 → j < 512 → holed (tAt j) = true → holed (tAt i) = false → numless (tAt i).data.toList = headT (tAt j) ++ 0 :: tailT (tAt j) → False := by
    intro i j hi hj hhj hhi e
    have := List.all_eq_true.1 key3_apart j (List.mem_filter.2 ⟨List.mem_range.2 hj, hhj⟩)
    have := List.all_eq_true.1 this i (List.mem_range.2 hi)
    rw [hhi, Bool.false_or, Bool.not_eq_true', e] at this
    unfold key2 at this
    rw [if_pos hhj, Nat.beq_refl] at this
    cases this
  generalize idx c cb = i at *
  generalize idx c' cb' = j at *
  by_cases ci : holed (tAt i) = true
  · by_cases cj : holed (tAt j) = true
    · refine nodupB_inj key2 key2_nodup i (List.mem_range.2 e2) j (List.mem_range.2 e2') ?_
      unfold key2
      rw [if_pos ci, if_pos cj, ← r1 ci, ← r2 cj]
    · have cj' : holed (tAt j) = false := by simpa using cj
      exfalso
      rcases h3' with ⟨_, _, h5⟩ | ⟨h4, _⟩
      · rw [h5] at r1
        exact apart j i e2' e2 ci cj' (r1 ci)
      · exact cj h4
  · have ci' : holed (tAt i) = false := by simpa using ci
    rcases h3 with ⟨_, _, h5⟩ | ⟨h4, _⟩
    · by_cases cj : holed (tAt j) = true
      · exfalso
        rw [h5] at r2
        exact apart i j e2 e2' cj ci' (r2 cj)
      · rcases h3' with ⟨_, _, h5'⟩ | ⟨h4', _⟩
        · refine nodupB_inj key1 key1_nodup i (List.mem_range.2 e2) j (List.mem_range.2 e2') ?_
          unfold key1
          rw [if_neg h2, if_neg h2', ← h5, ← h5']
        · exact absurd h4' cj
    · exact absurd h4 ci
/-- A hexadecimal text, read again. -/
theorem hexText_num (d n : Nat) (h1 : 1 ≤ d) (h4 : d ≤ 4) (hn : n < 16 ^ d) (hn2 : n ≤ 65535) : numOf (hexText d n) = some (n : Int) := by
  have he : hexText d n = ⟨(36 :: hexFix d n).toArray⟩ := by
    unfold hexText
    rw [if_pos (Nat.div_eq_of_lt hn)]
  have hl : (hexText d n).data.toList = 36 :: hexFix d n := by rw [he]
  have hz : (hexText d n).size = d + 1 := by
    rw [← len_list, hl, List.length_cons, hexFix_len]
  have hx := ext_from (hexText d n) 1
  rw [hl, List.drop_succ_cons, List.drop_zero] at hx
  have hb : bt (hexText d n) 0 = 36 := by
    obtain ⟨x, hx, bx⟩ := bt_drop (hexText d n) 0 (by omega)
    rw [List.drop_zero, hl] at hx
    have bx' : bt (hexText d n) 0 = (x.toNat : Int) := bx
    rw [bx', ← (List.cons.inj hx).1]
    rfl
  unfold numOf
  rw [if_neg (by omega), if_neg (by omega), if_pos hb]
  exact baseOf_hex d n h1 hn hn2 _ hx
theorem fill_num_hex {p : ByteArray} {m : Int} (hp : p = pN16 ∨ p = pN8) (hm : 0 ≤ m ∧ m ≤ 65535) (h2 : p ≠ pN16 → m ≤ 255) : numOf (fillT p m) = some m := by
  have e : ((m.toNat : Nat) : Int) = m := Int.toNat_of_nonneg hm.1
  unfold fillT
  rcases hp with hp | hp
  · rw [if_neg (by rw [hp]; decide), if_pos hp, hexText_num 4 _ (by omega) (by omega) (by rw [show 16 ^ 4 = 65536 from rfl]; omega) (by omega), e]
  · have := h2 (by rw [hp]; decide)
    rw [if_pos hp, hexText_num 2 _ (by omega) (by omega) (by rw [show 16 ^ 2 = 256 from rfl]; omega) (by omega), e]
theorem sgn_at {m : Int} (h : 0 ≤ m ∧ m ≤ 255) : (m ≤ 127 ∧ sgn m = m) ∨ (128 ≤ m ∧ sgn m = m - 256) := by
  unfold sgn
  rw [if_pos (inR_pos h.1 h.2)]
  by_cases c : m > 127
  · rw [if_pos c]
    exact .inr ⟨by omega, rfl⟩
  · rw [if_neg c]
    exact .inl ⟨by omega, rfl⟩
theorem dec_ba (n : Nat) (hn : n ≤ 65535) : numOf ⟨(Go.Lib.decDigits n).toArray⟩ = some (n : Int) := numOf_dec n hn _ rfl
/-- A text of a number below nought, without its sign, and one from nought on. -/
theorem fill_dec {m : Int} (h : 0 ≤ m ∧ m ≤ 255) : (m ≤ 127 ∧ fillT pE8 m = ⟨(Go.Lib.decDigits m.toNat).toArray⟩) ∨ (128 ≤ m ∧ fillT pE8 m = ⟨(45 :: Go.Lib.decDigits (256 - m).toNat).toArray⟩) := by
  have e : fillT pE8 m = ⟨(Go.Lib.itoa (sgn m)).toArray⟩ := by
    unfold fillT
    rw [if_neg (by decide), if_neg (by decide)]
  rw [e]
  rcases sgn_at h with ⟨h1, h2⟩ | ⟨h1, h2⟩
  · refine .inl ⟨h1, ?_⟩
    rw [h2]
    unfold Go.Lib.itoa
    rw [if_neg (by omega)]
  · refine .inr ⟨h1, ?_⟩
    rw [h2]
    unfold Go.Lib.itoa
    rw [if_pos (by omega), show (m - 256).natAbs = (256 - m).toNat by omega]
/-- What both answer. -/
noncomputable def rdIns (s : ByteArray) : Int × Bool × Int × Bool := by
  classical
  exact if h : (s.size ≠ 0 ∧ s.size ≤ 20) ∧ ∃ r : Int × Bool × Int, rightIns s r.1 r.2.1 r.2.2 then (h.2.choose.1, h.2.choose.2.1, h.2.choose.2.2, true) else (0, false, 0, false)
/-- What an answer is worth. -/
def goodIns (s : ByteArray) (r : Int × Bool × Int × Bool) : Prop := (r.2.2.2 = true ∧ s.size ≠ 0 ∧ s.size ≤ 20 ∧ rightIns s r.1 r.2.1 r.2.2.1) ∨ r = (0, false, 0, false)
theorem rdIns_of {s : ByteArray} {r : Int × Bool × Int × Bool} (hg : goodIns s r) (hf : ∀ c cb m, s.size ≠ 0 → s.size ≤ 20 → rightIns s c cb m → r = (c, cb, m, true)) : r = rdIns s := by
  unfold rdIns
  by_cases h : (s.size ≠ 0 ∧ s.size ≤ 20) ∧ ∃ r : Int × Bool × Int, rightIns s r.1 r.2.1 r.2.2
  · rw [dif_pos h]
    exact hf _ _ _ h.1.1 h.1.2 h.2.choose_spec
  · rw [dif_neg h]
    rcases hg with ⟨_, h2, h3, h4⟩ | h1
    · exact absurd ⟨⟨h2, h3⟩, (r.1, r.2.1, r.2.2.1), h4⟩ h
    · exact h1
/-- A text that is not empty and that a whole instruction has is a right instruction's. -/
theorem right_of {s : ByteArray} {c : Int} {cb : Bool} {m : Int} (h0 : s.size ≠ 0) (h : (insTextP c cb m).toList = s.toList) : rightIns s c cb m := by
  have e := toList_inj h
  refine ⟨?_, e⟩
  cases hok : insOkP c cb m with
  | true => rfl
  | false =>
    unfold insTextP at e
    rw [hok, if_neg (by decide)] at e
    rw [← e] at h0
    exact absurd rfl h0
/-- What stands in the place of a template's hole. -/
theorem spec_l3Fits_eq (s t : ByteArray) (hs : s.size ≤ 20) (ht : t.size ≤ 100) {k : Nat} (hk : 5000 ≤ k) : ∃ r, spec_l3Fits.f k s t = some r ∧ (∀ F : ByteArray, holed t = true → F.size ≠ 0 → s.data.toList = headT t ++ (F.data.toList ++ tailT t) → r = (F, true)) ∧ (holed t = false → s = t → r = (⟨#[]⟩, true)) ∧ (s.size = 0 → t.size ≠ 0 → r.2 = false) := by
  unfold spec_l3Fits.f
  rw [spec_l3Hole_eq t (by omega) hk]
  simp only [Option.bind_some]
  have hlt : t.data.toList.length = t.size := len_list t
  by_cases hz : (holeAt t).2 = ⟨#[]⟩
  · have hf : holed t = false := by unfold holed; rw [hz]; rfl
    have hneg : (holeAt t).1 < 0 := by
      unfold holeAt at hz ⊢
      split at hz
      · exact absurd hz (show ¬ pN16 = ⟨#[]⟩ by decide)
      · split at hz
        · exact absurd hz (show ¬ pN8 = ⟨#[]⟩ by decide)
        · split at hz
          · exact absurd hz (show ¬ pE8 = ⟨#[]⟩ by decide)
          · rw [if_neg (by assumption), if_neg (by assumption), if_neg (by assumption)]
            decide
    rw [if_pos hneg]
    refine ⟨_, rfl, fun F h => ?_, fun _ e => ?_, fun e0 e1 => ?_⟩
    · rw [hf] at h
      cases h
    · rw [e, beq_self_eq_true]
    · show (s.toList == t.toList) = false
      cases hb : (s.toList == t.toList) with
      | false => rfl
      | true =>
        exfalso
        have := toList_inj (beq_iff_eq.1 hb)
        rw [this] at e0
        exact e1 e0
  · have hf : holed t = true := by unfold holed; exact decide_eq_true hz
    obtain ⟨hx, hx0⟩ := holeAt_at t hz
    have hlp : (holeAt t).2.data.toList.length = (holeAt t).2.size := len_list _
    have hroom := Go.Lib.index_room t.data.toList (holeAt t).2.data.toList (by omega)
    obtain ⟨i, hi⟩ : ∃ i : Nat, (holeAt t).1 = (i : Int) := ⟨(holeAt t).1.toNat, by omega⟩
    have hH : headT t = t.data.toList.take i := by unfold headT; rw [hi, Int.toNat_natCast]
    have hT : tailT t = t.data.toList.drop (i + (holeAt t).2.size) := by unfold tailT; rw [hi, Int.toNat_natCast]
    generalize (holeAt t).2.size = p at *
    rw [hi] at hx hx0 ⊢
    have hip : i + p ≤ t.size := by omega
    have htl := ext_from t (i + p)
    have hth := (Go.Lib.extract_from_zero t i)
    have htz : (t.extract (i + p) t.size).size = t.size - (i + p) := by rw [ByteArray.size_extract]; omega
    have hHl : (headT t).length = i := by rw [hH, List.length_take]; omega
    have hTl : (tailT t).length = t.size - (i + p) := by rw [hT, List.length_drop]; omega
    rw [if_neg (by omega), w64 (n := (i : Int) + (p : Int)) (by omega) (by omega), if_pos (by omega), if_pos (by omega), show ((i : Int) + (p : Int)).toNat = i + p by omega]
    rw [← hT] at htl
    generalize t.extract (i + p) t.size = B at htl htz ⊢
    rw [w64 (n := (i : Int) + (B.size : Int)) (by omega) (by omega)]
    by_cases c1 : (s.size : Int) ≤ (i : Int) + (B.size : Int)
    · rw [if_pos c1]
      refine ⟨_, rfl, fun F _ h0 e => ?_, fun h => ?_, fun _ _ => rfl⟩
      · exfalso
        have := congrArg List.length e
        rw [len_list, List.length_append, List.length_append, len_list] at this
        omega
      · rw [hf] at h
        cases h
    · rw [if_neg c1, if_pos (by omega), if_pos (by omega), if_pos (by omega), w64 (n := (s.size : Int) - (B.size : Int)) (by omega) (by omega), Int.toNat_natCast]
      have hsh := Go.Lib.extract_from_zero s i
      rw [← hH] at hth
      by_cases c2 : (s.extract 0 i).toList = (t.extract 0 i).toList
      · rw [if_pos c2, if_pos (by omega), if_pos (by omega), show ((s.size : Int) - (B.size : Int)).toNat = s.size - B.size by omega]
        have hst := ext_from s (s.size - B.size)
        by_cases c3 : (s.extract (s.size - B.size) s.size).toList = B.toList
        · rw [if_pos c3, if_pos (by omega)]
          refine ⟨_, rfl, fun F _ h0 e => ?_, fun h => ?_, fun e0 _ => by omega⟩
          · have hl := congrArg List.length e
            rw [len_list, List.length_append, List.length_append, len_list] at hl
            refine Prod.ext ?_ rfl
            refine ByteArray.ext (Array.toList_inj.1 ?_)
            show (s.extract i (s.size - B.size)).data.toList = F.data.toList
            rw [ByteArray.data_extract, Array.toList_extract, List.extract, e, ← hHl, List.drop_left, show s.size - B.size - (headT t).length = F.data.toList.length by rw [len_list]; omega, List.take_left]
          · rw [hf] at h
            cases h
        · rw [if_neg c3]
          refine ⟨_, rfl, fun F _ h0 e => ?_, fun h => ?_, fun e0 _ => by omega⟩
          · exfalso
            have hl := congrArg List.length e
            rw [len_list, List.length_append, List.length_append, len_list] at hl
            apply c3
            rw [show s.extract (s.size - B.size) s.size = B from ByteArray.ext (Array.toList_inj.1 (by
              rw [hst, e, ← List.append_assoc, show s.size - B.size = (headT t ++ F.data.toList).length by rw [List.length_append, len_list]; omega, List.drop_left, htl]))]
          · rw [hf] at h
            cases h
      · rw [if_neg c2]
        refine ⟨_, rfl, fun F _ h0 e => ?_, fun h => ?_, fun e0 _ => by omega⟩
        · exfalso
          apply c2
          rw [show s.extract 0 i = t.extract 0 i from ByteArray.ext (Array.toList_inj.1 (by
            rw [hsh, hth, e, ← hHl, List.take_left]))]
        · rw [hf] at h
          cases h

theorem fill_same {p : ByteArray} {m m' : Int} (hp : p = pN16 ∨ p = pN8 ∨ p = pE8) (hm : 0 ≤ m ∧ m ≤ 65535) (h2 : p ≠ pN16 → m ≤ 255) (hm' : 0 ≤ m' ∧ m' ≤ 65535) (h2' : p ≠ pN16 → m' ≤ 255) (e : fillT p m = fillT p m') : m = m' := by
  have hex : ∀ (hq : p = pN16 ∨ p = pN8), m = m' := by
    intro hq
    have a := fill_num_hex hq hm h2
    rw [e, fill_num_hex hq hm' h2'] at a
    exact (Option.some.inj a).symm
  rcases hp with hq | hq | hq
  · exact hex (.inl hq)
  · exact hex (.inr hq)
  · have b := h2 (by rw [hq]; decide)
    have b' := h2' (by rw [hq]; decide)
    have f : ∀ x, fillT p x = ⟨(Go.Lib.itoa (sgn x)).toArray⟩ := by
      intro x
      rw [hq]
      unfold fillT
      rw [if_neg (by decide), if_neg (by decide)]
    rw [f, f] at e
    have e2 : Go.Lib.itoa (sgn m) = Go.Lib.itoa (sgn m') := by
      have := congrArg (fun z : ByteArray => z.data.toList) e
      exact this
    have i1 := sgn_at ⟨hm.1, b⟩
    have i2 := sgn_at ⟨hm'.1, b'⟩
    have p1 := parse_itoa (sgn m) (by omega) (by omega)
    have p2 := parse_itoa (sgn m') (by omega) (by omega)
    rw [e2, p2] at p1
    injection p1 with p1
    omega
/-- A right instruction is told by its text. -/
theorem right_uniq {s : ByteArray} {c c' : Int} {cb cb' : Bool} {m m' : Int} (h : rightIns s c cb m) (h' : rightIns s c' cb' m') : c = c' ∧ cb = cb' ∧ m = m' := by
  obtain ⟨rfl, rfl⟩ := right_same h h'
  refine ⟨rfl, rfl, ?_⟩
  obtain ⟨_, _, h3⟩ := right_parts h
  obtain ⟨_, _, h3'⟩ := right_parts h'
  rcases h3 with ⟨g, h4, _⟩ | ⟨g, _, h5, h6, h7⟩
  · rcases h3' with ⟨_, h4', _⟩ | ⟨g', _⟩
    · rw [h4, h4']
    · rw [g] at g'
      cases g'
  · rcases h3' with ⟨g', _⟩ | ⟨_, _, h5', h6', h7'⟩
    · rw [g] at g'
      cases g'
    · rw [h7] at h7'
      have e := List.append_cancel_right (List.append_cancel_left h7')
      exact fill_same (hole_kinds g) h5 h6 h5' h6' (ByteArray.ext (Array.toList_inj.1 e))
/-- An answer that is right is what both answer. -/
theorem rdIns_right {s : ByteArray} {c : Int} {cb : Bool} {m : Int} (h0 : s.size ≠ 0) (h1 : s.size ≤ 20) (h : rightIns s c cb m) : (c, cb, m, true) = rdIns s := by
  refine rdIns_of (.inl ⟨rfl, h0, h1, h⟩) ?_
  intro c' cb' m' _ _ h'
  obtain ⟨rfl, rfl, rfl⟩ := right_uniq h h'
  rfl
/-- No answer is what both answer where no right instruction has the text. -/
theorem rdIns_none {s : ByteArray} (h : ∀ c cb m, s.size ≠ 0 → s.size ≤ 20 → ¬ rightIns s c cb m) : (0, false, 0, false) = rdIns s := by
  refine rdIns_of (.inr rfl) ?_
  intro c' cb' m' h0 h1 h'
  exact absurd h' (h c' cb' m' h0 h1)
/-- What is read of a hole's text. -/
theorem fill_read {p : ByteArray} {m : Int} (hp : p = pN16 ∨ p = pN8 ∨ p = pE8) (hm : 0 ≤ m ∧ m ≤ 65535) (h2 : p ≠ pN16 → m ≤ 255) {F : ByteArray} (e : F = fillT p m) : F.size ≠ 0 ∧ ((bt F 0 ≠ 45 ∧ numOf F = some m) ∨ (bt F 0 = 45 ∧ 1 < F.size ∧ numOf (F.extract 1 F.size) = some (256 - m) ∧ 128 ≤ m ∧ m ≤ 255)) := by
  obtain ⟨g1, g2⟩ := fill_num hp hm h2
  have hz : F.size ≠ 0 := by
    intro h
    rw [← e] at g1
    apply g1
    rw [← len_list] at h
    exact List.length_eq_zero_iff.1 h
  refine ⟨hz, ?_⟩
  obtain ⟨x, hx, bx⟩ := bt_drop F 0 (by omega)
  rw [List.drop_zero] at hx
  have bx' : bt F 0 = (x.toNat : Int) := bx
  have hex : ∀ (hq : p = pN16 ∨ p = pN8), (bt F 0 ≠ 45 ∧ numOf F = some m) := by
    intro hq
    refine ⟨?_, by rw [e]; exact fill_num_hex hq hm h2⟩
    have hh : ∀ d n, n < 16 ^ d → ∃ r, (hexText d n).data.toList = 36 :: r := by
      intro d n hn
      unfold hexText
      rw [if_pos (Nat.div_eq_of_lt hn)]
      exact ⟨_, rfl⟩
    have : ∃ r, F.data.toList = 36 :: r := by
      rw [e]
      unfold fillT
      rcases hq with hq | hq
      · rw [if_neg (by rw [hq]; decide), if_pos hq]
        exact hh 4 _ (by rw [show 16 ^ 4 = 65536 from rfl]; omega)
      · have := h2 (by rw [hq]; decide)
        rw [if_pos hq]
        exact hh 2 _ (by rw [show 16 ^ 2 = 256 from rfl]; omega)
    obtain ⟨r, hr⟩ := this
    rw [hr] at hx
    rw [bx', ← (List.cons.inj hx).1]
    decide
  rcases hp with hq | hq | hq
  · exact .inl (hex (.inl hq))
  · exact .inl (hex (.inr hq))
  · have h255 := h2 (by rw [hq]; decide)
    rw [hq] at e
    rcases fill_dec ⟨hm.1, h255⟩ with ⟨k1, k2⟩ | ⟨k1, k2⟩
    · rw [k2] at e
      refine .inl ⟨?_, ?_⟩
      · have hd := (dec_fold m.toNat).2
        have hl : F.data.toList = Go.Lib.decDigits m.toNat := by rw [e]
        rw [← hl, hx] at hd
        have := hd x List.mem_cons_self
        unfold digitB at this
        omega
      · rw [e, dec_ba m.toNat (by omega), Int.toNat_of_nonneg hm.1]
    · rw [k2] at e
      have hl : F.data.toList = 45 :: Go.Lib.decDigits (256 - m).toNat := by rw [e]
      have hsz : F.size = 1 + (Go.Lib.decDigits (256 - m).toNat).length := by rw [← len_list, hl, List.length_cons]; omega
      have hne : (Go.Lib.decDigits (256 - m).toNat).length ≠ 0 := by
        intro h
        exact dec_ne _ (List.length_eq_zero_iff.1 h)
      refine .inr ⟨?_, by omega, ?_, k1, h255⟩
      · rw [hl] at hx
        rw [bx', ← (List.cons.inj hx).1]
        decide
      · have : F.extract 1 F.size = ⟨(Go.Lib.decDigits (256 - m).toNat).toArray⟩ := by
          refine ByteArray.ext (Array.toList_inj.1 ?_)
          rw [ext_from, hl, List.drop_succ_cons, List.drop_zero]
        rw [this, dec_ba _ (by omega), Int.toNat_of_nonneg (by omega)]
theorem spec_l3Imm_eq (F : ByteArray) {k : Nat} (hk : 100 ≤ k) : ∃ v, spec_l3Imm.f k F = some v ∧ ∀ p m, (p = pN16 ∨ p = pN8 ∨ p = pE8) → (0 ≤ m ∧ m ≤ 65535) → (p ≠ pN16 → m ≤ 255) → F = fillT p m → v = m := by
  obtain ⟨k, rfl⟩ : ∃ j, k = j + 2 := ⟨k - 2, by omega⟩
  have j0f : ∃ v, spec_l3Imm.j0 (k + 2) F false = some v ∧ ∀ m, numOf F = some m → v = m := by
    rw [spec_l3Imm.j0, if_neg (by decide), spec_ReadNum_eq F (by omega)]
    simp only [Option.bind_some]
    cases hn : numOf F with
    | none => exact ⟨-1, rfl, fun m h => by cases h⟩
    | some n => exact ⟨n, rfl, fun m h => Option.some.inj h⟩
  unfold spec_l3Imm.f
  by_cases h1 : (F.size : Int) > 1
  · rw [if_pos h1, if_pos (by omega)]
    by_cases h45 : bt F 0 = 45
    · rw [show (bt F 0 == 45) = true from beq_iff_eq.2 h45, spec_l3Imm.j0, if_pos rfl, if_pos (by omega), spec_ReadNum_eq _ (by omega)]
      simp only [Option.bind_some]
      cases hn : numOf (F.extract 1 F.size) with
      | none =>
        refine ⟨-1, ?_, fun p m hp hm h2 e => ?_⟩
        · rw [if_neg (show ¬ (told none).2 = true by decide), spec_l3Imm.j1, if_pos rfl]
        · exfalso
          rcases (fill_read hp hm h2 e).2 with ⟨h, _⟩ | ⟨_, _, h, _⟩
          · exact h h45
          · rw [hn] at h
            cases h
      | some n =>
        rw [if_pos (show (told (some n)).2 = true from rfl), show (told (some n)).1 = n from rfl, spec_l1In_eq]
        simp only [Option.bind_some]
        cases hi : inR n 1 128 with
        | false =>
          refine ⟨-1, ?_, fun p m hp hm h2 e => ?_⟩
          · rw [spec_l3Imm.j1, if_pos (show (!false) = true from rfl)]
          · exfalso
            rcases (fill_read hp hm h2 e).2 with ⟨h, _⟩ | ⟨_, _, h, h3, h4⟩
            · exact h h45
            · rw [hn] at h
              have := Option.some.inj h
              rw [inR_pos (by omega) (by omega)] at hi
              cases hi
        | true =>
          rw [inR_iff] at hi
          refine ⟨wrap64 (256 - n), ?_, fun p m hp hm h2 e => ?_⟩
          · rw [spec_l3Imm.j1, if_neg (by decide)]
          · rcases (fill_read hp hm h2 e).2 with ⟨h, _⟩ | ⟨_, _, h, h3, h4⟩
            · exact absurd h45 h
            · rw [hn] at h
              have := Option.some.inj h
              rw [w64 (by omega) (by omega)]
              omega
    · rw [show (bt F 0 == 45) = false from beq_eq_false_iff_ne.2 h45]
      obtain ⟨v, hv, hm⟩ := j0f
      refine ⟨v, hv, fun p m hp hm' h2 e => ?_⟩
      rcases (fill_read hp hm' h2 e).2 with ⟨_, h⟩ | ⟨h, _⟩
      · exact hm m h
      · exact absurd h h45
  · rw [if_neg h1]
    obtain ⟨v, hv, hm⟩ := j0f
    refine ⟨v, hv, fun p m hp hm' h2 e => ?_⟩
    rcases (fill_read hp hm' h2 e).2 with ⟨_, h⟩ | ⟨_, h, _⟩
    · exact hm m h
    · omega
theorem spec_RIT_j2 (s : ByteArray) (hs : s.size ≤ 20) (x : Nat) (hx : x < 512) (c : Int) (cb : Bool) (hc : 0 ≤ c ∧ c < 256) (ht : (tmplT c.toNat cb).size ≠ 0) {k : Nat} (hk : 5100 ≤ k) (hnext : (∀ m, s.size ≠ 0 → ¬ rightIns s c cb m) → spec_ReadInsText.l0 k s (wrap64 ((x : Int) + 1)) = some (rdIns s)) :
    spec_ReadInsText.j2 (k + 1) s (x : Int) false c cb 0 = some (rdIns s) := by
  have hsz := tmplT_size c.toNat (by omega) cb
  have hT : spec_l3Template.f c cb = some (tmplT c.toNat cb) := by unfold spec_l3Template.f; rw [if_pos hc]
  rw [spec_ReadInsText.j2, if_neg (by decide), hT]
  simp only [Option.bind_some]
  obtain ⟨r, hr, hF, hE, hZ⟩ := spec_l3Fits_eq s (tmplT c.toNat cb) hs hsz (k := k) (by omega)
  rw [hr]
  simp only [Option.bind_some]
  have parts : ∀ m, rightIns s c cb m → (holed (tmplT c.toNat cb) = false ∧ m = 0 ∧ r = (⟨#[]⟩, true)) ∨ (holed (tmplT c.toNat cb) = true ∧ ∃ F : ByteArray, F.size ≠ 0 ∧ r = (F, true) ∧ ((holeAt (tmplT c.toNat cb)).2 = pN16 ∨ (holeAt (tmplT c.toNat cb)).2 = pN8 ∨ (holeAt (tmplT c.toNat cb)).2 = pE8) ∧ (0 ≤ m ∧ m ≤ 65535) ∧ ((holeAt (tmplT c.toNat cb)).2 ≠ pN16 → m ≤ 255) ∧ F = fillT (holeAt (tmplT c.toNat cb)).2 m) := by
    intro m h
    obtain ⟨_, _, h3⟩ := right_parts h
    rcases h3 with ⟨g, h4, h5⟩ | ⟨g, _, h5, h6, h7⟩
    · exact .inl ⟨g, h4, hE g h5⟩
    · have hz := (fill_read (hole_kinds g) h5 h6 rfl).1
      exact .inr ⟨g, _, hz, hF _ g hz h7, hole_kinds g, h5, h6, rfl⟩
  by_cases c1 : r.2 = true
  · rw [if_pos c1]
    have h0 : s.size ≠ 0 := by
      intro h0
      rw [hZ h0 ht] at c1
      cases c1
    by_cases c2 : r.1.toList = ([] : List UInt8)
    · rw [if_pos c2, spec_InsText_eq c cb 0 (by omega)]
      simp only [Option.bind_some]
      by_cases c3 : (insTextP c cb 0).toList = s.toList
      · rw [if_pos c3, rdIns_right h0 hs (right_of h0 c3)]
      · rw [if_neg c3]
        apply hnext
        intro m _ h
        rcases parts m h with ⟨_, rfl, _⟩ | ⟨_, F, hz, hr2, _⟩
        · rw [h.2] at c3
          exact c3 rfl
        · rw [hr2] at c2
          exact hz (size_zero.1 c2)
    · rw [if_neg c2]
      obtain ⟨v, hv, hvm⟩ := spec_l3Imm_eq r.1 (k := k) (by omega)
      rw [hv]
      simp only [Option.bind_some]
      rw [spec_InsText_eq c cb v (by omega)]
      simp only [Option.bind_some]
      by_cases c3 : (insTextP c cb v).toList = s.toList
      · rw [if_pos c3, rdIns_right h0 hs (right_of h0 c3)]
      · rw [if_neg c3]
        apply hnext
        intro m _ h
        rcases parts m h with ⟨_, _, hr2⟩ | ⟨_, F, hz, hr2, q1, q2, q3, q4⟩
        · rw [hr2] at c2
          exact c2 (size_zero.2 rfl)
        · have : v = m := hvm _ m q1 q2 q3 (by rw [hr2]; exact q4)
          rw [this, h.2] at c3
          exact c3 rfl
  · rw [if_neg c1]
    apply hnext
    intro m _ h
    apply c1
    rcases parts m h with ⟨_, _, hr2⟩ | ⟨_, F, _, hr2, _⟩ <;> rw [hr2]
theorem tmplT_at (x : Nat) (hx : x < 512) : tmplT (Int.tmod (x : Int) 256).toNat (decide ((x : Int) ≥ 256)) = tAt x ∧ (0 ≤ Int.tmod (x : Int) 256 ∧ Int.tmod (x : Int) 256 < 256) ∧ idx (Int.tmod (x : Int) 256) (decide ((x : Int) ≥ 256)) = x := by
  have e : Int.tmod (x : Int) 256 = ((x % 256 : Nat) : Int) := by rw [Int.tmod_eq_emod_of_nonneg (by omega)]; omega
  have e2 : decide ((x : Int) ≥ 256) = decide (256 ≤ x) := by
    by_cases h : 256 ≤ x
    · rw [decide_eq_true h, decide_eq_true (by omega : (x : Int) ≥ 256)]
    · rw [decide_eq_false h, decide_eq_false (by omega : ¬ (x : Int) ≥ 256)]
  rw [e, e2]
  refine ⟨by unfold tAt; rw [Int.toNat_natCast], by omega, ?_⟩
  unfold idx
  rw [Int.toNat_natCast]
  by_cases h : 256 ≤ x
  · rw [decide_eq_true h, if_pos rfl]
    omega
  · rw [decide_eq_false h, if_neg (by decide)]
    omega
theorem spec_RIT_l0 (s : ByteArray) (hs : s.size ≤ 20) : ∀ (n k x : Nat), x + n = 512 → 3 * n + 5200 ≤ k → (∀ c cb m, s.size ≠ 0 → rightIns s c cb m → x ≤ idx c cb) → spec_ReadInsText.l0 k s (x : Int) = some (rdIns s) := by
  intro n
  induction n with
  | zero =>
    intro k x hx hk hinv
    obtain ⟨k, rfl⟩ : ∃ j, k = j + 2 := ⟨k - 2, by omega⟩
    rw [spec_ReadInsText.l0, if_neg (by omega), spec_ReadInsText.j1, if_neg (by decide)]
    refine congrArg some (rdIns_none fun c cb m h0 _ h => ?_)
    have h1 := hinv c cb m h0 h
    have h2 := (tAt_idx (right_parts h).1 cb).2
    omega
  | succ n ih =>
    intro k x hx hk hinv
    obtain ⟨k, rfl⟩ : ∃ j, k = j + 3 := ⟨k - 3, by omega⟩
    obtain ⟨t1, t2, t3⟩ := tmplT_at x (by omega)
    have hw : wrap64 ((x : Int) + 1) = ((x + 1 : Nat) : Int) := by rw [w64 (by omega) (by omega)]; omega
    rw [spec_ReadInsText.l0, if_pos (by omega), decide_eq_true (by omega : (s.size : Int) ≤ 20), spec_ReadInsText.j1, if_pos rfl]
    have next : (∀ m, s.size ≠ 0 → ¬ rightIns s (Int.tmod (x : Int) 256) (decide ((x : Int) ≥ 256)) m) → spec_ReadInsText.l0 k s (wrap64 ((x : Int) + 1)) = some (rdIns s) := by
      intro hno
      rw [hw]
      refine ih k (x + 1) (by omega) (by omega) ?_
      intro c cb m h0 h
      have h1 := hinv c cb m h0 h
      by_cases he : idx c cb = x
      · exfalso
        obtain ⟨rfl, rfl⟩ := idx_inj (right_parts h).1 t2 (he.trans t3.symm)
        exact hno m h0 h
      · omega
    by_cases h256 : (x : Int) ≥ 256
    · rw [if_pos h256]
      exact spec_RIT_j2 s hs x (by omega) _ _ t2 (by rw [t1]; exact cb_full x (by omega) (by omega)) (by omega) next
    · rw [if_neg h256, spec_l3Length_eq _ false t2 (by omega)]
      simp only [Option.bind_some]
      have hcb : decide ((x : Int) ≥ 256) = false := decide_eq_false h256
      by_cases hz : (tmplT (Int.tmod (x : Int) 256).toNat false).size = 0
      · rw [(lenT_zero _ false).2 hz, show ((0 : Int) == 0) = true from rfl, spec_ReadInsText.j2, if_pos rfl]
        apply next
        intro m _ h
        rw [hcb] at h
        exact (right_parts h).2.1 hz
      · rw [show (lenT (tmplT (Int.tmod (x : Int) 256).toNat false) false == 0) = false from beq_eq_false_iff_ne.2 (fun e => hz ((lenT_zero _ false).1 e))]
        exact spec_RIT_j2 s hs x (by omega) _ _ t2 (by rw [hcb]; exact hz) (by omega) next
theorem spec_ReadInsText_eq (s : ByteArray) {k : Nat} (hk : 7000 ≤ k) : spec_ReadInsText.f k s = some (rdIns s) := by
  unfold spec_ReadInsText.f
  by_cases hs : s.size ≤ 20
  · exact spec_RIT_l0 s hs 512 k 0 (by omega) (by omega) (fun _ _ _ _ _ => Nat.zero_le _)
  · obtain ⟨k, rfl⟩ : ∃ j, k = j + 2 := ⟨k - 2, by omega⟩
    rw [spec_ReadInsText.l0, if_pos (by decide), decide_eq_false (by omega : ¬ (s.size : Int) ≤ 20), spec_ReadInsText.j1, if_neg (by decide)]
    exact congrArg some (rdIns_none fun c cb m h0 h1 h => hs h1)
/-- What the program finds among the templates without a hole. -/
def wholeGood (s : ByteArray) (r : Int × Bool × Int × Bool) : Prop := (r.2.2.2 = true ∧ rightIns s r.1 r.2.1 r.2.2.1) ∨ (r.2.2.2 = false ∧ ∀ c cb m, rightIns s c cb m → holed (tmplT c.toNat cb) = true)
theorem right_whole {s : ByteArray} {c : Int} {cb : Bool} (hc : 0 ≤ c ∧ c < 256) (hz : (tmplT c.toNat cb).size ≠ 0) (hs : tmplT c.toNat cb = s) (hh : (holeAt (tmplT c.toNat cb)).2 = ⟨#[]⟩) : rightIns s c cb 0 := by
  have hok : insOkP c cb 0 = true := by
    unfold insOkP
    rw [if_pos hc]
    unfold insOkT
    rw [if_neg hz, if_pos hh]
    rfl
  refine ⟨hok, ?_⟩
  unfold insTextP
  rw [if_pos hok]
  simp only [hh, if_true]
  exact hs
theorem impl_whole_l1 (s : ByteArray) (cb : Bool) (i : Int) (base : Nat) (hb : base = if cb = true then 256 else 0) (K : Nat) (hend : ∀ k, K ≤ k → (∀ c cb' m, rightIns s c cb' m → holed (tmplT c.toNat cb') = false → base + 256 ≤ idx c cb') → ∃ r, impl_wholeIns.l0 k s [false, true] 2 (wrap64 (i + 1)) = some r ∧ wholeGood s r) :
    ∀ (n k x : Nat), x + n = 256 → n + K + 20 ≤ k → (∀ c cb' m, rightIns s c cb' m → holed (tmplT c.toNat cb') = false → base + x ≤ idx c cb') → ∃ r, impl_wholeIns.l1 k s cb [false, true] 2 i (x : Int) = some r ∧ wholeGood s r := by
  intro n
  induction n with
  | zero =>
    intro k x hx hk hinv
    obtain ⟨k, rfl⟩ : ∃ j, k = j + 1 := ⟨k - 1, by omega⟩
    obtain rfl : x = 256 := by omega
    rw [impl_wholeIns.l1, if_neg (by omega)]
    exact hend k (by omega) hinv
  | succ n ih =>
    intro k x hx hk hinv
    obtain ⟨k, rfl⟩ : ∃ j, k = j + 1 := ⟨k - 1, by omega⟩
    have hw : wrap64 ((x : Int) + 1) = ((x + 1 : Nat) : Int) := by rw [w64 (by omega) (by omega)]; omega
    have hc : 0 ≤ (x : Int) ∧ (x : Int) < 256 := by omega
    have hsz := tmplT_size x (by omega) cb
    rw [impl_wholeIns.l1, if_pos (by omega)]
    unfold impl_TemplateOf.f
    rw [if_pos hc, Int.toNat_natCast]
    simp only [Option.bind_some]
    rw [hw]
    have hi : idx (x : Int) cb = base + x := by
      unfold idx
      rw [Int.toNat_natCast, hb]
      omega
    have next : (∀ m, rightIns s (x : Int) cb m → holed (tmplT x cb) = false → False) → ∃ r, impl_wholeIns.l1 k s cb [false, true] 2 i ((x + 1 : Nat) : Int) = some r ∧ wholeGood s r := by
      intro hno
      refine ih k (x + 1) (by omega) (by omega) ?_
      intro c cb' m h hh
      have h1 := hinv c cb' m h hh
      by_cases he : idx c cb' = base + x
      · exfalso
        obtain ⟨rfl, rfl⟩ := idx_inj (right_parts h).1 hc (he.trans hi.symm)
        rw [Int.toNat_natCast] at hh
        exact hno m h hh
      · omega
    by_cases hz : (tmplT x cb).toList = ([] : List UInt8)
    · rw [if_pos hz]
      apply next
      intro m h _
      exact (right_parts h).2.1 (by rw [Int.toNat_natCast]; exact size_zero.1 hz)
    · rw [if_neg hz]
      by_cases hs : (tmplT x cb).toList = s.toList
      · rw [if_pos hs, impl_holeOf_eq _ (by omega) (by omega)]
        simp only [Option.bind_some]
        by_cases hh : (holeAt (tmplT x cb)).2.toList = ([] : List UInt8)
        · rw [if_pos hh]
          exact ⟨_, rfl, .inl ⟨rfl, right_whole hc (fun e => hz (size_zero.2 (by rw [← e, Int.toNat_natCast]))) (by rw [Int.toNat_natCast]; exact toList_inj hs) (by rw [Int.toNat_natCast]; exact (list_of _ _).1 hh)⟩⟩
        · rw [if_neg hh]
          apply next
          intro m _ h2
          unfold holed at h2
          rw [decide_eq_false_iff_not, Decidable.not_not] at h2
          exact hh ((list_of _ _).2 h2)
      · rw [if_neg hs]
        apply next
        intro m h h2
        obtain ⟨_, _, h3⟩ := right_parts h
        rw [Int.toNat_natCast] at h3
        rcases h3 with ⟨_, _, h5⟩ | ⟨h4, _⟩
        · exact hs (by rw [h5])
        · rw [h2] at h4
          cases h4
theorem impl_wholeIns_eq (s : ByteArray) {k : Nat} (hk : 1000 ≤ k) : ∃ r, impl_wholeIns.f k s = some r ∧ wholeGood s r := by
  obtain ⟨k, rfl⟩ : ∃ j, k = j + 1 := ⟨k - 1, by omega⟩
  unfold impl_wholeIns.f
  simp only [Option.bind_some]
  show ∃ r, impl_wholeIns.l0 (k + 1) s [false, true] 2 0 = some r ∧ _
  rw [impl_wholeIns.l0, if_pos (by decide), if_pos (by decide), if_pos (by decide), show rdOf false [false, true] 0 = false from rfl]
  refine impl_whole_l1 s false 0 0 rfl 400 ?_ 256 k 0 (by omega) (by omega) (fun _ _ _ _ _ => Nat.zero_le _)
  intro k' hk' hinv
  obtain ⟨k', rfl⟩ : ∃ j, k' = j + 1 := ⟨k' - 1, by omega⟩
  rw [show wrap64 (0 + 1) = 1 from by rw [w64 (by omega) (by omega)]; rfl, impl_wholeIns.l0, if_pos (by decide), if_pos (by decide), if_pos (by decide), show rdOf false [false, true] 1 = true from rfl]
  refine impl_whole_l1 s true 1 256 rfl 10 ?_ 256 k' 0 (by omega) (by omega) hinv
  intro k'' hk'' hinv'
  obtain ⟨k'', rfl⟩ : ∃ j, k'' = j + 1 := ⟨k'' - 1, by omega⟩
  rw [show wrap64 (1 + 1) = 2 from by rw [w64 (by omega) (by omega)]; rfl, impl_wholeIns.l0, if_neg (by decide)]
  refine ⟨_, rfl, .inr ⟨rfl, fun c cb m h => ?_⟩⟩
  cases hh : holed (tmplT c.toNat cb) with
  | true => rfl
  | false =>
    have h1 := hinv' c cb m h hh
    have h2 := (tAt_idx (right_parts h).1 cb).2
    omega
theorem strings_CutPrefix_eq (s a : ByteArray) : ∃ r, strings_CutPrefix.f s a = some r ∧ r.1.size ≤ s.size ∧ ∀ R, s.data.toList = a.data.toList ++ R → r = (⟨R.toArray⟩, true) := by
  unfold strings_CutPrefix.f stringslite_CutPrefix.f stringslite_HasPrefix.f
  by_cases h1 : (s.size : Int) ≥ (a.size : Int)
  · rw [if_pos h1, if_pos (by omega), if_pos (by omega), Int.toNat_natCast]
    simp only [Option.bind_some]
    by_cases h2 : (s.extract 0 a.size).toList = a.toList
    · rw [if_pos (beq_iff_eq.2 h2), if_pos (by omega), if_pos (by omega)]
      simp only [Option.bind_some]
      refine ⟨_, rfl, by show (s.extract _ _).size ≤ _; rw [ByteArray.size_extract]; omega, fun R e => Prod.ext (ByteArray.ext (Array.toList_inj.1 ?_)) rfl⟩
      show (s.extract a.size s.size).data.toList = R
      rw [ext_from, e, ← len_list, List.drop_left]
    · rw [if_neg (fun e => h2 (beq_iff_eq.1 e))]
      simp only [Option.bind_some]
      refine ⟨_, rfl, Nat.le_refl _, fun R e => ?_⟩
      exfalso
      apply h2
      rw [show s.extract 0 a.size = a from ByteArray.ext (Array.toList_inj.1 (by rw [Go.Lib.extract_from_zero, e, ← len_list, List.take_left]))]
  · rw [if_neg h1]
    simp only [Option.bind_some]
    rw [if_neg (by decide)]
    refine ⟨_, rfl, Nat.le_refl _, fun R e => ?_⟩
    exfalso
    have := congrArg List.length e
    rw [len_list, List.length_append, len_list] at this
    omega
theorem strings_CutSuffix_eq (s b : ByteArray) (hs : s.size ≤ 1048576) (hb : b.size ≤ 1048576) : ∃ r, strings_CutSuffix.f s b = some r ∧ r.1.size ≤ s.size ∧ ∀ F : ByteArray, s.data.toList = F.data.toList ++ b.data.toList → r = (F, true) := by
  unfold strings_CutSuffix.f stringslite_CutSuffix.f stringslite_HasSuffix.f
  by_cases h1 : (s.size : Int) ≥ (b.size : Int)
  · rw [if_pos h1, w64 (by omega) (by omega), if_pos (by omega), if_pos (by omega), show ((s.size : Int) - (b.size : Int)).toNat = s.size - b.size by omega]
    simp only [Option.bind_some]
    by_cases h2 : (s.extract (s.size - b.size) s.size).toList = b.toList
    · rw [if_pos (beq_iff_eq.2 h2), if_pos (by omega), if_pos (by omega)]
      simp only [Option.bind_some]
      refine ⟨_, rfl, by show (s.extract _ _).size ≤ _; rw [ByteArray.size_extract]; omega, fun F e => Prod.ext (ByteArray.ext (Array.toList_inj.1 ?_)) rfl⟩
      have hl := congrArg List.length e
      rw [len_list, List.length_append, len_list, len_list] at hl
      show (s.extract 0 (s.size - b.size)).data.toList = _
      rw [Go.Lib.extract_from_zero, e, show s.size - b.size = F.data.toList.length by rw [len_list]; omega, List.take_left]
    · rw [if_neg (fun e => h2 (beq_iff_eq.1 e))]
      simp only [Option.bind_some]
      refine ⟨_, rfl, Nat.le_refl _, fun F e => ?_⟩
      exfalso
      apply h2
      have hl := congrArg List.length e
      rw [len_list, List.length_append, len_list, len_list] at hl
      rw [show s.extract (s.size - b.size) s.size = b from ByteArray.ext (Array.toList_inj.1 (by rw [ext_from, e, show s.size - b.size = F.data.toList.length by rw [len_list]; omega, List.drop_left]))]
  · rw [if_neg h1]
    simp only [Option.bind_some]
    rw [if_neg (by decide)]
    refine ⟨_, rfl, Nat.le_refl _, fun F e => ?_⟩
    exfalso
    have := congrArg List.length e
    rw [len_list, List.length_append, len_list, len_list] at this
    omega
/-- What stands in the place of a template's hole, as the program reads it. -/
theorem impl_inHole_eq (t s : ByteArray) (ht : t.size ≤ 100) (hs : s.size ≤ 20) (hz : (holeAt t).2 ≠ ⟨#[]⟩) : ∃ r, impl_inHole.f t (holeAt t).2 s = some r ∧ r.1.size ≤ 20 ∧ ∀ F : ByteArray, s.data.toList = headT t ++ (F.data.toList ++ tailT t) → r = (F, true) := by
  obtain ⟨hx, hx0⟩ := holeAt_at t hz
  obtain ⟨i, hi⟩ : ∃ i : Nat, (holeAt t).1 = (i : Int) := ⟨(holeAt t).1.toNat, by omega⟩
  obtain ⟨e1, e2, _⟩ := Go.Lib.cutB_hit t (holeAt t).2 i (by rw [← hi, hx]; first | done | rfl)
  unfold impl_inHole.f strings_Cut.f
  rw [if_pos (by omega)]
  simp only [Option.bind_some]
  rw [e1, e2]
  obtain ⟨p, hp, hps, hpR⟩ := strings_CutPrefix_eq s (t.extract 0 i)
  rw [hp]
  simp only [Option.bind_some]
  have hbz : (t.extract (i + (holeAt t).2.size) t.size).size ≤ 1048576 := by rw [ByteArray.size_extract]; omega
  obtain ⟨q, hq, hqs, hqF⟩ := strings_CutSuffix_eq p.1 (t.extract (i + (holeAt t).2.size) t.size) (by omega) hbz
  rw [hq]
  simp only [Option.bind_some]
  have hH : headT t = (t.extract 0 i).data.toList := by unfold headT; rw [hi, Int.toNat_natCast, Go.Lib.extract_from_zero]
  have hT : tailT t = (t.extract (i + (holeAt t).2.size) t.size).data.toList := by unfold tailT; rw [hi, Int.toNat_natCast, ext_from]
  by_cases c : p.2 = true
  · rw [if_pos c]
    refine ⟨_, rfl, by show q.1.size ≤ 20; omega, fun F e => ?_⟩
    rw [hH] at e
    have := hpR _ e
    rw [this] at hqF
    rw [hqF F (by rw [hT])]
  · rw [if_neg c]
    refine ⟨_, rfl, by show q.1.size ≤ 20; omega, fun F e => ?_⟩
    exfalso
    rw [hH] at e
    rw [hpR _ e] at c
    exact c rfl
theorem parse_same (w : ByteArray) (hw : w.size ≤ 1048576) : ∃ r, strconv_ParseInt.f w 10 64 = some r ∧ ∀ v, Go.Lib.parseIntB 64 w.data.toList = .ok v → r = (v, none) := by
  unfold strconv_ParseInt.f
  rw [if_pos rfl, if_pos rfl, if_pos (by omega)]
  cases Go.Lib.parseIntB 64 w.data.toList with
  | ok v => exact ⟨_, rfl, fun u e => by injection e with e; rw [e]⟩
  | _ => exact ⟨_, rfl, fun u e => by cases e⟩
theorem impl_RIT_l0 (s : ByteArray) (hs : s.size ≤ 20) (h0 : s.size ≠ 0) : ∀ (n k x : Nat), x + n = 256 → n + 5200 ≤ k → (∀ c cb m, rightIns s c cb m → cb = false ∧ holed (tmplT c.toNat cb) = true ∧ x ≤ c.toNat) → impl_ReadInsText.l0 k s (x : Int) = some (rdIns s) := by
  intro n
  induction n with
  | zero =>
    intro k x hx hk hinv
    obtain ⟨k, rfl⟩ : ∃ j, k = j + 1 := ⟨k - 1, by omega⟩
    rw [impl_ReadInsText.l0, if_neg (by omega)]
    refine congrArg some (rdIns_none fun c cb m _ _ h => ?_)
    have h1 := (hinv c cb m h).2.2
    have h2 := (right_parts h).1
    omega
  | succ n ih =>
    intro k x hx hk hinv
    obtain ⟨k, rfl⟩ : ∃ j, k = j + 1 := ⟨k - 1, by omega⟩
    have hw : wrap64 ((x : Int) + 1) = ((x + 1 : Nat) : Int) := by rw [w64 (by omega) (by omega)]; omega
    have hc : 0 ≤ (x : Int) ∧ (x : Int) < 256 := by omega
    have hsz := tmplT_size x (by omega) false
    have next : (∀ m, ¬ rightIns s (x : Int) false m) → impl_ReadInsText.l0 k s ((x + 1 : Nat) : Int) = some (rdIns s) := by
      intro hno
      refine ih k (x + 1) (by omega) (by omega) ?_
      intro c cb m h
      obtain ⟨q1, q2, q3⟩ := hinv c cb m h
      refine ⟨q1, q2, ?_⟩
      by_cases he : c.toNat = x
      · exfalso
        have := (right_parts h).1
        obtain rfl : c = (x : Int) := by omega
        rw [q1] at h
        exact hno m h
      · omega
    rw [impl_ReadInsText.l0, if_pos (by omega)]
    unfold impl_TemplateOf.f
    rw [if_pos hc, Int.toNat_natCast]
    simp only [Option.bind_some]
    rw [impl_holeOf_eq _ (by omega) (by omega), hw]
    simp only [Option.bind_some]
    by_cases hh : (holeAt (tmplT x false)).2.toList = ([] : List UInt8)
    · rw [if_pos hh]
      apply next
      intro m h
      have := (hinv _ _ _ h).2.1
      rw [Int.toNat_natCast] at this
      unfold holed at this
      rw [decide_eq_true_eq] at this
      exact this ((list_of _ _).1 hh)
    · rw [if_neg hh]
      have hz : (holeAt (tmplT x false)).2 ≠ ⟨#[]⟩ := fun e => hh ((list_of _ _).2 e)
      have hkind : (holeAt (tmplT x false)).2 = pN16 ∨ (holeAt (tmplT x false)).2 = pN8 ∨ (holeAt (tmplT x false)).2 = pE8 := by
        rcases holeAt_kind (tmplT x false) with hp | hp | hp | hp
        · exact .inl hp
        · exact .inr (.inl hp)
        · exact .inr (.inr hp)
        · exact absurd hp hz
      obtain ⟨r, hr, hrs, hrF⟩ := impl_inHole_eq (tmplT x false) s hsz hs hz
      rw [hr]
      simp only [Option.bind_some]
      have parts : ∀ m, rightIns s (x : Int) false m → (r = (fillT (holeAt (tmplT x false)).2 m, true)) ∧ (0 ≤ m ∧ m ≤ 65535) ∧ ((holeAt (tmplT x false)).2 ≠ pN16 → m ≤ 255) := by
        intro m h
        have hq := (hinv _ _ _ h).2.1
        obtain ⟨_, _, h3⟩ := right_parts h
        rw [Int.toNat_natCast] at h3 hq
        rcases h3 with ⟨g, _⟩ | ⟨g, _, h5, h6, h7⟩
        · rw [g] at hq
          cases hq
        · exact ⟨hrF _ h7, h5, h6⟩
      by_cases c1 : r.2 = true
      · rw [if_pos c1, impl_ReadNum_eq _ (by omega)]
        simp only [Option.bind_some]
        by_cases c8 : (holeAt (tmplT x false)).2.toList = ([101, 56] : List UInt8)
        · rw [if_pos c8]
          have hp8 : (holeAt (tmplT x false)).2 = pE8 := (list_of _ _).1 c8
          obtain ⟨u, hu, huv⟩ := parse_same r.1 (by omega)
          rw [hu]
          simp only [Option.bind_some]
          have found : ∀ m, rightIns s (x : Int) false m → u = (sgn m, none) ∧ 0 ≤ m ∧ m ≤ 255 := by
            intro m h
            obtain ⟨p1, p2, p3⟩ := parts m h
            have h255 := p3 (by rw [hp8]; decide)
            have hi := sgn_at ⟨p2.1, h255⟩
            refine ⟨huv _ ?_, p2.1, h255⟩
            rw [p1]
            show Go.Lib.parseIntB 64 (fillT _ m).data.toList = _
            rw [hp8]
            unfold fillT
            rw [if_neg (by decide), if_neg (by decide)]
            exact parse_itoa (sgn m) (by omega) (by omega)
          by_cases c2 : u.2.isNone = true
          · rw [if_pos c2, impl_within_eq]
            simp only [Option.bind_some]
            by_cases c3 : inR u.1 (-128) 127 = true
            · rw [if_pos c3, impl_InsText_eq _ _ _ (by omega)]
              simp only [Option.bind_some]
              by_cases c4 : (insTextP (x : Int) false (bits .and .i64 u.1 255)).toList = s.toList
              · rw [if_pos c4, rdIns_right h0 hs (right_of h0 c4)]
              · rw [if_neg c4]
                apply next
                intro m h
                obtain ⟨f1, f2, f3⟩ := found m h
                have hb : bits .and .i64 u.1 255 = m := by
                  rw [f1, and255']
                  have hi := sgn_at ⟨f2, f3⟩
                  show sgn m % 256 = m
                  omega
                rw [hb, h.2] at c4
                exact c4 rfl
            · rw [if_neg c3]
              apply next
              intro m h
              obtain ⟨f1, f2, f3⟩ := found m h
              apply c3
              have hi := sgn_at ⟨f2, f3⟩
              rw [f1]
              exact inR_pos (by show -128 ≤ sgn m; omega) (by show sgn m ≤ 127; omega)
          · rw [if_neg c2]
            apply next
            intro m h
            rw [(found m h).1] at c2
            exact c2 rfl
        · rw [if_neg c8]
          have hk2 : (holeAt (tmplT x false)).2 = pN16 ∨ (holeAt (tmplT x false)).2 = pN8 := by
            rcases hkind with hp | hp | hp
            · exact .inl hp
            · exact .inr hp
            · exact absurd ((list_of _ _).2 hp) c8
          have found : ∀ m, rightIns s (x : Int) false m → numOf r.1 = some m := by
            intro m h
            obtain ⟨p1, p2, p3⟩ := parts m h
            rw [p1]
            exact fill_num_hex hk2 p2 p3
          by_cases c2 : (told (numOf r.1)).2 = true
          · rw [if_pos c2, impl_InsText_eq _ _ _ (by omega)]
            simp only [Option.bind_some]
            by_cases c4 : (insTextP (x : Int) false (told (numOf r.1)).1).toList = s.toList
            · rw [if_pos c4, rdIns_right h0 hs (right_of h0 c4)]
            · rw [if_neg c4]
              apply next
              intro m h
              rw [found m h] at c4
              exact c4 (by show (insTextP _ _ m).toList = _; rw [h.2])
          · rw [if_neg c2]
            apply next
            intro m h
            rw [found m h] at c2
            exact c2 rfl
      · rw [if_neg c1]
        apply next
        intro m h
        rw [(parts m h).1] at c1
        exact c1 rfl
theorem impl_ReadInsText_eq (s : ByteArray) {k : Nat} (hk : 7000 ≤ k) : impl_ReadInsText.f k s = some (rdIns s) := by
  obtain ⟨k, rfl⟩ : ∃ j, k = j + 1 := ⟨k - 1, by omega⟩
  unfold impl_ReadInsText.f
  by_cases hs : (s.size : Int) > 20
  · rw [if_pos hs, impl_ReadInsText.j0, if_pos rfl]
    exact congrArg some (rdIns_none fun c cb m h0 h1 h => by omega)
  · rw [if_neg hs]
    by_cases h0 : s.size = 0
    · rw [show (s.toList == ([] : List UInt8)) = true from beq_iff_eq.2 (size_zero.2 h0), impl_ReadInsText.j0, if_pos rfl]
      exact congrArg some (rdIns_none fun c cb m h1 _ h => h1 h0)
    · rw [show (s.toList == ([] : List UInt8)) = false from beq_eq_false_iff_ne.2 (fun e => h0 (size_zero.1 e)), impl_ReadInsText.j0, if_neg (by decide)]
      obtain ⟨r, hr, hg⟩ := impl_wholeIns_eq s (k := k) (by omega)
      rw [hr]
      simp only [Option.bind_some]
      rcases hg with ⟨g1, g2⟩ | ⟨g1, g2⟩
      · rw [if_pos g1]
        exact congrArg some (rdIns_right h0 (by omega) g2)
      · rw [if_neg (by rw [g1]; decide)]
        refine impl_RIT_l0 s (by omega) h0 256 k 0 (by omega) (by omega) ?_
        intro c cb m h
        have hh := g2 c cb m h
        refine ⟨?_, hh, Nat.zero_le _⟩
        obtain ⟨e1, e2⟩ := tAt_idx (right_parts h).1 cb
        rw [← e1] at hh
        have := (holed_shape _ e2 hh).1
        cases cb with
        | false => rfl
        | true =>
          unfold idx at this
          simp at this

theorem FnExactReadInsText (s : ByteArray) (h : s.size ≤ maxLen) : ∃ k, laws_FnExactReadInsText.f k s = some true := by
  refine ⟨7000, ?_⟩
  unfold laws_FnExactReadInsText.f
  by_cases hb : (s.size : Int) > 1048576
  · rw [if_pos hb]
  · rw [if_neg hb, spec_ReadInsText_eq s (by decide)]
    simp only [Option.bind_some]
    rw [impl_ReadInsText_eq s (by decide)]
    simp only [Option.bind_some]
    unfold laws_eqIns.f
    rw [if_pos rfl, if_neg (by rw [bne_self_eq_false]; decide), if_pos rfl]
    simp only [Option.bind_some]
    simp

end Go.Proofs.YtmiebnpmckjidaaGreatDoor.Pure
