/-
The law FnExactReadNum of the given program returns true for every input; no condition.
-/
import Derived.Test.YtnchhhafdkpmaaaPFnExactReadNumx2
import Derived.Test.YtnchhhafdkpmaaaAidA
import Derived.Test.YtnchhhafdkpmaaaAidB
import Derived.Test.YtnchhhafdkpmaaaAidC
namespace Go.Proofs.Ytnchhhafdkpmaaa.Pure
open Go.RowKit Go.Proofs.Ytnchhhafdkpmaaa.Aid Go.Proofs.Ytnchhhafdkpmaaa.PFnExactReadNum Go.Proofs.YtnchhhafdkpmaaaW.PrintWords Go.Proofs.YtnchhhafdkpmaaaW.PrintLast Go.Proofs.YtnchhhafdkpmaaaW.PrintMore
set_option linter.unusedVariables false
set_option linter.unusedSimpArgs false

theorem spec_l1Digit_eq {k : Nat} (hk : 1 ≤ k) {c : Int} (h0 : 0 ≤ c) (h1 : c ≤ 255) : spec_l1Digit.f k c = some (dig c) := by
  obtain ⟨k, rfl⟩ : ∃ m, k = m + 1 := ⟨k - 1, by omega⟩
  unfold spec_l1Digit.f dig
  simp only [spec_l1Digit.j0]
  by_cases a1 : 48 ≤ c ∧ c ≤ 57
  · rw [if_pos a1.1, decide_eq_true a1.2, if_pos rfl, inR_pos a1.1 a1.2, if_pos rfl]
    congr 1
    omega
  · rw [inR_neg a1]
    have e : (if c ≥ 48 then (if decide (c ≤ 57) = true then some ((c - 48) % 256) else if c ≥ 65 then if c ≤ 70 then some ((c - 65) % 256 + 10) else some 99 else some 99) else if false = true then some ((c - 48) % 256) else if c ≥ 65 then if c ≤ 70 then some ((c - 65) % 256 + 10) else some 99 else some 99) = (if c ≥ 65 then if c ≤ 70 then some ((c - 65) % 256 + 10) else some 99 else some 99) := by
      by_cases b1 : c ≥ 48
      · rw [if_pos b1, decide_eq_false (by omega)]
        rfl
      · rw [if_neg b1]
        rfl
    rw [e]
    by_cases a2 : 65 ≤ c ∧ c ≤ 70
    · rw [if_pos a2.1, if_pos a2.2, inR_pos a2.1 a2.2]
      simp only [Bool.false_eq_true, if_false, if_true]
      congr 1
      omega
    · rw [inR_neg a2]
      simp only [Bool.false_eq_true, if_false]
      by_cases b2 : c ≥ 65
      · rw [if_pos b2, if_neg (by omega)]
      · rw [if_neg b2]

theorem spec_l1Base_l0 (s : ByteArray) (hs : s.size ≤ 1048576) (base : Int) (hb : 0 ≤ base ∧ base ≤ 16) : ∀ (n k i : Nat) (acc : Int), i + n = s.size → n + 5 ≤ k → 0 ≤ acc → acc ≤ 65535 →
    spec_l1Base.l0 k s base acc (i : Int) = some (match baseGo base s n i acc with | none => (0, false) | some v => (v, s.toList != ([] : List UInt8))) := by
  intro n
  induction n with
  | zero =>
    intro k i acc hi hk h0 h1
    obtain ⟨k, rfl⟩ : ∃ m, k = m + 1 := ⟨k - 1, by omega⟩
    simp only [spec_l1Base.l0, baseGo]
    rw [if_neg (by omega)]
  | succ n ih =>
    intro k i acc hi hk h0 h1
    obtain ⟨k, rfl⟩ : ∃ m, k = m + 1 := ⟨k - 1, by omega⟩
    have hd := dig_nonneg (c := bt s (i : Int))
    have hm : 0 ≤ acc * base := Int.mul_nonneg h0 hb.1
    have hM : acc * base ≤ 65535 * 16 := Int.mul_le_mul h1 hb.2 hb.1 (by decide)
    simp only [spec_l1Base.l0, baseGo]
    rw [if_pos (by omega), if_pos (by omega), spec_l1Digit_eq (by omega) (bt_nonneg _ _) (bt_le _ _), w64 (n := acc * base) (by omega) (by omega), up1 (by omega : i < s.size) (by omega)]
    simp only [Option.bind_some]
    rw [w64 (n := acc * base + dig (bt s (i : Int))) (by omega) (by omega)]
    by_cases c1 : dig (bt s (i : Int)) ≥ base
    · rw [if_pos c1, if_pos c1]
    · rw [if_neg c1, if_neg c1]
      by_cases c2 : acc * base + dig (bt s (i : Int)) > 65535
      · rw [if_pos c2, if_pos c2]
      · rw [if_neg c2, if_neg c2]
        exact ih k (i + 1) _ (by omega) (by omega) (by omega) (by omega)
theorem spec_l1Base_eq (s : ByteArray) (hs : s.size ≤ 1048576) {base : Int} (hb : 0 ≤ base ∧ base ≤ 16) {k : Nat} (hk : s.size + 5 ≤ k) : spec_l1Base.f k s base = some (told (baseOf base s)) := by
  unfold spec_l1Base.f baseOf
  have h := spec_l1Base_l0 s hs base hb s.size k 0 0 (by omega) (by omega) (by omega) (by omega)
  rw [show ((0 : Nat) : Int) = 0 from rfl] at h
  rw [h]
  by_cases hz : s.size = 0
  · rw [if_pos hz, size_zero.2 hz, hz]
    rfl
  · rw [if_neg hz]
    have hne : (s.toList != ([] : List UInt8)) = true := by
      rw [bne_iff_ne]
      exact fun h => hz (size_zero.1 h)
    cases baseGo base s s.size 0 0 with
    | none => rfl
    | some v => simp [told, hne]

theorem spec_ReadNum_eq (s : ByteArray) {k : Nat} (hk : 40 ≤ k) : spec_ReadNum.f k s = some (told (numOf s)) := by
  obtain ⟨k, rfl⟩ : ∃ m, k = m + 1 := ⟨k - 1, by omega⟩
  unfold spec_ReadNum.f numOf
  simp only [spec_ReadNum.j0]
  by_cases h1 : (s.size : Int) > 18
  · rw [if_pos h1, if_pos h1]
    rfl
  · rw [if_neg h1, if_neg h1]
    by_cases h2 : s.size = 0
    · rw [if_pos h2, size_zero.2 h2]
      rfl
    · have hne : (s.toList == ([] : List UInt8)) = false := by
        rw [beq_eq_false_iff_ne]
        exact fun h => h2 (size_zero.1 h)
      have hx : (s.extract 1 s.size).size ≤ 18 := by simp; omega
      rw [hne, if_neg h2, if_neg (by simp), if_pos (by omega)]
      have p1 : (1 ≤ (s.size : Int)) = True := eq_true (by omega)
      simp only [p1, if_true]
      rw [spec_l1Base_eq _ (by omega) (by decide : (0 : Int) ≤ 16 ∧ (16 : Int) ≤ 16) (by omega), spec_l1Base_eq _ (by omega) (by decide : (0 : Int) ≤ 2 ∧ (2 : Int) ≤ 16) (by omega), spec_l1Base_eq _ (by omega) (by decide : (0 : Int) ≤ 10 ∧ (10 : Int) ≤ 16) (by omega)]
      simp only [Option.bind_some, Prod.eta]
      split
      · rfl
      · split <;> rfl

theorem impl_valueOf_over (s d : ByteArray) (hs : s.size ≤ 1048576) : ∀ (n k i : Nat) (acc : Int), i + n = s.size → n < k → 65535 < acc → ∃ v, impl_valueOf.l0 k s d acc (s.size : Int) (i : Int) = some (v, false) := by
  intro n k i acc hi hk h0
  obtain ⟨k, rfl⟩ : ∃ m, k = m + 1 := ⟨k - 1, by omega⟩
  cases n with
  | zero =>
    simp only [impl_valueOf.l0]
    rw [if_neg (by omega)]
    split
    · exact ⟨_, rfl⟩
    · rw [decide_eq_false (by omega)]
      exact ⟨_, rfl⟩
  | succ n =>
    simp only [impl_valueOf.l0, strings_IndexByte.f]
    rw [if_pos (by omega), if_pos (by omega), if_pos (by omega)]
    simp only [Option.bind_some]
    split
    · exact ⟨_, rfl⟩
    · first | exact ⟨_, rfl⟩ | (rw [if_pos (by omega)]; exact ⟨_, rfl⟩)
theorem impl_valueOf_l0 (s d : ByteArray) (hs : s.size ≤ 1048576) (base : Int) (hb : 2 ≤ base ∧ base ≤ 16) (hd : (d.size : Int) = base) (hi16 : ∀ c : Int, 0 ≤ c → c ≤ 255 → Go.Lib.indexByte d.data.toList c.toNat.toUInt8 = if dig c < base then dig c else -1) :
    ∀ (n k i : Nat) (acc : Int), i + n = s.size → n + 5 ≤ k → 0 ≤ acc → acc ≤ 65535 →
    ∃ v, impl_valueOf.l0 k s d acc (s.size : Int) (i : Int) = some (v, (baseGo base s n i acc).isSome && (s.toList != ([] : List UInt8))) ∧ ∀ u, baseGo base s n i acc = some u → v = u := by
  intro n
  induction n with
  | zero =>
    intro k i acc hi hk h0 h1
    obtain ⟨k, rfl⟩ : ∃ m, k = m + 1 := ⟨k - 1, by omega⟩
    simp only [impl_valueOf.l0, baseGo]
    rw [if_neg (by omega), decide_eq_true h1]
    refine ⟨acc, ?_, fun u hu => Option.some.inj hu⟩
    by_cases hz : s.toList = []
    · rw [if_pos hz, hz]
      rfl
    · rw [if_neg hz]
      simp [hz]
  | succ n ih =>
    intro k i acc hi hk h0 h1
    obtain ⟨k, rfl⟩ : ∃ m, k = m + 1 := ⟨k - 1, by omega⟩
    have hdg := dig_nonneg (c := bt s (i : Int))
    have hm : 0 ≤ acc * base := Int.mul_nonneg h0 (by omega)
    have hM : acc * base ≤ 65535 * 16 := Int.mul_le_mul h1 hb.2 (by omega) (by decide)
    simp only [impl_valueOf.l0, baseGo, strings_IndexByte.f]
    rw [if_pos (by omega), if_pos (by omega), if_pos (by omega), hi16 _ (bt_nonneg _ _) (bt_le _ _), hd]
    simp only [Option.bind_some]
    by_cases c1 : dig (bt s (i : Int)) ≥ base
    · rw [if_neg (by omega : ¬ dig (bt s (i : Int)) < base), if_pos c1]
      exact ⟨0, by simp, fun u hu => by cases hu⟩
    · rw [if_pos (by omega : dig (bt s (i : Int)) < base), if_neg c1, if_neg (by omega), if_neg (by omega), w64 (n := acc * base) (by omega) (by omega), w64 (n := acc * base + dig (bt s (i : Int))) (by omega) (by omega), up1 (by omega : i < s.size) (by omega)]
      by_cases c2 : acc * base + dig (bt s (i : Int)) > 65535
      · rw [if_pos c2]
        obtain ⟨v, hv⟩ := impl_valueOf_over s d hs n k (i + 1) _ (by omega) (by omega) c2
        exact ⟨v, by rw [hv]; rfl, fun u hu => by cases hu⟩
      · rw [if_neg c2]
        exact ih k (i + 1) _ (by omega) (by omega) (by omega) (by omega)
theorem impl_valueOf_eq (s d : ByteArray) (hs : s.size ≤ 1048576) {base : Int} (hb : 2 ≤ base ∧ base ≤ 16) (hd : (d.size : Int) = base) (hi16 : ∀ c : Int, 0 ≤ c → c ≤ 255 → Go.Lib.indexByte d.data.toList c.toNat.toUInt8 = if dig c < base then dig c else -1) {k : Nat} (hk : s.size + 5 ≤ k) :
    ∃ v, impl_valueOf.f k s d = some (v, (baseOf base s).isSome) ∧ ∀ u, baseOf base s = some u → v = u := by
  unfold impl_valueOf.f baseOf
  obtain ⟨v, hv, hu⟩ := impl_valueOf_l0 s d hs base hb hd hi16 s.size k 0 0 (by omega) (by omega) (by omega) (by omega)
  rw [show ((0 : Nat) : Int) = 0 from rfl] at hv
  refine ⟨v, ?_, ?_⟩
  · rw [hv]
    by_cases hz : s.size = 0
    · rw [if_pos hz, size_zero.2 hz]
      simp
    · have hne : (s.toList != ([] : List UInt8)) = true := by
        rw [bne_iff_ne]
        exact fun h => hz (size_zero.1 h)
      rw [if_neg hz, hne, Bool.and_true]
  · intro u h
    by_cases hz : s.size = 0
    · rw [if_pos hz] at h
      cases h
    · rw [if_neg hz] at h
      exact hu u h

--NEEDS stringslite_HasPrefix
theorem strings_HasPrefix_one (s : ByteArray) (c : UInt8) : strings_HasPrefix.f s ⟨#[c]⟩ = some (decide (1 ≤ s.size ∧ bt s 0 = (c.toNat : Int))) := by
  unfold strings_HasPrefix.f stringslite_HasPrefix.f
  have hz : ((⟨#[c]⟩ : ByteArray).size : Int) = 1 := rfl
  rw [hz]
  by_cases h : 1 ≤ s.size
  · rw [if_pos (by omega), if_pos (by decide), if_pos (by omega)]
    have hp := prefix_one s c h
    have e : (⟨#[c]⟩ : ByteArray).toList = [c] := by rw [ByteArray.toList_eq]
    simp only [Option.bind_some]
    rw [show (1 : Int).toNat = 1 from rfl, e, hp]
    simp [h]
  · rw [if_neg (by omega)]
    simp [h]

theorem impl_ReadNum_eq (s : ByteArray) {k : Nat} (hk : 40 ≤ k) : impl_ReadNum.f k s = some (told (numOf s)) := by
  unfold impl_ReadNum.f numOf
  by_cases h1 : (s.size : Int) > 18
  · rw [if_pos h1, if_pos h1]
    rfl
  · rw [if_neg h1, if_neg h1]
    have hx : (s.extract 1 s.size).size ≤ 18 := by simp; omega
    obtain ⟨v1, e1, u1⟩ := impl_valueOf_eq (s.extract 1 s.size) ⟨#[48, 49, 50, 51, 52, 53, 54, 55, 56, 57, 65, 66, 67, 68, 69, 70]⟩ (by omega) (base := 16) (by decide) rfl (fun c a b => idx16 a b) (k := k) (by omega)
    obtain ⟨v2, e2, u2⟩ := impl_valueOf_eq (s.extract 1 s.size) ⟨#[48, 49]⟩ (by omega) (base := 2) (by decide) rfl (fun c a b => idx2 a b) (k := k) (by omega)
    obtain ⟨v3, e3, u3⟩ := impl_valueOf_eq s ⟨#[48, 49, 50, 51, 52, 53, 54, 55, 56, 57]⟩ (by omega) (base := 10) (by decide) rfl (fun c a b => idx10 a b) (k := k) (by omega)
    have fin : ∀ (v : Int) (o : Option Int), (∀ u, o = some u → v = u) → (if o.isSome = true then some (v, true) else some (0, false)) = some (told o) := by
      intro v o h
      cases o with
      | none => rfl
      | some u =>
        rw [h u rfl]
        rfl
    by_cases h2 : s.size = 0
    · have e0 : baseOf 10 s = none := by
        unfold baseOf
        rw [if_pos h2]
      rw [e0] at e3
      rw [if_pos h2, e3]
      have p2 : (1 ≤ s.size) = False := eq_false (by omega)
      rw [strings_HasPrefix_one s 36, strings_HasPrefix_one s 37]
      simp only [p2, false_and, decide_false, Option.bind_some, Bool.false_eq_true, if_false]
      simp [told]
    · rw [if_neg h2]
      have p1 : (1 ≤ (s.size : Int)) = True := eq_true (by omega)
      have p2 : (1 ≤ s.size) = True := eq_true (by omega)
      rw [strings_HasPrefix_one s 36, strings_HasPrefix_one s 37]
      simp only [Option.bind_some, decide_eq_true_eq, p1, p2, true_and, if_true]
      rw [show (((36 : UInt8).toNat : Nat) : Int) = 36 from rfl, show (((37 : UInt8).toNat : Nat) : Int) = 37 from rfl]
      rw [e1, e2, e3]
      simp only [Option.bind_some]
      by_cases c1 : bt s 0 = 36
      · rw [if_pos c1, if_pos c1]
        exact fin v1 _ u1
      · rw [if_neg c1, if_neg c1]
        by_cases c2 : bt s 0 = 37
        · rw [if_pos c2, if_pos c2]
          exact fin v2 _ u2
        · rw [if_neg c2, if_neg c2]
          exact fin v3 _ u3

theorem FnExactReadNum : laws_FnExactReadNum.Pure := by
  intro s hs
  refine ⟨40, ?_⟩
  unfold laws_FnExactReadNum.f
  by_cases h : (s.size : Int) > 1048576
  · rw [if_pos h]
  · rw [if_neg h, spec_ReadNum_eq s (Nat.le_refl _), impl_ReadNum_eq s (Nat.le_refl _)]
    simp

end Go.Proofs.Ytnchhhafdkpmaaa.Pure
