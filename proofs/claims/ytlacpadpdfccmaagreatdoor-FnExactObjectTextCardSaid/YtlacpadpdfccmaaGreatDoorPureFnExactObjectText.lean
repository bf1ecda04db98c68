/-
The law FnExactObjectText, told as a plain function of the object's sections, symbols and asserts, answers true for every input.
-/
import Derived.Test.YtlacpadpdfccmaaGreatDoorPFnExactObjectTextx4
import Derived.Test.YtlacpadpdfccmaaGreatDoorAidA
import Derived.Test.YtlacpadpdfccmaaGreatDoorAidB
import Derived.Test.YtlacpadpdfccmaaGreatDoorAidC
import Derived.Test.YtlacpadpdfccmaaGreatDoorAidL
import Derived.Test.YtlacpadpdfccmaaGreatDoorAidQ
import Derived.Test.YtlacpadpdfccmaaGreatDoorAidH
import Derived.Test.YtlacpadpdfccmaaGreatDoorAidJ
import Derived.Test.YtlacpadpdfccmaaGreatDoorAidO
import Derived.Test.YtlacpadpdfccmaaGreatDoorKinFnExactObjectText
namespace Go.Proofs.YtlacpadpdfccmaaGreatDoor.Pure
open Go.RowKit Go.Proofs.YtlacpadpdfccmaaGreatDoor.Aid Go.Proofs.YtlacpadpdfccmaaGreatDoor.PFnExactObjectText Go.Proofs.YtlacpadpdfccmaaGreatDoorW.PrintWords Go.Proofs.YtlacpadpdfccmaaGreatDoorW.PrintLast Go.Proofs.YtlacpadpdfccmaaGreatDoorW.PrintMore
set_option linter.unusedVariables false
set_option linter.unusedSimpArgs false

theorem spec_l1In_eq (a b c : Int) : spec_l1In.f a b c = some (inR a b c) := by
  unfold spec_l1In.f inR
  by_cases h : a ≥ b
  · rw [if_pos h, decide_eq_true (show b ≤ a from h)]
    rfl
  · rw [if_neg h, decide_eq_false (show ¬ b ≤ a from h)]
    rfl

theorem impl_within_eq (a b c : Int) : impl_within.f a b c = some (inR a b c) := by
  unfold impl_within.f inR
  by_cases h : a ≥ b
  · rw [if_pos h, decide_eq_true (show b ≤ a from h)]
    rfl
  · rw [if_neg h, decide_eq_false (show ¬ b ≤ a from h)]
    rfl

theorem impl_isWord_eq (a : Int) : impl_isWord.f a = some (inR a 0 65535) := by
  unfold impl_isWord.f
  rw [impl_within_eq]
  rfl

theorem spec_l3One_eq (b : Bool) : spec_l3One.f b = some b.toInt := by cases b <;> rfl

theorem spec_l1Letter_eq (c : Int) : spec_l1Letter.f c = some (isLet c) := by
  unfold spec_l1Letter.f isLet inR
  by_cases h1 : c ≥ 97
  · by_cases h2 : c ≤ 122
    · simp [h1, h2]
    · by_cases h3 : c = 95
      · simp [h3]
      · simp [h1, h2, h3]
  · by_cases h3 : c = 95
    · simp [h3]
    · simp [h1, h3]

theorem impl_isDigit_eq (c : Int) : impl_isDigit.f c = some (inR c 48 57) := by
  unfold impl_isDigit.f inR
  by_cases h : c ≥ 48
  · rw [if_pos h, decide_eq_true (show 48 ≤ c from h)]
    rfl
  · rw [if_neg h, decide_eq_false (show ¬ 48 ≤ c from h)]
    rfl

theorem impl_isSmall_eq (c : Int) : impl_isSmall.f c = some (inR c 97 122) := by
  unfold impl_isSmall.f inR
  by_cases h : c ≥ 97
  · rw [if_pos h, decide_eq_true (show 97 ≤ c from h)]
    rfl
  · rw [if_neg h, decide_eq_false (show ¬ 97 ≤ c from h)]
    rfl

theorem spec_NameOk_l0 (s : ByteArray) (hs : s.size ≤ 140737488351232) : ∀ (n k i : Nat), i + n = s.size → n < k → spec_NameOk.l0 k s (i : Int) = some (allB isNam s n i) := by
  intro n
  induction n with
  | zero =>
    intro k i hi hk
    obtain ⟨k, rfl⟩ : ∃ m, k = m + 1 := ⟨k - 1, by omega⟩
    simp only [spec_NameOk.l0]
    rw [if_neg (by omega)]
    rfl
  | succ n ih =>
    intro k i hi hk
    obtain ⟨k, rfl⟩ : ∃ m, k = m + 1 := ⟨k - 1, by omega⟩
    have hn := ih k (i + 1) (by omega) (by omega)
    have hw : wrap64 ((i : Int) + 1) = ((i + 1 : Nat) : Int) := by rw [w64 (by omega) (by omega)]; omega
    simp only [spec_NameOk.l0]
    rw [if_pos (by omega), if_pos (by omega), spec_l1Letter_eq, hw, hn]
    simp only [Option.bind_some, allB, isNam, inR]
    by_cases h1 : isLet (bt s i) = true
    · simp [h1]
    · by_cases h2 : bt s i ≥ 48
      · by_cases h3 : bt s i ≤ 57
        · simp [h1, h2, h3]
        · simp [h1, h2, h3]
      · simp [h1, h2]
theorem spec_NameOk_eq (s : ByteArray) {k : Nat} (hk : 20 ≤ k) : spec_NameOk.f k s = some (nameOk s) := by
  unfold spec_NameOk.f nameOk
  obtain ⟨k, rfl⟩ : ∃ m, k = m + 1 := ⟨k - 1, by omega⟩
  simp only [spec_NameOk.j0]
  by_cases h1 : (s.size : Int) < 1
  · rw [if_pos h1, inR_neg (by omega)]
    rfl
  · by_cases h2 : (s.size : Int) > 16
    · rw [if_neg h1, if_pos h2, inR_neg (by omega)]
      rfl
    · have hl := spec_NameOk_l0 s (by omega) s.size k 0 (by omega) (by omega)
      rw [if_neg h1, if_neg h2, inR_pos (by omega) (by omega), if_pos (by omega), spec_l1Letter_eq]
      simp only [Option.bind_some, Bool.true_and]
      rw [show ((0 : Nat) : Int) = 0 from rfl] at hl
      rw [hl]
      obtain ⟨n, hn⟩ : ∃ n, s.size = n + 1 := ⟨s.size - 1, by omega⟩
      by_cases h3 : isLet (bt s 0) = true
      · rw [h3, isLet_dig h3]
        simp
      · have h3' : isLet (bt s 0) = false := by simpa using h3
        rw [h3', hn]
        simp only [Bool.not_false, if_true, allB]
        rw [show bt s ((0 : Nat) : Int) = bt s 0 from rfl]
        unfold isNam
        rw [h3']
        cases inR (bt s 0) 48 57 <;> simp

theorem impl_NameOk_l0 (s : ByteArray) (hs : s.size ≤ 140737488351232) : ∀ (n k i : Nat), i + n = s.size → n < k → impl_NameOk.l0 k s (s.size : Int) (i : Int) = some (allB isNam s n i) := by
  intro n
  induction n with
  | zero =>
    intro k i hi hk
    obtain ⟨k, rfl⟩ : ∃ m, k = m + 1 := ⟨k - 1, by omega⟩
    simp only [impl_NameOk.l0]
    rw [if_neg (by omega)]
    rfl
  | succ n ih =>
    intro k i hi hk
    obtain ⟨k, rfl⟩ : ∃ m, k = m + 1 := ⟨k - 1, by omega⟩
    have hn := ih k (i + 1) (by omega) (by omega)
    have hw : wrap64 ((i : Int) + 1) = ((i + 1 : Nat) : Int) := by rw [w64 (by omega) (by omega)]; omega
    simp only [impl_NameOk.l0]
    rw [if_pos (by omega), if_pos (by omega), if_pos (by omega), impl_isSmall_eq, impl_isDigit_eq, hw, hn]
    simp only [Option.bind_some, allB, isNam, isLet]
    by_cases h1 : inR (bt s i) 97 122 = true
    · simp [h1]
    · by_cases h2 : inR (bt s i) 48 57 = true
      · simp [h1, h2]
      · by_cases h3 : bt s i = 95
        · simp [h1, h2, h3]
        · by_cases h4 : bt s i = 46
          · simp [h1, h2, h3, h4]
          · simp [h1, h2, h3, h4]
theorem impl_NameOk_eq (s : ByteArray) {k : Nat} (hk : 20 ≤ k) : impl_NameOk.f k s = some (nameOk s) := by
  unfold impl_NameOk.f nameOk
  obtain ⟨k, rfl⟩ : ∃ m, k = m + 1 := ⟨k - 1, by omega⟩
  simp only [impl_NameOk.j0, impl_within_eq, Option.bind_some]
  by_cases h1 : 1 ≤ (s.size : Int) ∧ (s.size : Int) ≤ 16
  · have hl := impl_NameOk_l0 s (by omega) s.size k 0 (by omega) (by omega)
    rw [inR_pos h1.1 h1.2, if_pos rfl, if_pos (by omega), impl_isDigit_eq]
    simp only [Option.bind_some, Bool.true_and]
    rw [show ((0 : Nat) : Int) = 0 from rfl] at hl
    rw [hl]
    cases inR (bt s 0) 48 57 <;> simp
  · rw [inR_neg h1]
    rfl

theorem laws_szENodeS_l0 (l : List S119) (hl : l.length ≤ 1048576) (hn : ∀ x ∈ l, x.f2.size ≤ maxLen) : ∀ (n k i : Nat) (left : Int), i + n = l.length → n < k → 0 ≤ left → left ≤ 1048576 → ∃ t, laws_szENodeS.l0 k l left (i : Int) = some t ∧ t ≤ left := by
  intro n
  induction n with
  | zero =>
    intro k i left hi hk h0 h1
    obtain ⟨k, rfl⟩ : ∃ m, k = m + 1 := ⟨k - 1, by omega⟩
    refine ⟨left, ?_, Int.le_refl _⟩
    simp only [laws_szENodeS.l0]
    rw [if_neg (by omega)]
  | succ n ih =>
    intro k i left hi hk h0 h1
    obtain ⟨k, rfl⟩ : ∃ m, k = m + 1 := ⟨k - 1, by omega⟩
    simp only [laws_szENodeS.l0]
    rw [if_pos (by omega), if_pos (by omega), up1 (by omega : i < l.length) (by omega)]
    have hx : (rd_T119 l (i : Int)).f2.size ≤ maxLen := hn _ (by unfold rd_T119; exact getD_mem _ _ _ (by simp; omega))
    unfold maxLen at hx
    unfold laws_szENode.f
    generalize (rd_T119 l (i : Int)).f2.size = z at hx ⊢
    rw [w64 (by omega) (by omega)]
    by_cases hc : left - (z : Int) < 0
    · rw [if_pos hc]
      exact ⟨-1, by simp, by omega⟩
    · rw [if_neg hc]
      simp only [Option.bind_some]
      rw [if_neg hc]
      obtain ⟨t, ht, hle⟩ := ih k (i + 1) (left - z) (by omega) (by omega) (by omega) (by omega)
      exact ⟨t, ht, by omega⟩
theorem laws_szENodeS_some (l : List S119) (hl : l.length ≤ maxLen) (hn : ∀ x ∈ l, x.f2.size ≤ maxLen) {k : Nat} {left : Int} (h0 : 0 ≤ left) (h1 : left ≤ 1048576) (hk : 1048577 ≤ k) :
    ∃ t, laws_szENodeS.f k l left = some t ∧ t ≤ left ∧ (0 ≤ t → l.length ≤ 1048576) := by
  unfold maxLen at hl
  unfold laws_szENodeS.f
  rw [w64 (by omega) (by omega)]
  by_cases hc : left - (l.length : Int) < 0
  · rw [if_pos hc]
    exact ⟨-1, rfl, by omega, by omega⟩
  · rw [if_neg hc]
    obtain ⟨t, ht, hle⟩ := laws_szENodeS_l0 l (by omega) hn l.length k 0 (left - l.length) (by omega) (by omega) (by omega) (by omega)
    exact ⟨t, ht, by omega, fun _ => by omega⟩

def nodeI (x : S119) : S124 := ⟨x.f0, x.f1, x.f2⟩
def nd (x : S124) : Nd := (x.f0, x.f1, x.f2)
theorem laws_toENodeS_l0 (l : List S119) (hl : l.length ≤ 1048576) : ∀ (n k i : Nat) (y : List S124), i + n = l.length → n < k → y.length = l.length → y.take i = (l.map nodeI).take i → laws_toENodeS.l0 k l y (i : Int) = some (l.map nodeI) := by
  intro n
  induction n with
  | zero =>
    intro k i y hi hk hy ht
    obtain ⟨k, rfl⟩ : ∃ m, k = m + 1 := ⟨k - 1, by omega⟩
    simp only [laws_toENodeS.l0]
    rw [if_neg (by omega)]
    obtain rfl : i = l.length := by omega
    rw [fill_end nodeI l y hy ht]
  | succ n ih =>
    intro k i y hi hk hy ht
    obtain ⟨k, rfl⟩ : ∃ m, k = m + 1 := ⟨k - 1, by omega⟩
    simp only [laws_toENodeS.l0, laws_toENode.f, Option.bind_some]
    rw [if_pos (by omega), if_pos (by omega), if_pos (by omega), up1 (by omega : i < l.length) (by omega)]
    obtain ⟨h1, h2⟩ := fill_step z119 nodeI l y i (by omega) hy ht
    exact ih k (i + 1) _ (by omega) (by omega) h1 h2
theorem laws_toENodeS_eq (l : List S119) (hl : l.length ≤ 1048576) {k : Nat} (hk : 1048577 ≤ k) : laws_toENodeS.f k l = some (l.map nodeI) := by
  unfold laws_toENodeS.f
  rw [if_pos (by omega), if_pos (by omega)]
  exact laws_toENodeS_l0 l hl l.length k 0 _ (by omega) (by omega) (by simp) (by simp)

theorem laws_eqENodeS_l0 (l : List S124) (hl : l.length ≤ 1048576) : ∀ (n k i : Nat), i + n = l.length → n < k → laws_eqENodeS.l0 k l l (i : Int) = some true := by
  intro n
  induction n with
  | zero =>
    intro k i hi hk
    obtain ⟨k, rfl⟩ : ∃ m, k = m + 1 := ⟨k - 1, by omega⟩
    simp only [laws_eqENodeS.l0]
    rw [if_neg (by omega)]
  | succ n ih =>
    intro k i hi hk
    obtain ⟨k, rfl⟩ : ∃ m, k = m + 1 := ⟨k - 1, by omega⟩
    simp only [laws_eqENodeS.l0, laws_eqENode.f, if_true, Option.bind_some]
    rw [if_pos (by omega), if_pos (by omega), if_pos (by omega), up1 (by omega : i < l.length) (by omega)]
    exact ih k (i + 1) (by omega) (by omega)
theorem laws_eqENodeS_same (l : List S124) (hl : l.length ≤ 1048576) {k : Nat} (hk : 1048577 ≤ k) : laws_eqENodeS.f k l l = some true := by
  unfold laws_eqENodeS.f
  rw [if_pos rfl]
  exact laws_eqENodeS_l0 l hl l.length k 0 (by omega) (by omega)

theorem laws_szPatch_some (x : S150) (hl : x.f2.length ≤ maxLen) (hn : ∀ y ∈ x.f2, y.f2.size ≤ maxLen) {k : Nat} {left : Int} (h0 : 0 ≤ left) (h1 : left ≤ 1048576) (hk : 1048577 ≤ k) :
    ∃ t, laws_szPatch.f k x.f0 x.f1 x.f2 left = some t ∧ t ≤ left ∧ (0 ≤ t → x.f2.length ≤ 1048576) := by
  unfold laws_szPatch.f
  obtain ⟨t, ht, hle, hlen⟩ := laws_szENodeS_some x.f2 hl hn (k := k) h0 h1 hk
  rw [ht]
  simp only [Option.bind_some]
  by_cases hc : t < 0
  · rw [if_pos hc]
    exact ⟨-1, rfl, by omega, by omega⟩
  · rw [if_neg hc]
    exact ⟨t, rfl, hle, hlen⟩
theorem laws_szPatchS_l0 (l : List S150) (hl : l.length ≤ 1048576) (hn : ∀ x ∈ l, x.f2.length ≤ maxLen ∧ ∀ y ∈ x.f2, y.f2.size ≤ maxLen) : ∀ (n k i : Nat) (left : Int), i + n = l.length → n + 1048578 ≤ k → 0 ≤ left → left ≤ 1048576 → ∃ t, laws_szPatchS.l0 k l left (i : Int) = some t ∧ t ≤ left ∧ (0 ≤ t → ∀ x ∈ l.drop i, x.f2.length ≤ 1048576) := by
  intro n
  induction n with
  | zero =>
    intro k i left hi hk h0 h1
    obtain ⟨k, rfl⟩ : ∃ m, k = m + 1 := ⟨k - 1, by omega⟩
    refine ⟨left, ?_, Int.le_refl _, ?_⟩
    · simp only [laws_szPatchS.l0]
      rw [if_neg (by omega)]
    · intro _ x hx
      rw [List.drop_eq_nil_of_le (by omega)] at hx
      cases hx
  | succ n ih =>
    intro k i left hi hk h0 h1
    obtain ⟨k, rfl⟩ : ∃ m, k = m + 1 := ⟨k - 1, by omega⟩
    have hrd : rd_T150 l (i : Int) = l.getD i z150 := by unfold rd_T150; rw [Int.toNat_natCast]
    simp only [laws_szPatchS.l0]
    rw [if_pos (by omega), if_pos (by omega), up1 (by omega : i < l.length) (by omega), hrd, drop_at z150 l i (by omega)]
    have hx := hn _ (getD_mem z150 l i (by omega))
    generalize l.getD i z150 = x at hx ⊢
    obtain ⟨t, ht, hle, hlen⟩ := laws_szPatch_some x hx.1 hx.2 (k := k) h0 h1 (by omega)
    rw [ht]
    simp only [Option.bind_some]
    by_cases hc : t < 0
    · rw [if_pos hc]
      exact ⟨-1, rfl, by omega, by omega⟩
    · rw [if_neg hc]
      obtain ⟨u, hu, hle2, hlen2⟩ := ih k (i + 1) t (by omega) (by omega) (by omega) (by omega)
      refine ⟨u, hu, by omega, fun h y hy => ?_⟩
      rcases List.mem_cons.1 hy with rfl | hy
      · exact hlen (by omega)
      · exact hlen2 h y hy
theorem laws_szPatchS_some (l : List S150) (hl : l.length ≤ maxLen) (hn : ∀ x ∈ l, x.f2.length ≤ maxLen ∧ ∀ y ∈ x.f2, y.f2.size ≤ maxLen) {k : Nat} {left : Int} (h0 : 0 ≤ left) (h1 : left ≤ 1048576) (hk : 2200000 ≤ k) :
    ∃ t, laws_szPatchS.f k l left = some t ∧ t ≤ left ∧ (0 ≤ t → l.length ≤ 1048576 ∧ ∀ x ∈ l, x.f2.length ≤ 1048576) := by
  unfold maxLen at hl
  unfold laws_szPatchS.f
  rw [w64 (by omega) (by omega)]
  by_cases hc : left - (l.length : Int) < 0
  · rw [if_pos hc]
    exact ⟨-1, rfl, by omega, by omega⟩
  · rw [if_neg hc]
    obtain ⟨t, ht, hle, hlen⟩ := laws_szPatchS_l0 l (by omega) hn l.length k 0 (left - l.length) (by omega) (by omega) (by omega) (by omega)
    exact ⟨t, ht, by omega, fun h => ⟨by omega, fun x hx => hlen h x (by rw [List.drop_zero]; exact hx)⟩⟩
theorem laws_szSection_some (a : ByteArray) (b c d : Int) (e : ByteArray) (l : List S150) (ha : a.size ≤ maxLen) (he : e.size ≤ maxLen) (hl : l.length ≤ maxLen) (hn : ∀ x ∈ l, x.f2.length ≤ maxLen ∧ ∀ y ∈ x.f2, y.f2.size ≤ maxLen) {k : Nat} {left : Int} (h0 : 0 ≤ left) (h1 : left ≤ 1048576) (hk : 2200000 ≤ k) :
    ∃ t, laws_szSection.f k a b c d e l left = some t ∧ t ≤ left ∧ (0 ≤ t → a.size ≤ 1048576 ∧ e.size ≤ 1048576 ∧ l.length ≤ 1048576 ∧ ∀ x ∈ l, x.f2.length ≤ 1048576) := by
  unfold maxLen at ha he
  unfold laws_szSection.f
  rw [w64 (n := left - (a.size : Int)) (by omega) (by omega)]
  by_cases c1 : left - (a.size : Int) < 0
  · rw [if_pos c1]
    exact ⟨-1, rfl, by omega, by omega⟩
  · rw [if_neg c1, w64 (by omega) (by omega)]
    by_cases c2 : left - (a.size : Int) - (e.size : Int) < 0
    · rw [if_pos c2]
      exact ⟨-1, rfl, by omega, by omega⟩
    · rw [if_neg c2]
      obtain ⟨t, ht, hle, hlen⟩ := laws_szPatchS_some l hl hn (k := k) (left := left - (a.size : Int) - (e.size : Int)) (by omega) (by omega) hk
      rw [ht]
      simp only [Option.bind_some]
      by_cases c3 : t < 0
      · rw [if_pos c3]
        exact ⟨-1, rfl, by omega, by omega⟩
      · rw [if_neg c3]
        exact ⟨t, rfl, by omega, fun h => ⟨by omega, by omega, hlen h⟩⟩

def patI (x : S150) : S79 := ⟨x.f0, x.f1, x.f2.map nodeI⟩
theorem laws_toPatchS_l0 (l : List S150) (hl : l.length ≤ 1048576) (hx : ∀ x ∈ l, x.f2.length ≤ 1048576) : ∀ (n k i : Nat) (y : List S79), i + n = l.length → n + 1048578 ≤ k → y.length = l.length → y.take i = (l.map patI).take i → laws_toPatchS.l0 k l y (i : Int) = some (l.map patI) := by
  intro n
  induction n with
  | zero =>
    intro k i y hi hk hy ht
    obtain ⟨k, rfl⟩ : ∃ m, k = m + 1 := ⟨k - 1, by omega⟩
    simp only [laws_toPatchS.l0]
    rw [if_neg (by omega)]
    obtain rfl : i = l.length := by omega
    rw [fill_end patI l y hy ht]
  | succ n ih =>
    intro k i y hi hk hy ht
    obtain ⟨k, rfl⟩ : ∃ m, k = m + 1 := ⟨k - 1, by omega⟩
    have hrd : rd_T150 l (i : Int) = l.getD i z150 := by unfold rd_T150; rw [Int.toNat_natCast]
    have hm := hx _ (getD_mem z150 l i (by omega))
    simp only [laws_toPatchS.l0, laws_toPatch.f]
    rw [if_pos (by omega), if_pos (by omega), hrd, laws_toENodeS_eq _ hm (by omega)]
    simp only [Option.bind_some]
    rw [if_pos (by omega), up1 (by omega : i < l.length) (by omega)]
    obtain ⟨h1, h2⟩ := fill_step z150 patI l y i (by omega) hy ht
    exact ih k (i + 1) _ (by omega) (by omega) h1 h2
theorem laws_toPatchS_eq (l : List S150) (hl : l.length ≤ 1048576) (hx : ∀ x ∈ l, x.f2.length ≤ 1048576) {k : Nat} (hk : 2200000 ≤ k) : laws_toPatchS.f k l = some (l.map patI) := by
  unfold laws_toPatchS.f
  rw [if_pos (by omega), if_pos (by omega)]
  exact laws_toPatchS_l0 l hl hx l.length k 0 _ (by omega) (by omega) (by simp) (by simp)
theorem laws_toSection_eq (a : ByteArray) (b c d : Int) (e : ByteArray) (l : List S150) (hl : l.length ≤ 1048576) (hx : ∀ x ∈ l, x.f2.length ≤ 1048576) {k : Nat} (hk : 2200000 ≤ k) : laws_toSection.f k a b c d e l = some (a, b, c, d, e, l.map patI) := by
  unfold laws_toSection.f
  rw [laws_toPatchS_eq l hl hx hk]
  rfl

theorem laws_eqPatchS_l0 (l : List S79) (hl : l.length ≤ 1048576) (hx : ∀ x ∈ l, x.f2.length ≤ 1048576) : ∀ (n k i : Nat), i + n = l.length → n + 1048578 ≤ k → laws_eqPatchS.l0 k l l (i : Int) = some true := by
  intro n
  induction n with
  | zero =>
    intro k i hi hk
    obtain ⟨k, rfl⟩ : ∃ m, k = m + 1 := ⟨k - 1, by omega⟩
    simp only [laws_eqPatchS.l0]
    rw [if_neg (by omega)]
  | succ n ih =>
    intro k i hi hk
    obtain ⟨k, rfl⟩ : ∃ m, k = m + 1 := ⟨k - 1, by omega⟩
    have hrd : rd_T79 l (i : Int) = l.getD i z79 := by unfold rd_T79; rw [Int.toNat_natCast]
    have hm := hx _ (getD_mem z79 l i (by omega))
    simp only [laws_eqPatchS.l0, laws_eqPatch.f, if_true]
    rw [if_pos (by omega), if_pos (by omega), if_pos (by omega), hrd, laws_eqENodeS_same _ hm (by omega)]
    simp only [Option.bind_some, if_true]
    rw [up1 (by omega : i < l.length) (by omega)]
    exact ih k (i + 1) (by omega) (by omega)
theorem laws_eqPatchS_same (l : List S79) (hl : l.length ≤ 1048576) (hx : ∀ x ∈ l, x.f2.length ≤ 1048576) {k : Nat} (hk : 2200000 ≤ k) : laws_eqPatchS.f k l l = some true := by
  unfold laws_eqPatchS.f
  rw [if_pos rfl]
  exact laws_eqPatchS_l0 l hl hx l.length k 0 (by omega) (by omega)
theorem laws_eqSection_same (a : ByteArray) (b c d : Int) (e : ByteArray) (l : List S79) (hl : l.length ≤ 1048576) (hx : ∀ x ∈ l, x.f2.length ≤ 1048576) {k : Nat} (hk : 2200000 ≤ k) : laws_eqSection.f k a b c d e l a b c d e l = some true := by
  unfold laws_eqSection.f
  simp only [if_true]
  rw [laws_eqPatchS_same l hl hx hk]
  simp

theorem spec_l2Takes_eq (a : Int) : spec_l2Takes.f a = some (takes a) := by
  unfold spec_l2Takes.f takes
  simp only [spec_l1In_eq, Option.bind_some]
  split
  · rfl
  · split
    · rfl
    · split <;> rfl

theorem spec_l2Node_eq (a b : Int) (s : ByteArray) {k : Nat} (hk : 30 ≤ k) : spec_l2Node.f k a b s = some (nodeOk (a, b, s)) := by
  obtain ⟨k, rfl⟩ : ∃ m, k = m + 1 := ⟨k - 1, by omega⟩
  unfold spec_l2Node.f nodeOk
  simp only [spec_l1In_eq, spec_l2Node.j0, spec_l2Takes_eq, spec_NameOk_eq s (by omega : 20 ≤ k), Option.bind_some]
  by_cases h1 : a = 1
  · rw [if_pos h1, if_pos h1]
    cases inR b 0 65535 <;> simp
  · rw [if_neg h1, if_neg h1]
    by_cases h2 : a = 2
    · rw [if_pos h2, if_pos (show a = 2 ∨ a = 3 from Or.inl h2), h2]
      by_cases h4 : b = 0
      · simp [h4]
      · simp [h4]
    · by_cases h3 : a = 3
      · rw [if_neg h2, if_pos (Or.inr h3), h3]
        by_cases h4 : b = 0
        · simp [h4]
        · simp [h4]
      · have e : (a == 3) = false := by simpa using h3
        rw [if_neg h2, if_neg (show ¬ (a = 2 ∨ a = 3) by omega), e]
        simp only [Bool.false_eq_true, if_false]
        by_cases h4 : b = 0
        · by_cases h5 : s.toList = []
          · rw [if_pos h4, if_pos h5, h4, h5]
            simp [takes, inR]
            by_cases h6 : 4 ≤ a ∧ a ≤ 17
            · by_cases h7 : a ≤ 7
              · rw [if_neg (by omega), if_pos (by omega)]
                simp
                omega
              · rw [if_neg (by omega), if_neg (by omega), if_pos (by omega)]
                simp
                omega
            · rw [if_neg (by omega), if_neg (by omega), if_neg (by omega)]
              simp
              omega
          · simp [h4, h5]
        · simp [h4]

theorem impl_isNode_eq (a b : Int) (s : ByteArray) {k : Nat} (hk : 30 ≤ k) : impl_isNode.f k a b s = some (nodeOk (a, b, s)) := by
  obtain ⟨k, rfl⟩ : ∃ m, k = m + 1 := ⟨k - 1, by omega⟩
  unfold impl_isNode.f nodeOk
  simp only [impl_isWord_eq, impl_isNode.j0, impl_within_eq, impl_NameOk_eq s (by omega : 20 ≤ k), Option.bind_some]
  by_cases h1 : a = 1
  · rw [if_pos h1, if_pos h1]
    cases inR b 0 65535 <;> simp
  · rw [if_neg h1, if_neg h1]
    by_cases h2 : a = 2
    · rw [if_pos h2, if_pos (show a = 2 ∨ a = 3 from Or.inl h2)]
      by_cases h4 : b = 0
      · simp [h4]
      · simp [h4]
    · by_cases h3 : a = 3
      · rw [if_neg h2, if_pos (Or.inr h3), h3]
        by_cases h4 : b = 0
        · simp [h4]
        · simp [h4]
      · have e : (a == 3) = false := by simpa using h3
        rw [if_neg h2, if_neg (show ¬ (a = 2 ∨ a = 3) by omega), e]
        simp only [Bool.false_eq_true, if_false]
        cases inR a 4 17
        · simp
        · by_cases h4 : b = 0
          · simp [h4]
          · simp [h4]

def nd_ (x : S124) : Nd := (x.f0, x.f1, x.f2)
theorem spec_ExprOk_l0 (l : List S124) (hl : l.length ≤ 1048576) : ∀ (n k i : Nat) (d : Int), i + n = l.length → n + 40 ≤ k → 0 ≤ d → d ≤ 2 * i → spec_ExprOk.l0 k l d (i : Int) = some (decide ((l.length : Int) ≤ 30) && exprGo ((l.drop i).map nd_) d) := by
  intro n
  induction n with
  | zero =>
    intro k i d hi hk h0 h1
    obtain ⟨k, rfl⟩ : ∃ m, k = m + 1 := ⟨k - 1, by omega⟩
    simp only [spec_ExprOk.l0]
    rw [if_neg (by omega), List.drop_eq_nil_of_le (by omega)]
    by_cases h : (l.length : Int) ≤ 30
    · rw [if_pos h, decide_eq_true h]
      rfl
    · rw [if_neg h, decide_eq_false h]
      rfl
  | succ n ih =>
    intro k i d hi hk h0 h1
    obtain ⟨k, rfl⟩ : ∃ m, k = m + 1 := ⟨k - 1, by omega⟩
    simp only [spec_ExprOk.l0]
    rw [if_pos (by omega), if_pos (by omega), drop_at z124 l i (by omega)]
    have hrd : rd_T124 l (i : Int) = l.getD i z124 := by unfold rd_T124; rw [Int.toNat_natCast]
    rw [hrd]
    generalize l.getD i z124 = x
    simp only [List.map_cons, exprGo, nd_]
    rw [spec_l2Node_eq _ _ _ (by omega : 30 ≤ k), spec_l2Takes_eq]
    simp only [Option.bind_some]
    have ht := takes_in x.f0
    by_cases c1 : nodeOk (x.f0, x.f1, x.f2) = true
    · rw [if_pos c1, c1]
      by_cases c2 : takes x.f0 > d
      · rw [if_pos c2, decide_eq_false (show ¬ takes x.f0 ≤ d by omega)]
        simp
      · rw [if_neg c2, decide_eq_true (show takes x.f0 ≤ d by omega), w64 (n := d - takes x.f0) (by omega) (by omega), w64 (n := d - takes x.f0 + 1) (by omega) (by omega), up1 (by omega : i < l.length) (by omega)]
        have := ih k (i + 1) (d - takes x.f0 + 1) (by omega) (by omega) (by omega) (by omega)
        rw [this]
        simp
    · rw [if_neg c1]
      simp [c1]
theorem spec_ExprOk_eq (l : List S124) (hl : l.length ≤ 1048576) {k : Nat} (hk : l.length + 40 ≤ k) : spec_ExprOk.f k l = some (exprOk (l.map nd_)) := by
  unfold spec_ExprOk.f exprOk
  have := spec_ExprOk_l0 l hl l.length k 0 0 (by omega) (by omega) (by omega) (by omega)
  rw [show ((0 : Nat) : Int) = 0 from rfl] at this
  rw [this]
  simp

--NEEDS spec_ExprOk
theorem impl_ExprOk_l0 (l : List S124) (hl : l.length ≤ 30) : ∀ (n k i : Nat) (d : Int), i + n = l.length → n + 40 ≤ k → 0 ≤ d → d ≤ i → impl_ExprOk.l0 k d l (l.length : Int) (i : Int) = some (exprGo ((l.drop i).map nd_) d) := by
  intro n
  induction n with
  | zero =>
    intro k i d hi hk h0 h1
    obtain ⟨k, rfl⟩ : ∃ m, k = m + 1 := ⟨k - 1, by omega⟩
    simp only [impl_ExprOk.l0]
    rw [if_neg (by omega), List.drop_eq_nil_of_le (by omega)]
    rfl
  | succ n ih =>
    intro k i d hi hk h0 h1
    obtain ⟨k, rfl⟩ : ∃ m, k = m + 1 := ⟨k - 1, by omega⟩
    simp only [impl_ExprOk.l0]
    rw [if_pos (by omega), if_pos (by omega), if_pos (by omega), drop_at z124 l i (by omega)]
    have hrd : rd_T124 l (i : Int) = l.getD i z124 := by unfold rd_T124; rw [Int.toNat_natCast]
    rw [hrd]
    generalize l.getD i z124 = x
    simp only [List.map_cons, exprGo, nd_]
    rw [impl_isNode_eq _ _ _ (by omega : 30 ≤ k), up1 (by omega : i < l.length) (by omega)]
    simp only [Option.bind_some]
    by_cases c1 : nodeOk (x.f0, x.f1, x.f2) = true
    · have hk1 := nodeOk_kind c1
      rw [if_pos c1, c1]
      simp only at hk1
      by_cases c2 : x.f0 ≤ 3
      · have ht : takes x.f0 = 0 := by unfold takes; rw [inR_pos (by omega) (by omega)]; rfl
        rw [if_pos c2, ht, w64 (n := d + 1) (by omega) (by omega), ih k (i + 1) (d + 1) (by omega) (by omega) (by omega) (by omega), decide_eq_true (show (0 : Int) ≤ d by omega), show d - 0 + 1 = d + 1 from by omega]
        simp
      · by_cases c3 : x.f0 ≤ 7
        · have ht : takes x.f0 = 1 := by unfold takes; rw [inR_neg (by omega), inR_pos (by omega) (by omega)]; rfl
          rw [if_neg c2, if_pos c3, ht]
          by_cases c4 : d < 1
          · rw [if_pos c4, decide_eq_false (show ¬ (1 : Int) ≤ d by omega)]
            simp
          · rw [if_neg c4, decide_eq_true (show (1 : Int) ≤ d by omega), ih k (i + 1) d (by omega) (by omega) (by omega) (by omega), show d - 1 + 1 = d from by omega]
            simp
        · have ht : takes x.f0 = 2 := by unfold takes; rw [inR_neg (by omega), inR_neg (by omega), inR_pos (by omega) (by omega)]; rfl
          rw [if_neg c2, if_neg c3, ht]
          by_cases c4 : d < 2
          · rw [if_pos c4, decide_eq_false (show ¬ (2 : Int) ≤ d by omega)]
            simp
          · rw [if_neg c4, decide_eq_true (show (2 : Int) ≤ d by omega), w64 (n := d - 1) (by omega) (by omega), ih k (i + 1) (d - 1) (by omega) (by omega) (by omega) (by omega), show d - 2 + 1 = d - 1 from by omega]
            simp
    · rw [if_neg c1]
      simp [c1]
theorem impl_ExprOk_eq (l : List S124) {k : Nat} (hk : 80 ≤ k) : impl_ExprOk.f k l = some (exprOk (l.map nd_)) := by
  unfold impl_ExprOk.f exprOk
  by_cases h : (l.length : Int) > 30
  · rw [if_pos h, decide_eq_false (show ¬ ((l.map nd_).length : Int) ≤ 30 by rw [List.length_map]; omega)]
    rfl
  · rw [if_neg h, decide_eq_true (show ((l.map nd_).length : Int) ≤ 30 by rw [List.length_map]; omega)]
    have := impl_ExprOk_l0 l (by omega) l.length k 0 0 (by omega) (by omega) (by omega) (by omega)
    rw [show ((0 : Nat) : Int) = 0 from rfl] at this
    rw [this]
    simp

theorem impl_noughts_eq (n : Nat) (h : n ≤ 1048576) : impl_noughts.f (n : Int) = some ⟨(Go.Lib.repeatL [0] n).toArray⟩ := by
  unfold impl_noughts.f strings_Repeat.f
  rw [if_pos (by omega), if_pos (by omega), if_pos (by rw [Int.toNat_natCast]; show 1 * n ≤ _; omega)]
  rfl

theorem spec_HexOf_l0 (d : Nat) (hd : d ≤ 4) : ∀ (m k i a : Nat) (s : List UInt8), i + m = d → m < k → a < 65536 → s.length + m ≤ 4 → spec_HexOf.l0 k (a : Int) (d : Int) ⟨s.toArray⟩ (i : Int) = some (if a / 16 ^ m = 0 then ⟨(36 :: (hexFix m a ++ s)).toArray⟩ else ⟨#[]⟩) := by
  intro m
  induction m with
  | zero =>
    intro k i a s hi hk ha hs
    obtain ⟨k, rfl⟩ : ∃ q, k = q + 1 := ⟨k - 1, by omega⟩
    simp only [spec_HexOf.l0]
    rw [if_neg (by omega)]
    by_cases h : a = 0
    · subst h
      rw [if_neg (by omega), if_pos (by rw [bytes_size]; omega), if_pos (by simp), show (⟨#[36]⟩ : ByteArray) = ⟨[36].toArray⟩ from rfl, bytes_append]
      rfl
    · rw [if_pos (by omega), if_neg (by simp; exact h)]
  | succ m ih =>
    intro k i a s hi hk ha hs
    obtain ⟨k, rfl⟩ : ∃ q, k = q + 1 := ⟨k - 1, by omega⟩
    simp only [spec_HexOf.l0]
    have e1 : Int.tmod (a : Int) 16 = ((a % 16 : Nat) : Int) := by
      rw [Int.tmod_eq_emod_of_nonneg (by omega)]; omega
    have e2 : wrap64 (Int.tdiv (a : Int) 16) = ((a / 16 : Nat) : Int) := by
      rw [Int.tdiv_eq_ediv_of_nonneg (by omega), w64 (by omega) (by omega)]; omega
    have e3 : wrap64 (((a % 16 : Nat) : Int) + 1) = ((a % 16 + 1 : Nat) : Int) := by
      rw [w64 (by omega) (by omega)]; omega
    have e4 : wrap64 ((i : Int) + 1) = ((i + 1 : Nat) : Int) := by
      rw [w64 (by omega) (by omega)]; omega
    simp only [e1, e2, e3, e4, Int.toNat_natCast]
    rw [if_pos (by omega), if_pos (by omega), if_pos (by omega), if_pos (by omega), digit_cut (a % 16) (by omega), if_pos (by rw [bytes_size, bytes_size]; simp; omega), bytes_append, ih k (i + 1) (a / 16) _ (by omega) (by omega) (by omega) (by simp; omega)]
    rw [Nat.pow_succ, Nat.mul_comm, ← Nat.div_div_eq_div_mul]
    simp [hexFix]
theorem spec_HexOf_eq (n d : Int) {k : Nat} (hk : 10 ≤ k) : spec_HexOf.f k n d = some (if inR d 1 4 = true then (if inR n 0 65535 = true then hexText d.toNat n.toNat else ⟨#[]⟩) else ⟨#[]⟩) := by
  obtain ⟨k, rfl⟩ : ∃ q, k = q + 1 := ⟨k - 1, by omega⟩
  unfold spec_HexOf.f
  simp only [spec_l1In_eq, Option.bind_some]
  by_cases h1 : inR d 1 4 = true
  · by_cases h2 : inR n 0 65535 = true
    · simp only [h1, h2, if_true, spec_HexOf.j0, Bool.not_true, Bool.false_eq_true, if_false]
      rw [inR_iff] at h1 h2
      obtain ⟨a, rfl⟩ : ∃ a : Nat, n = (a : Int) := ⟨n.toNat, by omega⟩
      obtain ⟨e, rfl⟩ : ∃ e : Nat, d = (e : Int) := ⟨d.toNat, by omega⟩
      have := spec_HexOf_l0 e (by omega) e k 0 a [] (by omega) (by omega) (by omega) (by simp; omega)
      rw [show ((0 : Nat) : Int) = 0 from rfl, show (⟨([] : List UInt8).toArray⟩ : ByteArray) = ⟨#[]⟩ from rfl, List.append_nil] at this
      rw [this]
      rfl
    · rw [Bool.not_eq_true] at h2
      simp only [h1, h2, if_true, spec_HexOf.j0, Bool.not_false, Bool.false_eq_true, if_false]
  · rw [Bool.not_eq_true] at h1
    simp only [h1, spec_HexOf.j0, Bool.false_eq_true, if_false, if_true]

theorem impl_hexDigits_eq (n d : Nat) (hn : n < 65536) (hd0 : 1 ≤ d) (hd : d ≤ 4) (hz : n / 16 ^ d = 0) : impl_hexDigits.f (n : Int) (d : Int) = some ⟨(hexFix d n).toArray⟩ := by
  unfold impl_hexDigits.f strconv_FormatInt.f
  rw [if_neg (by decide), if_pos rfl, if_pos (by omega), if_pos (by omega)]
  simp only [Option.bind_some, Int.toNat_natCast]
  have hl := hexLow_len n
  unfold strings_ToUpper.f
  rw [if_pos (by rw [bytes_size]; omega), if_pos (by rw [List.all_eq_true]; intro b hb; exact decide_eq_true (hexLow_small n hn b (by simpa using hb)))]
  simp only [Option.bind_some]
  have hsz : (⟨(Go.Lib.toUpperA (hexLow n).toArray.toList).toArray⟩ : ByteArray).size = (hexLow n).length := by rw [bytes_size]; simp [Go.Lib.toUpperA]
  rw [hsz]
  have hm : mx 0 (wrap64 ((d : Int) - ((hexLow n).length : Int))) = ((d - (hexLow n).length : Nat) : Int) := by
    rw [w64 (by omega) (by omega)]
    unfold mx
    split <;> omega
  rw [hm]
  unfold strings_Repeat.f
  rw [if_pos (by omega), if_pos (by omega), if_pos (by rw [show (⟨#[48]⟩ : ByteArray).size = 1 from rfl]; omega)]
  simp only [Option.bind_some, Int.toNat_natCast]
  have hr : (⟨(Go.Lib.repeatL (⟨#[48]⟩ : ByteArray).data.toList (d - (hexLow n).length)).toArray⟩ : ByteArray).size = d - (hexLow n).length := by
    rw [bytes_size, Go.Lib.repeatL_length]; simp
  rw [hr, if_pos (by omega), bytes_append]
  have := hexPad d n hd0 hd hz hn
  rw [← this]
  simp [Go.Lib.toUpperA]
theorem dig_nums {x : Nat} (h : x < 10) : strOfNums [(wrap64 (48 + (x : Int))) % 256] = ⟨[UInt8.ofNat (48 + x)].toArray⟩ := by
  unfold strOfNums
  rw [w64 (by omega) (by omega)]
  simp only [List.map_cons, List.map_nil]
  rw [show ((48 + (x : Int)) % 256).toNat = 48 + x by omega]
theorem dec_l0 : ∀ (m k x : Nat) (s : List UInt8), x < 10 ^ (m + 1) → m < k → m ≤ 4 → s.length + m ≤ 1000 → spec_l1Dec.l0 k (x : Int) ⟨s.toArray⟩ = some ⟨(Go.Lib.decDigits x ++ s).toArray⟩ := by
  have small : ∀ (k x : Nat) (s : List UInt8), x < 10 → 0 < k → s.length ≤ 1000 → spec_l1Dec.l0 k (x : Int) ⟨s.toArray⟩ = some ⟨(Go.Lib.decDigits x ++ s).toArray⟩ := by
    intro k x s hx hk hs
    obtain ⟨k, rfl⟩ : ∃ z, k = z + 1 := ⟨k - 1, by omega⟩
    rw [spec_l1Dec.l0, if_neg (by omega)]
    simp only [Option.bind_some]
    rw [dig_nums hx, if_pos (by rw [bytes_size, bytes_size]; simp; omega), bytes_append, Go.Lib.decDigits, dif_pos hx]
  intro m
  induction m with
  | zero => intro k x s hx hk _ hs; exact small k x s (by simpa using hx) hk (by omega)
  | succ m ih =>
    intro k x s hx hk hm hs
    by_cases h10 : x < 10
    · exact small k x s h10 (by omega) (by omega)
    · obtain ⟨k, rfl⟩ : ∃ z, k = z + 1 := ⟨k - 1, by omega⟩
      have hbig : x < 100000 := by
        have h4 : m = 0 ∨ m = 1 ∨ m = 2 ∨ m = 3 := by omega
        have : 10 ^ (m + 1 + 1) ≤ 100000 := by rcases h4 with rfl | rfl | rfl | rfl <;> decide
        omega
      have hd : x / 10 < 10 ^ (m + 1) := by
        rw [Nat.pow_succ, Nat.mul_comm] at hx
        exact Nat.div_lt_of_lt_mul hx
      rw [spec_l1Dec.l0, if_pos (by omega)]
      simp only [Option.bind_some]
      have e1 : Int.tmod (x : Int) 10 = ((x % 10 : Nat) : Int) := by rw [Int.tmod_eq_emod_of_nonneg (by omega)]; omega
      have e2 : wrap64 (Int.tdiv (x : Int) 10) = ((x / 10 : Nat) : Int) := by rw [Int.tdiv_eq_ediv_of_nonneg (by omega), w64 (by omega) (by omega)]; omega
      rw [e1, e2, dig_nums (by omega), if_pos (by rw [bytes_size, bytes_size]; simp; omega), bytes_append, ih k (x / 10) _ hd (by omega) (by omega) (by simp; omega)]
      conv => rhs; rw [Go.Lib.decDigits, dif_neg h10]
      simp
theorem spec_l1Dec_pos (x : Nat) (h : x < 100000) {k : Nat} (hk : 20 ≤ k) : spec_l1Dec.f k (x : Int) = some ⟨(Go.Lib.itoa (x : Int)).toArray⟩ := by
  obtain ⟨k, rfl⟩ : ∃ z, k = z + 1 := ⟨k - 1, by omega⟩
  rw [spec_l1Dec.f, if_neg (by omega)]
  have := dec_l0 4 k x [] (by omega) (by omega) (by decide) (by simp)
  rw [List.append_nil] at this
  unfold Go.Lib.itoa
  rw [if_neg (by omega), Int.toNat_natCast]
  exact this

/-- The words of the ops, from kind 4 on. -/
def opW : List (List UInt8) := [[110, 101, 103], [110, 111, 116], [104, 105, 103, 104], [108, 111, 119], [43], [45], [42], [47], [37], [38], [94], [124], [60, 60], [62, 62]]
/-- The text of a node. -/
def nodeT3 (κ n : Int) (s : ByteArray) : List UInt8 := if κ = 1 then Go.Lib.itoa n else if κ = 2 then s.data.toList else if κ = 3 then 35 :: s.data.toList else opW.getD (κ - 4).toNat []
def nodeT (x : Nd) : List UInt8 := nodeT3 x.1 x.2.1 x.2.2
theorem dec5 (x : Nat) (hx : x < 100000) : (Go.Lib.decDigits x).length ≤ 5 := by
  have h : ∀ (m x : Nat), x < 10 ^ (m + 1) → (Go.Lib.decDigits x).length ≤ m + 1 := by
    intro m
    induction m with
    | zero =>
      intro x hx
      rw [Go.Lib.decDigits, dif_pos (by simpa using hx)]
      simp
    | succ m ih =>
      intro x hx
      rw [Go.Lib.decDigits]
      split
      · simp
      · have := ih (x / 10) (by
          rw [Nat.pow_succ, Nat.mul_comm] at hx
          exact Nat.div_lt_of_lt_mul hx)
        simp only [List.length_append, List.length_singleton]
        omega
  exact h 4 x (by omega)
theorem opW_cases {κ : Int} (h : 4 ≤ κ ∧ κ ≤ 17) : κ = 4 ∨ κ = 5 ∨ κ = 6 ∨ κ = 7 ∨ κ = 8 ∨ κ = 9 ∨ κ = 10 ∨ κ = 11 ∨ κ = 12 ∨ κ = 13 ∨ κ = 14 ∨ κ = 15 ∨ κ = 16 ∨ κ = 17 := by omega
theorem nodeOk_in {x : Nd} (h : nodeOk x = true) : (x.1 = 1 ∧ 0 ≤ x.2.1 ∧ x.2.1 ≤ 65535) ∨ ((x.1 = 2 ∨ x.1 = 3) ∧ x.2.2.size ≤ 16) ∨ (4 ≤ x.1 ∧ x.1 ≤ 17) := by
  unfold nodeOk at h
  by_cases h1 : x.1 = 1
  · rw [if_pos h1, Bool.and_eq_true, inR_iff] at h
    exact .inl ⟨h1, h.1⟩
  · by_cases h2 : x.1 = 2 ∨ x.1 = 3
    · rw [if_neg h1, if_pos h2, Bool.and_eq_true] at h
      have := h.2
      unfold nameOk at this
      rw [Bool.and_eq_true, inR_iff] at this
      exact .inr (.inl ⟨h2, by omega⟩)
    · rw [if_neg h1, if_neg h2, Bool.and_eq_true, inR_iff] at h
      exact .inr (.inr h.1)
theorem nodeT_len {x : Nd} (h : nodeOk x = true) : (nodeT x).length ≤ 17 := by
  unfold nodeT nodeT3
  rcases nodeOk_in h with ⟨h1, h2, h3⟩ | ⟨h1, h2⟩ | h1
  · rw [if_pos h1]
    unfold Go.Lib.itoa
    rw [if_neg (by omega)]
    have := dec5 x.2.1.toNat (by omega)
    omega
  · have hl : x.2.2.data.toList.length = x.2.2.size := by rw [Array.length_toList]; rfl
    rcases h1 with h1 | h1
    · rw [if_neg (by omega), if_pos h1]
      omega
    · rw [if_neg (by omega), if_neg (by omega), if_pos h1, List.length_cons]
      omega
  · rw [if_neg (by omega), if_neg (by omega), if_neg (by omega)]
    rcases opW_cases h1 with e | e | e | e | e | e | e | e | e | e | e | e | e | e <;> rw [e] <;> decide
theorem exprGo_all : ∀ (l : List Nd) (d : Int), exprGo l d = true → ∀ x ∈ l, nodeOk x = true
  | [], _, _ => by simp
  | x :: r, d, h => by
    rw [exprGo, Bool.and_eq_true, Bool.and_eq_true] at h
    intro y hy
    rcases List.mem_cons.1 hy with rfl | hy
    · exact h.1
    · exact exprGo_all r _ h.2.2 y hy
theorem rd_words {κ : Int} (h : 4 ≤ κ ∧ κ ≤ 17) : ∃ W, spec_l2Words.f = some W ∧ W.length = 18 ∧ rdOf ByteArray.empty W κ = ⟨(opW.getD (κ - 4).toNat []).toArray⟩ := by
  refine ⟨_, rfl, rfl, ?_⟩
  rcases opW_cases h with e | e | e | e | e | e | e | e | e | e | e | e | e | e <;> rw [e] <;> rfl
theorem spec_ExprText_j1 (l : List S124) (hl : l.length ≤ 30) (i : Nat) (hi : i < l.length) (acc : ByteArray) (ha : acc.size ≤ 1000) (hx : nodeOk (nd_ (l.getD i z124)) = true) {k : Nat} (hk : 30 ≤ k) :
    spec_ExprText.j1 (k + 1) l acc (i : Int) = spec_ExprText.l0 k l (acc ++ ⟨(nodeT (nd_ (l.getD i z124))).toArray⟩) ((i + 1 : Nat) : Int) := by
  have hrd : rd_T124 l (i : Int) = l.getD i z124 := by unfold rd_T124; rw [Int.toNat_natCast]
  simp only [spec_ExprText.j1]
  rw [if_pos (by omega), if_pos (by omega), hrd, up1 (by omega : i < l.length) (by omega)]
  have hT := nodeT_len hx
  have hin := nodeOk_in hx
  generalize l.getD i z124 = x at hT hin
  rw [show nodeT (nd_ x) = nodeT3 x.f0 x.f1 x.f2 from rfl] at hT ⊢
  replace hin : (x.f0 = 1 ∧ 0 ≤ x.f1 ∧ x.f1 ≤ 65535) ∨ ((x.f0 = 2 ∨ x.f0 = 3) ∧ x.f2.size ≤ 16) ∨ (4 ≤ x.f0 ∧ x.f0 ≤ 17) := hin
  unfold nodeT3 at hT ⊢
  rcases hin with ⟨h1, h2, h3⟩ | ⟨h1, h2⟩ | h1
  · rw [if_pos h1] at hT ⊢
    rw [if_pos h1]
    obtain ⟨m, hm⟩ : ∃ m : Nat, x.f1 = (m : Int) := ⟨x.f1.toNat, by omega⟩
    rw [hm] at hT ⊢
    rw [spec_l1Dec_pos m (by omega) (by omega)]
    simp only [Option.bind_some]
    rw [if_pos (by rw [bytes_size (Go.Lib.itoa (m : Int))]; omega)]
  · have hd : (⟨x.f2.data.toList.toArray⟩ : ByteArray) = x.f2 := rfl
    rcases h1 with h1 | h1
    · rw [if_neg (by omega), if_pos h1, if_pos (by omega), if_neg (by omega), if_pos h1, hd]
    · have hz : (acc ++ (⟨#[35]⟩ : ByteArray)).size = acc.size + 1 := by rw [ByteArray.size_append]; rfl
      rw [if_neg (by omega), if_neg (by omega), if_pos h1, if_pos (by omega), if_pos (by omega), if_neg (by omega), if_neg (by omega), if_pos h1]
      refine congrArg (fun z => spec_ExprText.l0 k l z _) ?_
      refine ByteArray.ext (Array.toList_inj.1 ?_)
      simp [ByteArray.data_append, Array.toList_append]
  · rw [if_neg (by omega), if_neg (by omega), if_neg (by omega)] at hT
    obtain ⟨W, hW, hWl, hr⟩ := rd_words h1
    rw [if_neg (by omega), if_neg (by omega), if_neg (by omega), hW, if_neg (by omega), if_neg (by omega), if_neg (by omega)]
    simp only [Option.bind_some]
    rw [hr, if_pos (by omega), if_pos (by omega), if_pos (by rw [bytes_size (opW.getD (x.f0 - 4).toNat [])]; omega)]
theorem spec_ExprText_l0 (l : List S124) (hl : l.length ≤ 30) (hok : ∀ x ∈ l, nodeOk (nd_ x) = true) : ∀ (n k i : Nat) (acc : ByteArray), i + n = l.length → 1 ≤ i → acc.size ≤ 20 * i → 2 * n + 40 < k → spec_ExprText.l0 k l acc (i : Int) = some ⟨(acc.data.toList ++ Go.Lib.joinTail [32] (((l.drop i).map nd_).map nodeT)).toArray⟩ := by
  intro n
  induction n with
  | zero =>
    intro k i acc hi h1 ha hk
    obtain ⟨k, rfl⟩ : ∃ m, k = m + 1 := ⟨k - 1, by omega⟩
    simp only [spec_ExprText.l0]
    rw [if_neg (by omega), List.drop_eq_nil_of_le (by omega)]
    simp [Go.Lib.joinTail]
  | succ n ih =>
    intro k i acc hi h1 ha hk
    obtain ⟨k, rfl⟩ : ∃ m, k = m + 2 := ⟨k - 2, by omega⟩
    have hx := hok _ (getD_mem z124 l i (by omega))
    have hz : (acc ++ (⟨#[32]⟩ : ByteArray)).size = acc.size + 1 := by rw [ByteArray.size_append]; rfl
    have hT := nodeT_len hx
    rw [spec_ExprText.l0, if_pos (by omega), if_pos (by omega), if_pos (by omega), spec_ExprText_j1 l hl i (by omega) _ (by omega) hx (by omega)]
    rw [ih k (i + 1) _ (by omega) (by omega) (by rw [ByteArray.size_append, hz, bytes_size (nodeT (nd_ (l.getD i z124)))]; omega) (by omega), drop_at z124 l i (by omega), List.map_cons, List.map_cons, jtail_cons]
    simp [ByteArray.data_append, Array.toList_append]
/-- The text of an expression. -/
def exprT (l : List Nd) : ByteArray := if exprOk l = true then ⟨(Go.Lib.join (l.map nodeT) [32]).toArray⟩ else ⟨#[]⟩
theorem exprOk_parts {l : List Nd} (h : exprOk l = true) : l.length ≤ 30 ∧ 1 ≤ l.length ∧ ∀ x ∈ l, nodeOk x = true := by
  unfold exprOk at h
  rw [Bool.and_eq_true, decide_eq_true_eq] at h
  refine ⟨by omega, ?_, exprGo_all l 0 h.2⟩
  cases l with
  | nil => exact absurd h.2 (by decide)
  | cons x r => simp
theorem spec_ExprText_eq (l : List S124) (hl : l.length ≤ 1048576) {k : Nat} (hk : l.length + 200 ≤ k) : spec_ExprText.f k l = some (exprT (l.map nd_)) := by
  unfold spec_ExprText.f exprT
  rw [spec_ExprOk_eq l hl (by omega)]
  simp only [Option.bind_some]
  by_cases h : exprOk (l.map nd_) = true
  · rw [if_pos h, if_pos h]
    obtain ⟨h1, h2, h3⟩ := exprOk_parts h
    rw [List.length_map] at h1 h2
    have hok : ∀ x ∈ l, nodeOk (nd_ x) = true := fun x hx => h3 _ (List.mem_map_of_mem hx)
    obtain ⟨k, rfl⟩ : ∃ m, k = m + 2 := ⟨k - 2, by omega⟩
    have hx := hok _ (getD_mem z124 l 0 (by omega))
    have hT := nodeT_len hx
    have hj := spec_ExprText_j1 l h1 0 (by omega) ⟨#[]⟩ (by show 0 ≤ 1000; omega) hx (k := k) (by omega)
    rw [show ((0 : Nat) : Int) = 0 from rfl] at hj
    rw [spec_ExprText.l0, if_pos (by omega), if_neg (by omega), hj, spec_ExprText_l0 l h1 hok (l.length - 1) k 1 _ (by omega) (by omega) (by rw [ByteArray.size_append, bytes_size (nodeT (nd_ (l.getD 0 z124))), show (⟨#[]⟩ : ByteArray).size = 0 from rfl]; omega) (by omega)]
    have hd := drop_at z124 l 0 (by omega)
    rw [List.drop_zero] at hd
    have hm : (l.map nd_).map nodeT = nodeT (nd_ (l.getD 0 z124)) :: (((l.drop 1).map nd_).map nodeT) := by
      conv => lhs; rw [hd]
      rfl
    rw [hm, Go.Lib.join_cons]
    simp [ByteArray.data_append, Array.toList_append]
  · rw [if_neg h, if_neg h]

theorem opWords_eq : impl_opWords.f = some (opW.map fun l => (⟨l.toArray⟩ : ByteArray)) := by
  have hs : ∀ (s : ByteArray), s.size ≤ 1000 → strings_Split.f s ⟨#[32]⟩ = some ((sp 32 s.data.toList).map fun l => (⟨l.toArray⟩ : ByteArray)) := by
    intro s hz
    unfold strings_Split.f
    rw [if_pos (by omega), if_pos (by show 1 ≤ 1; omega)]
    refine congrArg some (map_data _ _ ?_)
    rw [Go.Lib.splitB_data]
    exact splitK_sp 32 _ _ rfl
  unfold impl_opWords.f
  rw [hs _ (by decide)]
  rfl
theorem impl_exprText_l0 (l : List S124) (hl : l.length ≤ 30) (hok : ∀ x ∈ l, nodeOk (nd_ x) = true) : ∀ (n k i : Nat) (acc : List ByteArray), i + n = l.length → acc.length = i → n < k → impl_exprText.l0 k acc l (l.length : Int) (i : Int) = strings_Join.f (acc ++ (((l.drop i).map nd_).map nodeT).map fun l => (⟨l.toArray⟩ : ByteArray)) ⟨#[32]⟩ := by
  have hb0 : ∀ o : Option ByteArray, (o.bind fun t => some t) = o := fun o => by cases o <;> rfl
  intro n
  induction n with
  | zero =>
    intro k i acc hi ha hk
    obtain ⟨k, rfl⟩ : ∃ m, k = m + 1 := ⟨k - 1, by omega⟩
    simp only [impl_exprText.l0]
    rw [if_neg (by omega), List.drop_eq_nil_of_le (by omega), hb0]
    simp
  | succ n ih =>
    intro k i acc hi ha hk
    obtain ⟨k, rfl⟩ : ∃ m, k = m + 1 := ⟨k - 1, by omega⟩
    have hx := hok _ (getD_mem z124 l i (by omega))
    have hrd : rd_T124 l (i : Int) = l.getD i z124 := by unfold rd_T124; rw [Int.toNat_natCast]
    have hlen : acc.length < 8796093022208 := by omega
    have next : ∀ (t : ByteArray), t = ⟨(nodeT (nd_ (l.getD i z124))).toArray⟩ → impl_exprText.l0 k (acc ++ [t]) l (l.length : Int) ((i + 1 : Nat) : Int) = strings_Join.f (acc ++ (((l.drop i).map nd_).map nodeT).map fun l => (⟨l.toArray⟩ : ByteArray)) ⟨#[32]⟩ := by
      intro t ht
      rw [ih k (i + 1) _ (by omega) (by rw [List.length_append, List.length_singleton]; omega) (by omega), drop_at z124 l i (by omega), ht]
      simp
    simp only [impl_exprText.l0]
    rw [if_pos (by omega), if_pos (by omega), if_pos (by omega), hrd, up1 (by omega : i < l.length) (by omega)]
    have hin := nodeOk_in hx
    generalize l.getD i z124 = x at hin next
    rw [show nodeT (nd_ x) = nodeT3 x.f0 x.f1 x.f2 from rfl] at next
    replace hin : (x.f0 = 1 ∧ 0 ≤ x.f1 ∧ x.f1 ≤ 65535) ∨ ((x.f0 = 2 ∨ x.f0 = 3) ∧ x.f2.size ≤ 16) ∨ (4 ≤ x.f0 ∧ x.f0 ≤ 17) := hin
    unfold nodeT3 at next
    rcases hin with ⟨h1, h2, h3⟩ | ⟨h1, h2⟩ | h1
    · rw [if_pos h1] at next ⊢
      unfold impl_decimal.f strconv_FormatInt.f
      rw [if_pos rfl, if_pos (by omega), if_pos (by omega)]
      simp only [Option.bind_some]
      rw [if_pos hlen]
      exact next _ rfl
    · have hd : (⟨x.f2.data.toList.toArray⟩ : ByteArray) = x.f2 := rfl
      rcases h1 with h1 | h1
      · rw [if_neg (by omega), if_pos h1, if_pos hlen]
        rw [if_neg (by omega), if_pos h1] at next
        exact next _ rfl
      · rw [if_neg (by omega), if_neg (by omega), if_pos h1, if_pos (by omega), if_pos hlen]
        rw [if_neg (by omega), if_neg (by omega), if_pos h1] at next
        refine next _ ?_
        refine ByteArray.ext (Array.toList_inj.1 ?_)
        simp [ByteArray.data_append, Array.toList_append]
    · rw [if_neg (by omega), if_neg (by omega), if_neg (by omega), opWords_eq]
      rw [if_neg (by omega), if_neg (by omega), if_neg (by omega)] at next
      have hw : wrap64 (x.f0 - 4) = x.f0 - 4 := w64 (by omega) (by omega)
      simp only [Option.bind_some]
      have hwl : ((opW.map fun l => (⟨l.toArray⟩ : ByteArray)).length : Int) = 14 := rfl
      rw [hw, hwl, if_pos (by omega), if_pos (by omega), if_pos hlen]
      refine next _ ?_
      rcases opW_cases h1 with e | e | e | e | e | e | e | e | e | e | e | e | e | e <;> rw [e] <;> rfl
theorem join_len_le (c : UInt8) (m : Nat) : ∀ xs : List (List UInt8), (∀ x ∈ xs, x.length ≤ m) → (Go.Lib.join xs [c]).length ≤ (m + 1) * xs.length
  | [], _ => by simp [Go.Lib.join_nil]
  | [x], h => by
    have := h x List.mem_cons_self
    rw [Go.Lib.join_one]
    simp
    omega
  | x :: y :: r, h => by
    have h1 := h x List.mem_cons_self
    have h2 := join_len_le c m (y :: r) (fun z hz => h z (List.mem_cons_of_mem _ hz))
    rw [join_cons2, List.length_append, List.length_append, List.length_singleton]
    rw [List.length_cons (a := x), Nat.mul_succ]
    omega
theorem impl_exprText_eq (l : List S124) (h : exprOk (l.map nd_) = true) {k : Nat} (hk : 40 ≤ k) : impl_exprText.f k l = some (exprT (l.map nd_)) := by
  unfold exprT
  rw [if_pos h]
  obtain ⟨h1, h2, h3⟩ := exprOk_parts h
  have h1' := h1
  rw [List.length_map] at h1 h2
  have hok : ∀ x ∈ l, nodeOk (nd_ x) = true := fun x hx => h3 _ (List.mem_map_of_mem hx)
  have hj := impl_exprText_l0 l h1 hok l.length k 0 [] (by omega) rfl (by omega)
  rw [show ((0 : Nat) : Int) = 0 from rfl, List.drop_zero, List.nil_append] at hj
  unfold impl_exprText.f
  rw [hj]
  have hlen := join_len_le 32 17 ((l.map nd_).map nodeT) (by
    intro x hx
    obtain ⟨y, hy, rfl⟩ := List.mem_map.1 hx
    exact nodeT_len (h3 y hy))
  rw [List.length_map, List.length_map] at hlen
  have hd : ((((l.map nd_).map nodeT).map fun l => (⟨l.toArray⟩ : ByteArray)).map (·.data.toList)) = (l.map nd_).map nodeT := by
    rw [List.map_map]
    conv => rhs; rw [← List.map_id ((l.map nd_).map nodeT)]
    apply List.map_congr_left
    intro x _
    rfl
  have e32 : (⟨#[32]⟩ : ByteArray).data.toList = [32] := rfl
  unfold strings_Join.f
  rw [hd, e32, if_pos (by simp only [List.length_map]; omega), if_pos (by omega)]

def patOk (n : Int) (x : S79) : Bool := inR x.f1 1 3 && (inR x.f0 0 (n - (if x.f1 = 2 then 2 else 1)) && exprOk (x.f2.map nd_))
def secBase (kd : Int) : Int := if kd = 0 then 0 else if kd = 1 then 256 else 49152
def isZero (b : Int) : Bool := b == 0
def secOk (nm : ByteArray) (kd bk ad : Int) (dt : ByteArray) (l : List S79) : Bool :=
  nameOk nm && (inR kd 0 2 && (decide (dt.size ≤ 256) && (decide (l.length ≤ 256) && ((decide (ad = -1) || inR ad (secBase kd) (secBase kd + 256 - dt.size)) && ((decide (bk = -1) || (decide (kd = 1) && inR bk 1 15)) && ((l.all (patOk dt.size) && (decide (kd ≠ 2) || l.isEmpty)) && (decide (kd ≠ 2) || allB isZero dt dt.size 0)))))))
theorem spec_l9Patch_eq (x : S79) (n : Int) (h0 : 0 ≤ n) (h1 : n ≤ 1048576) (hx : x.f2.length ≤ 1048576) {k : Nat} (hk : 1100000 ≤ k) : spec_l9Patch.f k x.f0 x.f1 x.f2 n = some (patOk n x) := by
  unfold spec_l9Patch.f patOk
  simp only [spec_l1In_eq, Option.bind_some]
  rw [spec_ExprOk_eq x.f2 hx (by omega), w64 (n := n - 2) (by omega) (by omega), w64 (n := n - 1) (by omega) (by omega)]
  by_cases c : x.f1 = 2
  · rw [if_pos c, if_pos c]
    by_cases c1 : inR x.f1 1 3 = true
    · rw [if_pos c1, c1]
      by_cases c2 : inR x.f0 0 (n - 2) = true
      · rw [if_pos c2, c2]
        simp
      · rw [if_neg c2, Bool.eq_false_iff.2 c2]
        simp
    · rw [if_neg c1, Bool.eq_false_iff.2 c1]
      simp
  · rw [if_neg c, if_neg c]
    by_cases c1 : inR x.f1 1 3 = true
    · rw [if_pos c1, c1]
      by_cases c2 : inR x.f0 0 (n - 1) = true
      · rw [if_pos c2, c2]
        simp
      · rw [if_neg c2, Bool.eq_false_iff.2 c2]
        simp
    · rw [if_neg c1, Bool.eq_false_iff.2 c1]
      simp
theorem spec_SectionOk_l1 (nm : ByteArray) (kd bk ad : Int) (dt : ByteArray) (l : List S79) (hd : dt.size ≤ 1048576) : ∀ (n k i : Nat), i + n = dt.size → 2 * n + 2 ≤ k → spec_SectionOk.l1 k (i : Int) nm kd bk ad dt l = some (decide (kd ≠ 2) || allB isZero dt n i) := by
  intro n
  induction n with
  | zero =>
    intro k i hi hk
    obtain ⟨k, rfl⟩ : ∃ m, k = m + 2 := ⟨k - 2, by omega⟩
    simp only [spec_SectionOk.l1, spec_SectionOk.j5]
    rw [if_neg (by omega), if_neg (by decide)]
    simp [allB]
  | succ n ih =>
    intro k i hi hk
    obtain ⟨k, rfl⟩ : ∃ m, k = m + 2 := ⟨k - 2, by omega⟩
    simp only [spec_SectionOk.l1, spec_SectionOk.j5]
    rw [if_pos (by omega)]
    by_cases c : kd = 2
    · rw [if_pos (by simpa using c), if_pos (by omega), if_pos (by omega), up1 (by omega : i < dt.size) (by omega)]
      by_cases c1 : bt dt (i : Int) = 0
      · rw [if_pos c1, ih k (i + 1) (by omega) (by omega)]
        simp [allB, isZero, c1]
      · rw [if_neg c1]
        simp [allB, isZero, c1, c]
    · rw [if_neg (by simpa using c)]
      simp [c]
theorem spec_SectionOk_l0 (nm : ByteArray) (kd bk ad : Int) (dt : ByteArray) (l : List S79) (hd : dt.size ≤ 1048576) (hl : l.length ≤ 1048576) (hx : ∀ x ∈ l, x.f2.length ≤ 1048576) : ∀ (n k i : Nat), i + n = l.length → n + 2200000 ≤ k →
    spec_SectionOk.l0 k (dt.size : Int) (i : Int) nm kd bk ad dt l = some (((l.drop i).all (patOk dt.size) && (decide (kd ≠ 2) || (l.drop i).isEmpty)) && (decide (kd ≠ 2) || allB isZero dt dt.size 0)) := by
  intro n
  induction n with
  | zero =>
    intro k i hi hk
    obtain ⟨k, rfl⟩ : ∃ m, k = m + 1 := ⟨k - 1, by omega⟩
    simp only [spec_SectionOk.l0]
    rw [if_neg (by omega), List.drop_eq_nil_of_le (by omega)]
    have := spec_SectionOk_l1 nm kd bk ad dt l hd dt.size k 0 (by omega) (by omega)
    rw [show ((0 : Nat) : Int) = 0 from rfl] at this
    rw [this]
    simp
  | succ n ih =>
    intro k i hi hk
    obtain ⟨k, rfl⟩ : ∃ m, k = m + 1 := ⟨k - 1, by omega⟩
    have hrd : rd_T79 l (i : Int) = l.getD i z79 := by unfold rd_T79; rw [Int.toNat_natCast]
    have hm := hx _ (getD_mem z79 l i (by omega))
    simp only [spec_SectionOk.l0]
    rw [if_pos (by omega), if_pos (by omega), hrd, drop_at z79 l i (by omega)]
    generalize l.getD i z79 = x at hm ⊢
    rw [spec_l9Patch_eq x _ (by omega) (by omega) hm (by omega)]
    simp only [Option.bind_some]
    by_cases c : patOk (dt.size : Int) x = true
    · rw [if_pos c]
      by_cases c1 : kd = 2
      · rw [if_pos c1]
        simp [c1]
      · rw [if_neg c1, up1 (by omega : i < l.length) (by omega), ih k (i + 1) (by omega) (by omega)]
        simp [c, c1]
    · rw [if_neg c]
      simp [c]
theorem spec_SectionOk_eq (nm : ByteArray) (kd bk ad : Int) (dt : ByteArray) (l : List S79) (hd : dt.size ≤ 1048576) (hl : l.length ≤ 1048576) (hx : ∀ x ∈ l, x.f2.length ≤ 1048576) {k : Nat} (hk : 3300000 ≤ k) : spec_SectionOk.f k nm kd bk ad dt l = some (secOk nm kd bk ad dt l) := by
  obtain ⟨k, rfl⟩ : ∃ m, k = m + 3 := ⟨k - 3, by omega⟩
  have L0 := spec_SectionOk_l0 nm kd bk ad dt l hd hl hx l.length k 0 (by omega) (by omega)
  rw [show ((0 : Nat) : Int) = 0 from rfl, List.drop_zero] at L0
  unfold spec_SectionOk.f secOk
  simp only [spec_SectionOk.j0, spec_SectionOk.j1, spec_SectionOk.j2, spec_l1In_eq, spec_NameOk_eq nm (show 20 ≤ k + 3 by omega), Option.bind_some, L0, spec_l9Base.f]
  by_cases c1 : nameOk nm = true
  · rw [if_pos c1, c1]
    by_cases c2 : inR kd 0 2 = true
    · rw [if_pos c2, c2]
      by_cases c3 : dt.size ≤ 256
      · rw [if_neg (show ¬ (dt.size : Int) > 256 by omega), decide_eq_true c3]
        by_cases c4 : l.length ≤ 256
        · rw [decide_eq_false (show ¬ (l.length : Int) > 256 by omega), if_neg (by decide), decide_eq_true c4]
          obtain ⟨hk0, hk2⟩ := inR_iff.1 c2
          have hb : (if kd = 0 then some (0 : Int) else if kd = 1 then some 256 else some 49152) = some (secBase kd) := by
            unfold secBase
            by_cases e0 : kd = 0
            · rw [if_pos e0, if_pos e0]
            · rw [if_neg e0, if_neg e0]
              by_cases e1 : kd = 1
              · rw [if_pos e1, if_pos e1]
              · rw [if_neg e1, if_neg e1]
          have hbr : 0 ≤ secBase kd ∧ secBase kd ≤ 49152 := by
            unfold secBase
            split
            · omega
            · split <;> omega
          rw [hb]
          simp only [Option.bind_some]
          rw [w64 (n := secBase kd + 256) (by omega) (by omega), w64 (n := secBase kd + 256 - (dt.size : Int)) (by omega) (by omega)]
          by_cases c5 : ad = -1
          · rw [if_pos c5, if_neg (by decide), decide_eq_true c5]
            by_cases c6 : bk = -1
            · rw [if_pos c6, if_neg (by decide), decide_eq_true c6]
              simp
            · rw [if_neg c6, decide_eq_false c6]
              by_cases c7 : kd = 1
              · rw [if_pos c7, decide_eq_true c7]
                cases inR bk 1 15 <;> simp
              · rw [if_neg c7, decide_eq_false c7]
                simp
          · rw [if_neg c5, decide_eq_false c5]
            cases c8 : inR ad (secBase kd) (secBase kd + 256 - (dt.size : Int)) with
            | false => simp
            | true =>
              simp only [Bool.not_true]
              rw [if_neg (by decide)]
              by_cases c6 : bk = -1
              · rw [if_pos c6, if_neg (by decide), decide_eq_true c6]
                simp
              · rw [if_neg c6, decide_eq_false c6]
                by_cases c7 : kd = 1
                · rw [if_pos c7, decide_eq_true c7]
                  cases inR bk 1 15 <;> simp
                · rw [if_neg c7, decide_eq_false c7]
                  simp
        · rw [decide_eq_true (show (l.length : Int) > 256 by omega), if_pos rfl, decide_eq_false c4]
          simp
      · rw [if_pos (show (dt.size : Int) > 256 by omega), decide_eq_false c3]
        simp
    · rw [if_neg c2, Bool.eq_false_iff.2 c2]
      simp
  · rw [if_neg c1, Bool.eq_false_iff.2 c1]
    simp

--NEEDS impl_Patch
theorem zeros_drop (s : ByteArray) : ∀ (n i : Nat), i + n = s.size → (allB isZero s n i = true ↔ s.data.toList.drop i = Go.Lib.repeatL [0] n) := by
  intro n
  induction n with
  | zero =>
    intro i hi
    rw [drop_end s i (by omega)]
    simp [allB, Go.Lib.repeatL]
  | succ n ih =>
    intro i hi
    obtain ⟨x, h1, h2⟩ := bt_drop s i (by omega)
    rw [h1]
    simp only [allB, Go.Lib.repeatL, List.singleton_append, List.cons.injEq, Bool.and_eq_true, ih (i + 1) (by omega)]
    rw [h2]
    have : isZero (x.toNat : Int) = true ↔ x = 0 := by
      unfold isZero
      rw [beq_iff_eq]
      exact nat_eq x 0 (by decide)
    rw [this]
theorem zeros_eq (s : ByteArray) : (s.toList = (⟨(Go.Lib.repeatL [0] s.size).toArray⟩ : ByteArray).toList) ↔ allB isZero s s.size 0 = true := by
  rw [zeros_drop s s.size 0 (by omega), List.drop_zero]
  constructor
  · intro h
    have := toList_inj h
    conv => lhs; rw [this]
  · intro h
    have : s = (⟨(Go.Lib.repeatL [0] s.size).toArray⟩ : ByteArray) := by
      conv => lhs; rw [show s = ⟨s.data⟩ from rfl, ← Array.toArray_toList (xs := s.data), h]
    rw [← this]
theorem impl_isPatch_eq (nm : ByteArray) (kd bk ad : Int) (dt : ByteArray) (l : List S79) (x : S79) (hd : dt.size ≤ 1048576) {k : Nat} (hk : 100 ≤ k) : impl_isPatch.f k nm kd bk ad dt l x.f0 x.f1 x.f2 = some (patOk dt.size x) := by
  unfold impl_isPatch.f patOk
  simp only [impl_within_eq, Option.bind_some]
  rw [impl_ExprOk_eq x.f2 (by omega), w64 (n := (dt.size : Int) - 2) (by omega) (by omega), w64 (n := (dt.size : Int) - 1) (by omega) (by omega)]
  by_cases c : x.f1 = 2
  · rw [if_pos c, if_pos c]
    by_cases c1 : inR x.f1 1 3 = true
    · rw [if_pos c1, c1]
      by_cases c2 : inR x.f0 0 ((dt.size : Int) - 2) = true
      · rw [if_pos c2, c2]
        simp
      · rw [if_neg c2, Bool.eq_false_iff.2 c2]
        simp
    · rw [if_neg c1, Bool.eq_false_iff.2 c1]
      simp
  · rw [if_neg c, if_neg c]
    by_cases c1 : inR x.f1 1 3 = true
    · rw [if_pos c1, c1]
      by_cases c2 : inR x.f0 0 ((dt.size : Int) - 1) = true
      · rw [if_pos c2, c2]
        simp
      · rw [if_neg c2, Bool.eq_false_iff.2 c2]
        simp
    · rw [if_neg c1, Bool.eq_false_iff.2 c1]
      simp
theorem impl_Patch_go (nm : ByteArray) (kd bk ad : Int) (dt : ByteArray) (l : List S79) (hd : dt.size ≤ 1048576) {k : Nat} (hk : 100 ≤ k) : ∀ (y : List S79) (i : Int), 0 ≤ i → ∃ r, impl_Patch.go k nm kd bk ad dt l y i = some r ∧ decide (0 ≤ r) = !(y.all (patOk dt.size))
  | [], i, _ => ⟨-1, rfl, rfl⟩
  | x :: r, i, h => by
    rw [impl_Patch.go, impl_isPatch_eq nm kd bk ad dt l x hd hk]
    simp only [Option.bind_some]
    by_cases c : patOk (dt.size : Int) x = true
    · rw [if_pos c]
      obtain ⟨j, hj, hd2⟩ := impl_Patch_go nm kd bk ad dt l hd hk r (i + 1) (by omega)
      exact ⟨j, hj, by rw [hd2]; simp [c]⟩
    · rw [if_neg c]
      exact ⟨i, rfl, by rw [decide_eq_true h]; simp [c]⟩
theorem impl_Patch_eq (nm : ByteArray) (kd bk ad : Int) (dt : ByteArray) (l : List S79) (hd : dt.size ≤ 1048576) {k : Nat} (hk : 100 ≤ k) : impl_Patch.f k l nm kd bk ad dt l = some (!(l.all (patOk dt.size))) := by
  unfold impl_Patch.f
  obtain ⟨r, h1, h2⟩ := impl_Patch_go nm kd bk ad dt l hd hk l 0 (by omega)
  rw [h1]
  simp only [Option.bind_some]
  rw [h2]
theorem impl_SectionOk_eq (nm : ByteArray) (kd bk ad : Int) (dt : ByteArray) (l : List S79) (hd : dt.size ≤ 1048576) (hl : l.length ≤ 1048576) {k : Nat} (hk : 3300000 ≤ k) : impl_SectionOk.f k nm kd bk ad dt l = some (secOk nm kd bk ad dt l) := by
  obtain ⟨k, rfl⟩ : ∃ m, k = m + 2 := ⟨k - 2, by omega⟩
  have hz := zeros_eq dt
  unfold impl_SectionOk.f secOk
  simp only [impl_SectionOk.j0, impl_SectionOk.j1, impl_within_eq, impl_NameOk_eq nm (show 20 ≤ k + 2 by omega), impl_noughts_eq dt.size hd, Option.bind_some, impl_Patch_eq nm kd bk ad dt l hd (show 100 ≤ k by omega), impl_baseOf.f]
  by_cases c1 : nameOk nm = true
  · rw [if_pos c1, c1]
    by_cases c2 : inR kd 0 2 = true
    · rw [if_pos c2, c2]
      by_cases c3 : dt.size ≤ 256
      · rw [if_neg (show ¬ (dt.size : Int) > 256 by omega), decide_eq_true c3]
        by_cases c4 : l.length ≤ 256
        · rw [decide_eq_false (show ¬ (l.length : Int) > 256 by omega), if_neg (by decide), decide_eq_true c4]
          obtain ⟨hk0, hk2⟩ := inR_iff.1 c2
          have hb : (if kd = 1 then some (256 : Int) else if kd = 2 then some 49152 else some 0) = some (secBase kd) := by
            unfold secBase
            by_cases e1 : kd = 1
            · rw [if_pos e1, if_neg (by omega), if_pos e1]
            · rw [if_neg e1]
              by_cases e2 : kd = 2
              · rw [if_pos e2, if_neg (by omega), if_neg (by omega)]
              · rw [if_neg e2, if_pos (by omega)]
          have hbr : 0 ≤ secBase kd ∧ secBase kd ≤ 49152 := by
            unfold secBase
            split
            · omega
            · split <;> omega
          rw [hb]
          simp only [Option.bind_some]
          rw [w64 (n := secBase kd + 256) (by omega) (by omega), w64 (n := secBase kd + 256 - (dt.size : Int)) (by omega) (by omega)]
          have he : l.isEmpty = decide (¬ (l.length : Int) > 0) := by
            cases l with
            | nil => rfl
            | cons x r => simp
          by_cases e2 : kd = 2
          · rw [if_pos e2]
            simp only [hz, he]
            by_cases c9 : allB isZero dt dt.size 0 = true
            · rw [if_pos c9, c9]
              by_cases c10 : (l.length : Int) > 0
              · have hl0 : 0 < l.length := by omega
                have hne : l ≠ [] := by
                  intro h
                  rw [h] at hl0
                  exact absurd hl0 (by decide)
                simp [e2, hl0, hne]
              · simp only [c10, e2]
                cases hp : l.all (patOk (dt.size : Int)) <;> by_cases c5 : ad = -1 <;> by_cases c6 : bk = -1 <;> cases c8 : inR ad (secBase 2) (secBase 2 + 256 - (dt.size : Int)) <;> simp_all
            · rw [if_neg c9, Bool.eq_false_iff.2 c9]
              simp [e2]
          · rw [if_neg e2]
            cases hp : l.all (patOk (dt.size : Int)) <;> by_cases c5 : ad = -1 <;> by_cases c6 : bk = -1 <;> by_cases c7 : kd = 1 <;> cases c8 : inR ad (secBase kd) (secBase kd + 256 - (dt.size : Int)) <;> cases c11 : inR bk 1 15 <;> simp_all
        · rw [decide_eq_true (show (l.length : Int) > 256 by omega), if_pos rfl, decide_eq_false c4]
          simp
      · rw [if_pos (show (dt.size : Int) > 256 by omega), decide_eq_false c3]
        simp
    · rw [if_neg c2, Bool.eq_false_iff.2 c2]
      simp
  · rw [if_neg c1, Bool.eq_false_iff.2 c1]
    simp

--NEEDS laws_szSection laws_szENodeSS
theorem laws_szOSymS_l0 (l : List S65) (hl : l.length ≤ 1048576) (hn : ∀ x ∈ l, x.f0.size ≤ maxLen) : ∀ (n k i : Nat) (left : Int), i + n = l.length → n < k → 0 ≤ left → left ≤ 1048576 → ∃ t, laws_szOSymS.l0 k l left (i : Int) = some t ∧ t ≤ left := by
  intro n
  induction n with
  | zero =>
    intro k i left hi hk h0 h1
    obtain ⟨k, rfl⟩ : ∃ m, k = m + 1 := ⟨k - 1, by omega⟩
    refine ⟨left, ?_, Int.le_refl _⟩
    simp only [laws_szOSymS.l0]
    rw [if_neg (by omega)]
  | succ n ih =>
    intro k i left hi hk h0 h1
    obtain ⟨k, rfl⟩ : ∃ m, k = m + 1 := ⟨k - 1, by omega⟩
    have hrd : rd_T65 l (i : Int) = l.getD i z65 := by unfold rd_T65; rw [Int.toNat_natCast]
    have hx := hn _ (getD_mem z65 l i (by omega))
    simp only [laws_szOSymS.l0, laws_szOSym.f]
    rw [if_pos (by omega), if_pos (by omega), up1 (by omega : i < l.length) (by omega), hrd]
    generalize l.getD i z65 = x at hx ⊢
    unfold maxLen at hx
    rw [w64 (n := left - (x.f0.size : Int)) (by omega) (by omega)]
    by_cases hc : left - (x.f0.size : Int) < 0
    · rw [if_pos hc]
      exact ⟨-1, rfl, by omega⟩
    · rw [if_neg hc]
      simp only [Option.bind_some]
      rw [if_neg hc]
      obtain ⟨u, hu, hle2⟩ := ih k (i + 1) (left - (x.f0.size : Int)) (by omega) (by omega) (by omega) (by omega)
      exact ⟨u, hu, by omega⟩
theorem laws_szOSymS_some (l : List S65) (hl : l.length ≤ maxLen) (hn : ∀ x ∈ l, x.f0.size ≤ maxLen) {k : Nat} {left : Int} (h0 : 0 ≤ left) (h1 : left ≤ 1048576) (hk : 1048577 ≤ k) :
    ∃ t, laws_szOSymS.f k l left = some t ∧ t ≤ left ∧ (0 ≤ t → l.length ≤ 1048576) := by
  unfold maxLen at hl
  unfold laws_szOSymS.f
  rw [w64 (by omega) (by omega)]
  by_cases hc : left - (l.length : Int) < 0
  · rw [if_pos hc]
    exact ⟨-1, rfl, by omega, by omega⟩
  · rw [if_neg hc]
    obtain ⟨t, ht, hle⟩ := laws_szOSymS_l0 l (by omega) hn l.length k 0 (left - l.length) (by omega) (by omega) (by omega) (by omega)
    exact ⟨t, ht, by omega, fun h => by omega⟩
theorem laws_szENodeSS_l0 (l : List (List S119)) (hl : l.length ≤ 1048576) (hn : ∀ x ∈ l, x.length ≤ maxLen ∧ ∀ y ∈ x, y.f2.size ≤ maxLen) : ∀ (n k i : Nat) (left : Int), i + n = l.length → n + 1048578 ≤ k → 0 ≤ left → left ≤ 1048576 → ∃ t, laws_szENodeSS.l0 k l left (i : Int) = some t ∧ t ≤ left ∧ (0 ≤ t → ∀ x ∈ l.drop i, x.length ≤ 1048576) := by
  intro n
  induction n with
  | zero =>
    intro k i left hi hk h0 h1
    obtain ⟨k, rfl⟩ : ∃ m, k = m + 1 := ⟨k - 1, by omega⟩
    refine ⟨left, ?_, Int.le_refl _, ?_⟩
    · simp only [laws_szENodeSS.l0]
      rw [if_neg (by omega)]
    · intro _ x hx
      rw [List.drop_eq_nil_of_le (by omega)] at hx
      cases hx
  | succ n ih =>
    intro k i left hi hk h0 h1
    obtain ⟨k, rfl⟩ : ∃ m, k = m + 1 := ⟨k - 1, by omega⟩
    have hrd : rd_L3 l (i : Int) = l.getD i [] := by unfold rd_L3; rw [Int.toNat_natCast]
    simp only [laws_szENodeSS.l0]
    rw [if_pos (by omega), if_pos (by omega), up1 (by omega : i < l.length) (by omega), hrd, drop_at [] l i (by omega)]
    have hx := hn _ (getD_mem [] l i (by omega))
    generalize l.getD i [] = x at hx ⊢
    obtain ⟨t, ht, hle, hlen⟩ := laws_szENodeS_some x hx.1 hx.2 (k := k) h0 h1 (by omega)
    rw [ht]
    simp only [Option.bind_some]
    by_cases hc : t < 0
    · rw [if_pos hc]
      exact ⟨-1, rfl, by omega, by omega⟩
    · rw [if_neg hc]
      obtain ⟨u, hu, hle2, hlen2⟩ := ih k (i + 1) t (by omega) (by omega) (by omega) (by omega)
      refine ⟨u, hu, by omega, fun h y hy => ?_⟩
      rcases List.mem_cons.1 hy with rfl | hy
      · exact hlen (by omega)
      · exact hlen2 h y hy
theorem laws_szENodeSS_some (l : List (List S119)) (hl : l.length ≤ maxLen) (hn : ∀ x ∈ l, x.length ≤ maxLen ∧ ∀ y ∈ x, y.f2.size ≤ maxLen) {k : Nat} {left : Int} (h0 : 0 ≤ left) (h1 : left ≤ 1048576) (hk : 2200000 ≤ k) :
    ∃ t, laws_szENodeSS.f k l left = some t ∧ t ≤ left ∧ (0 ≤ t → l.length ≤ 1048576 ∧ ∀ x ∈ l, x.length ≤ 1048576) := by
  unfold maxLen at hl
  unfold laws_szENodeSS.f
  rw [w64 (by omega) (by omega)]
  by_cases hc : left - (l.length : Int) < 0
  · rw [if_pos hc]
    exact ⟨-1, rfl, by omega, by omega⟩
  · rw [if_neg hc]
    obtain ⟨t, ht, hle, hlen⟩ := laws_szENodeSS_l0 l (by omega) hn l.length k 0 (left - l.length) (by omega) (by omega) (by omega) (by omega)
    exact ⟨t, ht, by omega, fun h => ⟨by omega, fun x hx => hlen h x (by rw [List.drop_zero]; exact hx)⟩⟩
def secFit (x : S62) : Prop := x.f4.size ≤ 1048576 ∧ x.f5.length ≤ 1048576 ∧ ∀ y ∈ x.f5, y.f2.length ≤ 1048576
def secBig (x : S62) : Prop := x.f0.size ≤ maxLen ∧ x.f4.size ≤ maxLen ∧ x.f5.length ≤ maxLen ∧ ∀ y ∈ x.f5, y.f2.length ≤ maxLen ∧ ∀ z ∈ y.f2, z.f2.size ≤ maxLen
theorem laws_szSectionS_l0 (l : List S62) (hl : l.length ≤ 1048576) (hn : ∀ x ∈ l, secBig x) : ∀ (n k i : Nat) (left : Int), i + n = l.length → n + 2200000 ≤ k → 0 ≤ left → left ≤ 1048576 → ∃ t, laws_szSectionS.l0 k l left (i : Int) = some t ∧ t ≤ left ∧ (0 ≤ t → ∀ x ∈ l.drop i, secFit x) := by
  intro n
  induction n with
  | zero =>
    intro k i left hi hk h0 h1
    obtain ⟨k, rfl⟩ : ∃ m, k = m + 1 := ⟨k - 1, by omega⟩
    refine ⟨left, ?_, Int.le_refl _, ?_⟩
    · simp only [laws_szSectionS.l0]
      rw [if_neg (by omega)]
    · intro _ x hx
      rw [List.drop_eq_nil_of_le (by omega)] at hx
      cases hx
  | succ n ih =>
    intro k i left hi hk h0 h1
    obtain ⟨k, rfl⟩ : ∃ m, k = m + 1 := ⟨k - 1, by omega⟩
    have hrd : rd_T62 l (i : Int) = l.getD i z62 := by unfold rd_T62; rw [Int.toNat_natCast]
    simp only [laws_szSectionS.l0]
    rw [if_pos (by omega), if_pos (by omega), up1 (by omega : i < l.length) (by omega), hrd, drop_at z62 l i (by omega)]
    have hx := hn _ (getD_mem z62 l i (by omega))
    generalize l.getD i z62 = x at hx ⊢
    obtain ⟨t, ht, hle, hlen⟩ := laws_szSection_some x.f0 x.f1 x.f2 x.f3 x.f4 x.f5 hx.1 hx.2.1 hx.2.2.1 hx.2.2.2 (k := k) h0 h1 (by omega)
    rw [ht]
    simp only [Option.bind_some]
    by_cases hc : t < 0
    · rw [if_pos hc]
      exact ⟨-1, rfl, by omega, by omega⟩
    · rw [if_neg hc]
      obtain ⟨u, hu, hle2, hlen2⟩ := ih k (i + 1) t (by omega) (by omega) (by omega) (by omega)
      refine ⟨u, hu, by omega, fun h y hy => ?_⟩
      rcases List.mem_cons.1 hy with rfl | hy
      · exact (hlen (by omega)).2
      · exact hlen2 h y hy
theorem laws_szSectionS_some (l : List S62) (hl : l.length ≤ maxLen) (hn : ∀ x ∈ l, secBig x) {k : Nat} {left : Int} (h0 : 0 ≤ left) (h1 : left ≤ 1048576) (hk : 3300000 ≤ k) :
    ∃ t, laws_szSectionS.f k l left = some t ∧ t ≤ left ∧ (0 ≤ t → l.length ≤ 1048576 ∧ ∀ x ∈ l, secFit x) := by
  unfold maxLen at hl
  unfold laws_szSectionS.f
  rw [w64 (by omega) (by omega)]
  by_cases hc : left - (l.length : Int) < 0
  · rw [if_pos hc]
    exact ⟨-1, rfl, by omega, by omega⟩
  · rw [if_neg hc]
    obtain ⟨t, ht, hle, hlen⟩ := laws_szSectionS_l0 l (by omega) hn l.length k 0 (left - l.length) (by omega) (by omega) (by omega) (by omega)
    exact ⟨t, ht, by omega, fun h => ⟨by omega, fun x hx => hlen h x (by rw [List.drop_zero]; exact hx)⟩⟩
theorem laws_szObject_some (a : List S62) (b : List S65) (c : List (List S119)) (ha : a.length ≤ maxLen) (hA : ∀ x ∈ a, secBig x) (hb : b.length ≤ maxLen) (hB : ∀ x ∈ b, x.f0.size ≤ maxLen) (hc : c.length ≤ maxLen) (hC : ∀ x ∈ c, x.length ≤ maxLen ∧ ∀ y ∈ x, y.f2.size ≤ maxLen) {k : Nat} {left : Int} (h0 : 0 ≤ left) (h1 : left ≤ 1048576) (hk : 3300000 ≤ k) :
    ∃ t, laws_szObject.f k a b c left = some t ∧ t ≤ left ∧ (0 ≤ t → (a.length ≤ 1048576 ∧ ∀ x ∈ a, secFit x) ∧ b.length ≤ 1048576 ∧ c.length ≤ 1048576 ∧ ∀ x ∈ c, x.length ≤ 1048576) := by
  unfold laws_szObject.f
  obtain ⟨t, ht, hle, hlen⟩ := laws_szSectionS_some a ha hA (k := k) h0 h1 hk
  rw [ht]
  simp only [Option.bind_some]
  by_cases c1 : t < 0
  · rw [if_pos c1]
    exact ⟨-1, rfl, by omega, by omega⟩
  rw [if_neg c1]
  obtain ⟨u, hu, hle2, hlen2⟩ := laws_szOSymS_some b hb hB (k := k) (left := t) (by omega) (by omega) (by omega)
  rw [hu]
  simp only [Option.bind_some]
  by_cases c2 : u < 0
  · rw [if_pos c2]
    exact ⟨-1, rfl, by omega, by omega⟩
  rw [if_neg c2]
  obtain ⟨v, hv, hle3, hlen3⟩ := laws_szENodeSS_some c hc hC (k := k) (left := u) (by omega) (by omega) (by omega)
  rw [hv]
  simp only [Option.bind_some]
  by_cases c3 : v < 0
  · rw [if_pos c3]
    exact ⟨-1, rfl, by omega, by omega⟩
  rw [if_neg c3]
  exact ⟨v, rfl, by omega, fun h => ⟨hlen (by omega), hlen2 (by omega), hlen3 h⟩⟩

--NEEDS laws_toSection laws_toENodeSS laws_szOSymS
def osymI (x : S65) : S72 := ⟨x.f0, x.f1, x.f2, x.f3⟩
theorem laws_toOSymS_l0 (l : List S65) (hl : l.length ≤ 1048576) : ∀ (n k i : Nat) (y : List S72), i + n = l.length → n < k → y.length = l.length → y.take i = (l.map osymI).take i → laws_toOSymS.l0 k l y (i : Int) = some (l.map osymI) := by
  intro n
  induction n with
  | zero =>
    intro k i y hi hk hy ht
    obtain ⟨k, rfl⟩ : ∃ m, k = m + 1 := ⟨k - 1, by omega⟩
    simp only [laws_toOSymS.l0]
    rw [if_neg (by omega)]
    obtain rfl : i = l.length := by omega
    rw [fill_end osymI l y hy ht]
  | succ n ih =>
    intro k i y hi hk hy ht
    obtain ⟨k, rfl⟩ : ∃ m, k = m + 1 := ⟨k - 1, by omega⟩
    have hrd : rd_T65 l (i : Int) = l.getD i z65 := by unfold rd_T65; rw [Int.toNat_natCast]
    simp only [laws_toOSymS.l0, laws_toOSym.f]
    rw [if_pos (by omega), if_pos (by omega), hrd]
    simp only [Option.bind_some]
    rw [if_pos (by omega), up1 (by omega : i < l.length) (by omega)]
    obtain ⟨h1, h2⟩ := fill_step z65 osymI l y i (by omega) hy ht
    exact ih k (i + 1) _ (by omega) (by omega) h1 h2
theorem laws_toOSymS_eq (l : List S65) (hl : l.length ≤ 1048576) {k : Nat} (hk : 2200000 ≤ k) : laws_toOSymS.f k l = some (l.map osymI) := by
  unfold laws_toOSymS.f
  rw [if_pos (by omega), if_pos (by omega)]
  exact laws_toOSymS_l0 l hl l.length k 0 _ (by omega) (by omega) (by simp) (by simp)
theorem laws_toENodeSS_l0 (l : List (List S119)) (hl : l.length ≤ 1048576) (hx : ∀ x ∈ l, x.length ≤ 1048576) : ∀ (n k i : Nat) (y : List (List S124)), i + n = l.length → n + 1048578 ≤ k → y.length = l.length → y.take i = (l.map (List.map nodeI)).take i → laws_toENodeSS.l0 k l y (i : Int) = some (l.map (List.map nodeI)) := by
  intro n
  induction n with
  | zero =>
    intro k i y hi hk hy ht
    obtain ⟨k, rfl⟩ : ∃ m, k = m + 1 := ⟨k - 1, by omega⟩
    simp only [laws_toENodeSS.l0]
    rw [if_neg (by omega)]
    obtain rfl : i = l.length := by omega
    rw [fill_end (List.map nodeI) l y hy ht]
  | succ n ih =>
    intro k i y hi hk hy ht
    obtain ⟨k, rfl⟩ : ∃ m, k = m + 1 := ⟨k - 1, by omega⟩
    have hrd : rd_L3 l (i : Int) = l.getD i [] := by unfold rd_L3; rw [Int.toNat_natCast]
    have hm := hx _ (getD_mem [] l i (by omega))
    simp only [laws_toENodeSS.l0]
    rw [if_pos (by omega), if_pos (by omega), hrd, laws_toENodeS_eq _ hm (by omega)]
    simp only [Option.bind_some]
    rw [if_pos (by omega), up1 (by omega : i < l.length) (by omega)]
    obtain ⟨h1, h2⟩ := fill_step [] (List.map nodeI) l y i (by omega) hy ht
    exact ih k (i + 1) _ (by omega) (by omega) h1 h2
theorem laws_toENodeSS_eq (l : List (List S119)) (hl : l.length ≤ 1048576) (hx : ∀ x ∈ l, x.length ≤ 1048576) {k : Nat} (hk : 2200000 ≤ k) : laws_toENodeSS.f k l = some (l.map (List.map nodeI)) := by
  unfold laws_toENodeSS.f
  rw [if_pos (by omega), if_pos (by omega)]
  exact laws_toENodeSS_l0 l hl hx l.length k 0 _ (by omega) (by omega) (by simp) (by simp)
def secI (x : S62) : S71 := ⟨x.f0, x.f1, x.f2, x.f3, x.f4, x.f5.map patI⟩
theorem laws_toSectionS_l0 (l : List S62) (hl : l.length ≤ 1048576) (hx : ∀ x ∈ l, secFit x) : ∀ (n k i : Nat) (y : List S71), i + n = l.length → n + 2200001 ≤ k → y.length = l.length → y.take i = (l.map secI).take i → laws_toSectionS.l0 k l y (i : Int) = some (l.map secI) := by
  intro n
  induction n with
  | zero =>
    intro k i y hi hk hy ht
    obtain ⟨k, rfl⟩ : ∃ m, k = m + 1 := ⟨k - 1, by omega⟩
    simp only [laws_toSectionS.l0]
    rw [if_neg (by omega)]
    obtain rfl : i = l.length := by omega
    rw [fill_end secI l y hy ht]
  | succ n ih =>
    intro k i y hi hk hy ht
    obtain ⟨k, rfl⟩ : ∃ m, k = m + 1 := ⟨k - 1, by omega⟩
    have hrd : rd_T62 l (i : Int) = l.getD i z62 := by unfold rd_T62; rw [Int.toNat_natCast]
    have hm := hx _ (getD_mem z62 l i (by omega))
    simp only [laws_toSectionS.l0]
    rw [if_pos (by omega), if_pos (by omega), hrd, laws_toSection_eq _ _ _ _ _ _ hm.2.1 hm.2.2 (by omega)]
    simp only [Option.bind_some]
    rw [if_pos (by omega), up1 (by omega : i < l.length) (by omega)]
    obtain ⟨h1, h2⟩ := fill_step z62 secI l y i (by omega) hy ht
    exact ih k (i + 1) _ (by omega) (by omega) h1 h2
theorem laws_toSectionS_eq (l : List S62) (hl : l.length ≤ 1048576) (hx : ∀ x ∈ l, secFit x) {k : Nat} (hk : 3300000 ≤ k) : laws_toSectionS.f k l = some (l.map secI) := by
  unfold laws_toSectionS.f
  rw [if_pos (by omega), if_pos (by omega)]
  exact laws_toSectionS_l0 l hl hx l.length k 0 _ (by omega) (by omega) (by simp) (by simp)
theorem laws_toObject_eq (a : List S62) (b : List S65) (c : List (List S119)) (ha : a.length ≤ 1048576) (hA : ∀ x ∈ a, secFit x) (hb : b.length ≤ 1048576) (hc : c.length ≤ 1048576) (hC : ∀ x ∈ c, x.length ≤ 1048576) {k : Nat} (hk : 3300000 ≤ k) :
    laws_toObject.f k a b c = some (a.map secI, b.map osymI, c.map (List.map nodeI)) := by
  unfold laws_toObject.f
  rw [laws_toSectionS_eq a ha hA hk, laws_toOSymS_eq b hb (by omega), laws_toENodeSS_eq c hc hC (by omega)]
  rfl

--NEEDS laws_eqSection laws_eqENodeSS
theorem laws_eqOSymS_l0 (l : List S72) (hl : l.length ≤ 1048576) : ∀ (n k i : Nat), i + n = l.length → n < k → laws_eqOSymS.l0 k l l (i : Int) = some true := by
  intro n
  induction n with
  | zero =>
    intro k i hi hk
    obtain ⟨k, rfl⟩ : ∃ m, k = m + 1 := ⟨k - 1, by omega⟩
    simp only [laws_eqOSymS.l0]
    rw [if_neg (by omega)]
  | succ n ih =>
    intro k i hi hk
    obtain ⟨k, rfl⟩ : ∃ m, k = m + 1 := ⟨k - 1, by omega⟩
    simp only [laws_eqOSymS.l0, laws_eqOSym.f, if_true, bne_self_eq_false, Bool.false_eq_true, if_false, Option.bind_some]
    rw [if_pos (by omega), if_pos (by omega), if_pos (by omega), up1 (by omega : i < l.length) (by omega)]
    exact ih k (i + 1) (by omega) (by omega)
theorem laws_eqENodeSS_l0 (l : List (List S124)) (hl : l.length ≤ 1048576) (hx : ∀ x ∈ l, x.length ≤ 1048576) : ∀ (n k i : Nat), i + n = l.length → n + 1048578 ≤ k → laws_eqENodeSS.l0 k l l (i : Int) = some true := by
  intro n
  induction n with
  | zero =>
    intro k i hi hk
    obtain ⟨k, rfl⟩ : ∃ m, k = m + 1 := ⟨k - 1, by omega⟩
    simp only [laws_eqENodeSS.l0]
    rw [if_neg (by omega)]
  | succ n ih =>
    intro k i hi hk
    obtain ⟨k, rfl⟩ : ∃ m, k = m + 1 := ⟨k - 1, by omega⟩
    have hrd : rd_L10 l (i : Int) = l.getD i [] := by unfold rd_L10; rw [Int.toNat_natCast]
    have hm := hx _ (getD_mem [] l i (by omega))
    simp only [laws_eqENodeSS.l0]
    rw [if_pos (by omega), if_pos (by omega), if_pos (by omega), hrd, laws_eqENodeS_same _ hm (by omega)]
    simp only [Option.bind_some, if_true]
    rw [up1 (by omega : i < l.length) (by omega)]
    exact ih k (i + 1) (by omega) (by omega)
def secFitI (x : S71) : Prop := x.f4.size ≤ 1048576 ∧ x.f5.length ≤ 1048576 ∧ ∀ y ∈ x.f5, y.f2.length ≤ 1048576
theorem laws_eqSectionS_l0 (l : List S71) (hl : l.length ≤ 1048576) (hx : ∀ x ∈ l, secFitI x) : ∀ (n k i : Nat), i + n = l.length → n + 2200001 ≤ k → laws_eqSectionS.l0 k l l (i : Int) = some true := by
  intro n
  induction n with
  | zero =>
    intro k i hi hk
    obtain ⟨k, rfl⟩ : ∃ m, k = m + 1 := ⟨k - 1, by omega⟩
    simp only [laws_eqSectionS.l0]
    rw [if_neg (by omega)]
  | succ n ih =>
    intro k i hi hk
    obtain ⟨k, rfl⟩ : ∃ m, k = m + 1 := ⟨k - 1, by omega⟩
    have hrd : rd_T71 l (i : Int) = l.getD i z71 := by unfold rd_T71; rw [Int.toNat_natCast]
    have hm := hx _ (getD_mem z71 l i (by omega))
    simp only [laws_eqSectionS.l0]
    rw [if_pos (by omega), if_pos (by omega), if_pos (by omega), hrd, laws_eqSection_same _ _ _ _ _ _ hm.2.1 hm.2.2 (by omega)]
    simp only [Option.bind_some, if_true]
    rw [up1 (by omega : i < l.length) (by omega)]
    exact ih k (i + 1) (by omega) (by omega)
theorem laws_eqObject_same (a : List S71) (b : List S72) (c : List (List S124)) (ha : a.length ≤ 1048576) (hA : ∀ x ∈ a, secFitI x) (hb : b.length ≤ 1048576) (hc : c.length ≤ 1048576) (hC : ∀ x ∈ c, x.length ≤ 1048576) {k : Nat} (hk : 3300000 ≤ k) : laws_eqObject.f k a b c a b c = some true := by
  unfold laws_eqObject.f laws_eqSectionS.f laws_eqOSymS.f laws_eqENodeSS.f
  have h1 := laws_eqSectionS_l0 a ha hA a.length k 0 (by omega) (by omega)
  have h2 := laws_eqOSymS_l0 b hb b.length k 0 (by omega) (by omega)
  have h3 := laws_eqENodeSS_l0 c hc hC c.length k 0 (by omega) (by omega)
  rw [show ((0 : Nat) : Int) = 0 from rfl] at h1 h2 h3
  simp only [if_true, h1, h2, h3, Option.bind_some]

def symOk (secs : List S71) (x : S72) : Bool := nameOk x.f0 && (inR x.f1 (-1) ((secs.length : Int) - 1) && (if x.f1 ≥ 0 then inR x.f2 0 ((secs.getD x.f1.toNat z71).f4.size : Int) else inR x.f2 (-2147483648) 2147483647))
def symsIdx (secs : List S71) (l : List S72) : Nat → Nat → Bool
  | 0, _ => true
  | n + 1, i => (symOk secs (l.getD i z72) && (decide (i = 0) || Op.bytesLess (l.getD (i - 1) z72).f0.toList (l.getD i z72).f0.toList)) && symsIdx secs l n (i + 1)
def secOkS (x : S71) : Bool := secOk x.f0 x.f1 x.f2 x.f3 x.f4 x.f5
def assOk (x : List S124) : Bool := exprOk (x.map nd_)
def objOk (secs : List S71) (syms : List S72) (ass : List (List S124)) : Bool :=
  decide (secs.length ≤ 12) && (decide (syms.length ≤ 200) && (decide (ass.length ≤ 12) && (secs.all secOkS && (symsIdx secs syms syms.length 0 && ass.all assOk))))
theorem spec_ObjectOk_l2 (secs : List S71) (syms : List S72) (ass : List (List S124)) (hl : ass.length ≤ 1048576) (hx : ∀ x ∈ ass, x.length ≤ 1048576) : ∀ (n k i : Nat), i + n = ass.length → n + 1100000 ≤ k → spec_ObjectOk.l2 k (i : Int) secs syms ass = some ((ass.drop i).all assOk) := by
  intro n
  induction n with
  | zero =>
    intro k i hi hk
    obtain ⟨k, rfl⟩ : ∃ m, k = m + 1 := ⟨k - 1, by omega⟩
    simp only [spec_ObjectOk.l2]
    rw [if_neg (by omega), List.drop_eq_nil_of_le (by omega)]
    rfl
  | succ n ih =>
    intro k i hi hk
    obtain ⟨k, rfl⟩ : ∃ m, k = m + 1 := ⟨k - 1, by omega⟩
    have hrd : rd_L10 ass (i : Int) = ass.getD i [] := by unfold rd_L10; rw [Int.toNat_natCast]
    have hm := hx _ (getD_mem [] ass i (by omega))
    simp only [spec_ObjectOk.l2]
    rw [if_pos (by omega), if_pos (by omega), hrd, drop_at [] ass i (by omega), spec_ExprOk_eq _ hm (by omega), up1 (by omega : i < ass.length) (by omega), ih k (i + 1) (by omega) (by omega)]
    simp only [Option.bind_some, List.all_cons, assOk]
    by_cases c : exprOk ((ass.getD i []).map nd_) = true
    · rw [if_pos c, c]
      rfl
    · rw [if_neg c, Bool.eq_false_iff.2 c]
      rfl
theorem spec_ObjectOk_j3 (secs : List S71) (syms : List S72) (ass : List (List S124)) (i : Int) (x0 : ByteArray) (x1 x2 : Int) (x3 : Bool) (h1 : -1 ≤ x1 ∧ x1 ≤ (secs.length : Int) - 1) (k : Nat) :
    spec_ObjectOk.j3 (k + 1) i false secs syms ass x0 x1 x2 x3 = if (if x1 ≥ 0 then inR x2 0 ((secs.getD x1.toNat z71).f4.size : Int) else inR x2 (-2147483648) 2147483647) = true then spec_ObjectOk.l1 k (wrap64 (i + 1)) secs syms ass else some false := by
  have hrd : rd_T71 secs x1 = secs.getD x1.toNat z71 := rfl
  rw [spec_ObjectOk.j3, if_neg (by decide)]
  simp only [spec_l1In_eq, Option.bind_some, hrd]
  by_cases c : x1 ≥ 0
  · simp only [if_pos c, if_pos (show (0 : Int) ≤ x1 from c), if_pos (show x1 < (secs.length : Int) by omega), if_neg (show ¬ x1 < 0 by omega)]
  · rw [if_neg c, if_neg c, if_pos (by omega)]
theorem spec_ObjectOk_l1 (secs : List S71) (syms : List S72) (ass : List (List S124)) (hs : secs.length ≤ 12) (hl : syms.length ≤ 200) (A : Bool) (K : Nat) (hA : ∀ k, K ≤ k → spec_ObjectOk.l2 k 0 secs syms ass = some A) : ∀ (n k i : Nat), i + n = syms.length → 2 * n + K + 30 ≤ k → spec_ObjectOk.l1 k (i : Int) secs syms ass = some (symsIdx secs syms n i && A) := by
  intro n
  induction n with
  | zero =>
    intro k i hi hk
    obtain ⟨k, rfl⟩ : ∃ m, k = m + 1 := ⟨k - 1, by omega⟩
    simp only [spec_ObjectOk.l1]
    rw [if_neg (by omega), hA k (by omega)]
    simp [symsIdx]
  | succ n ih =>
    intro k i hi hk
    obtain ⟨k, rfl⟩ : ∃ m, k = m + 2 := ⟨k - 2, by omega⟩
    have hrd : rd_T72 syms (i : Int) = syms.getD i z72 := by unfold rd_T72; rw [Int.toNat_natCast]
    have hw := up1 (n := syms.length) (by omega : i < syms.length) (by omega)
    have step : ∀ (x0 : ByteArray) (x1 x2 : Int) (x3 : Bool), spec_ObjectOk.j3 (k + 1) (i : Int) (!inR x1 (-1) ((secs.length : Int) - 1)) secs syms ass x0 x1 x2 x3 = some ((inR x1 (-1) ((secs.length : Int) - 1) && (if x1 ≥ 0 then inR x2 0 ((secs.getD x1.toNat z71).f4.size : Int) else inR x2 (-2147483648) 2147483647)) && (symsIdx secs syms n (i + 1) && A)) := by
      intro x0 x1 x2 x3
      by_cases c : inR x1 (-1) ((secs.length : Int) - 1) = true
      · rw [c, Bool.not_true, spec_ObjectOk_j3 secs syms ass i x0 x1 x2 x3 (inR_iff.1 c), hw, ih k (i + 1) (by omega) (by omega)]
        generalize (if x1 ≥ 0 then inR x2 0 ((secs.getD x1.toNat z71).f4.size : Int) else inR x2 (-2147483648) 2147483647) = q
        cases q <;> rfl
      · rw [Bool.eq_false_iff.2 c, Bool.not_false, spec_ObjectOk.j3, if_pos rfl]
        rfl
    have stop : ∀ (x0 : ByteArray) (x1 x2 : Int) (x3 : Bool), spec_ObjectOk.j3 (k + 1) (i : Int) true secs syms ass x0 x1 x2 x3 = some false := by
      intro x0 x1 x2 x3
      rw [spec_ObjectOk.j3, if_pos rfl]
    simp only [spec_ObjectOk.l1]
    rw [if_pos (by omega), if_pos (by omega), hrd]
    rw [show symsIdx secs syms (n + 1) i = ((symOk secs (syms.getD i z72) && (decide (i = 0) || Op.bytesLess (syms.getD (i - 1) z72).f0.toList (syms.getD i z72).f0.toList)) && symsIdx secs syms n (i + 1)) from rfl]
    unfold symOk
    simp only [spec_NameOk_eq _ (show 20 ≤ k + 1 by omega), spec_l1In_eq, Option.bind_some, w64 (n := (secs.length : Int) - 1) (by omega) (by omega), step, stop]
    by_cases c1 : nameOk (syms.getD i z72).f0 = true
    · rw [if_pos c1, c1]
      by_cases c2 : i = 0
      · rw [if_neg (by omega), decide_eq_true c2]
        simp [Bool.and_assoc]
      · have hrd2 : rd_T72 syms (wrap64 ((i : Int) - 1)) = syms.getD (i - 1) z72 := by
          rw [w64 (by omega) (by omega)]
          unfold rd_T72
          congr 1
          omega
        rw [if_pos (by omega), hrd2, w64 (n := (i : Int) - 1) (by omega) (by omega), if_pos (by omega), if_pos (by omega), decide_eq_false c2]
        by_cases c3 : Op.bytesLess (syms.getD (i - 1) z72).f0.toList (syms.getD i z72).f0.toList = true
        · rw [if_pos c3, c3]
          simp [Bool.and_assoc]
        · rw [if_neg c3, Bool.eq_false_iff.2 c3]
          simp
    · rw [if_neg c1, Bool.eq_false_iff.2 c1]
      simp
theorem spec_ObjectOk_l0 (secs : List S71) (syms : List S72) (ass : List (List S124)) (hs : secs.length ≤ 12) (hx : ∀ x ∈ secs, secFitI x) (A : Bool) (K : Nat) (hA : ∀ k, K ≤ k → spec_ObjectOk.l1 k 0 secs syms ass = some A) : ∀ (n k i : Nat), i + n = secs.length → n + K + 3300000 ≤ k → spec_ObjectOk.l0 k (i : Int) secs syms ass = some ((secs.drop i).all secOkS && A) := by
  intro n
  induction n with
  | zero =>
    intro k i hi hk
    obtain ⟨k, rfl⟩ : ∃ m, k = m + 1 := ⟨k - 1, by omega⟩
    simp only [spec_ObjectOk.l0]
    rw [if_neg (by omega), hA k (by omega), List.drop_eq_nil_of_le (by omega)]
    rfl
  | succ n ih =>
    intro k i hi hk
    obtain ⟨k, rfl⟩ : ∃ m, k = m + 1 := ⟨k - 1, by omega⟩
    have hrd : rd_T71 secs (i : Int) = secs.getD i z71 := by unfold rd_T71; rw [Int.toNat_natCast]
    have hm := hx _ (getD_mem z71 secs i (by omega))
    simp only [spec_ObjectOk.l0]
    rw [if_pos (by omega), if_pos (by omega), hrd, drop_at z71 secs i (by omega), spec_SectionOk_eq _ _ _ _ _ _ hm.1 hm.2.1 hm.2.2 (by omega), up1 (by omega : i < secs.length) (by omega), ih k (i + 1) (by omega) (by omega)]
    simp only [Option.bind_some, List.all_cons]
    rw [show secOk (secs.getD i z71).f0 (secs.getD i z71).f1 (secs.getD i z71).f2 (secs.getD i z71).f3 (secs.getD i z71).f4 (secs.getD i z71).f5 = secOkS (secs.getD i z71) from rfl]
    by_cases c : secOkS (secs.getD i z71) = true
    · rw [if_pos c, c]
      rfl
    · rw [if_neg c, Bool.eq_false_iff.2 c]
      rfl
theorem spec_ObjectOk_eq (secs : List S71) (syms : List S72) (ass : List (List S124)) (hx : ∀ x ∈ secs, secFitI x) (hc : ∀ x ∈ ass, x.length ≤ 1048576) {k : Nat} (hk : 4500000 ≤ k) : spec_ObjectOk.f k secs syms ass = some (objOk secs syms ass) := by
  obtain ⟨k, rfl⟩ : ∃ m, k = m + 1 := ⟨k - 1, by omega⟩
  unfold spec_ObjectOk.f objOk
  by_cases c1 : secs.length ≤ 12
  · rw [if_neg (by omega), decide_eq_true c1]
    by_cases c2 : syms.length ≤ 200
    · rw [if_neg (by omega), decide_eq_true c2]
      by_cases c3 : ass.length ≤ 12
      · rw [decide_eq_false (by omega), decide_eq_true c3, spec_ObjectOk.j0, if_neg (by decide)]
        have L2 : ∀ k, 1100100 ≤ k → spec_ObjectOk.l2 k 0 secs syms ass = some (ass.all assOk) := by
          intro k hk
          have := spec_ObjectOk_l2 secs syms ass (by omega) hc ass.length k 0 (by omega) (by omega)
          rw [List.drop_zero] at this
          exact this
        have L1 : ∀ k, 1100600 ≤ k → spec_ObjectOk.l1 k 0 secs syms ass = some (symsIdx secs syms syms.length 0 && ass.all assOk) := by
          intro k hk
          exact spec_ObjectOk_l1 secs syms ass c1 c2 _ 1100100 L2 syms.length k 0 (by omega) (by omega)
        have L0 := spec_ObjectOk_l0 secs syms ass c1 hx _ 1100600 L1 secs.length k 0 (by omega) (by omega)
        rw [List.drop_zero] at L0
        exact L0
      · rw [decide_eq_true (by omega), decide_eq_false c3, spec_ObjectOk.j0, if_pos rfl]
        rfl
    · rw [if_pos (by omega), decide_eq_false c2, spec_ObjectOk.j0, if_pos rfl]
      rfl
  · rw [if_pos (by omega), decide_eq_false c1, spec_ObjectOk.j0, if_pos rfl]
    rfl

theorem impl_Section_go {k : Nat} (hk : 3300000 ≤ k) : ∀ (y : List S71) (i : Int), 0 ≤ i → (∀ x ∈ y, secFitI x) → ∃ r, impl_Section.go k y i = some r ∧ decide (0 ≤ r) = !(y.all secOkS)
  | [], i, _, _ => ⟨-1, rfl, rfl⟩
  | x :: r, i, h, hx => by
    have hm := hx x List.mem_cons_self
    rw [impl_Section.go, impl_SectionOk_eq _ _ _ _ _ _ hm.1 hm.2.1 hk]
    simp only [Option.bind_some]
    rw [show secOk x.f0 x.f1 x.f2 x.f3 x.f4 x.f5 = secOkS x from rfl]
    by_cases c : secOkS x = true
    · rw [if_pos c]
      obtain ⟨j, hj, hd2⟩ := impl_Section_go hk r (i + 1) (by omega) (fun z hz => hx z (List.mem_cons_of_mem _ hz))
      exact ⟨j, hj, by rw [hd2]; simp [c]⟩
    · rw [if_neg c]
      exact ⟨i, rfl, by rw [decide_eq_true h]; simp [c]⟩
theorem impl_ENode_go {k : Nat} (hk : 100 ≤ k) : ∀ (y : List (List S124)) (i : Int), 0 ≤ i → ∃ r, impl_ENode.go k y i = some r ∧ decide (0 ≤ r) = !(y.all assOk)
  | [], i, _ => ⟨-1, rfl, rfl⟩
  | x :: r, i, h => by
    rw [impl_ENode.go, impl_ExprOk_eq x (by omega)]
    simp only [Option.bind_some]
    rw [show exprOk (x.map nd_) = assOk x from rfl]
    by_cases c : assOk x = true
    · rw [if_pos c]
      obtain ⟨j, hj, hd2⟩ := impl_ENode_go hk r (i + 1) (by omega)
      exact ⟨j, hj, by rw [hd2]; simp [c]⟩
    · rw [if_neg c]
      exact ⟨i, rfl, by rw [decide_eq_true h]; simp [c]⟩
theorem impl_isSymbol_eq (secs : List S71) (syms : List S72) (ass : List (List S124)) (hs : secs.length ≤ 12) (x : S72) {k : Nat} (hk : 20 ≤ k) : impl_isSymbol.f k secs syms ass x.f0 x.f1 x.f2 x.f3 = some (symOk secs x) := by
  have hrd : rd_T71 secs x.f1 = secs.getD x.f1.toNat z71 := rfl
  unfold impl_isSymbol.f symOk
  simp only [impl_NameOk_eq _ hk, impl_within_eq, Option.bind_some, hrd, w64 (n := (secs.length : Int) - 1) (by omega) (by omega)]
  by_cases c1 : nameOk x.f0 = true
  · rw [if_pos c1, c1]
    by_cases c2 : x.f1 = -1
    · rw [if_pos c2, c2, show inR (-1) (-1) ((secs.length : Int) - 1) = true from inR_pos (by omega) (by omega), if_neg (by decide)]
      simp
    · rw [if_neg c2]
      by_cases c3 : inR x.f1 0 ((secs.length : Int) - 1) = true
      · have := inR_iff.1 c3
        rw [if_pos c3, show inR x.f1 (-1) ((secs.length : Int) - 1) = true from inR_pos (by omega) (by omega)]
        simp only [if_pos (show (0 : Int) ≤ x.f1 by omega), if_pos (show x.f1 ≥ 0 by omega), if_pos (show x.f1 < (secs.length : Int) by omega), Bool.true_and]
      · rw [if_neg c3, show inR x.f1 (-1) ((secs.length : Int) - 1) = false from inR_neg (fun h => c3 (inR_pos (by omega) (by omega)))]
        simp
  · rw [if_neg c1, Bool.eq_false_iff.2 c1]
    simp
theorem impl_ObjectOk_l0 (secs : List S71) (syms : List S72) (ass : List (List S124)) (hs : secs.length ≤ 12) (hl : syms.length ≤ 200) (hx : ∀ x ∈ secs, secFitI x) : ∀ (n k i : Nat), i + n = syms.length → n + 3300001 ≤ k → impl_ObjectOk.l0 k syms (syms.length : Int) (i : Int) secs syms ass = some (symsIdx secs syms n i && (secs.all secOkS && ass.all assOk)) := by
  intro n
  induction n with
  | zero =>
    intro k i hi hk
    obtain ⟨k, rfl⟩ : ∃ m, k = m + 1 := ⟨k - 1, by omega⟩
    simp only [impl_ObjectOk.l0]
    rw [if_neg (by omega)]
    unfold impl_Section.f impl_ENode.f
    obtain ⟨r, h1, h2⟩ := impl_Section_go (k := k) (by omega) secs 0 (by omega) hx
    obtain ⟨u, h3, h4⟩ := impl_ENode_go (k := k) (by omega) ass 0 (by omega)
    rw [h1, h3]
    simp only [Option.bind_some, h2, h4, symsIdx, Bool.true_and]
    cases secs.all secOkS <;> cases ass.all assOk <;> rfl
  | succ n ih =>
    intro k i hi hk
    obtain ⟨k, rfl⟩ : ∃ m, k = m + 1 := ⟨k - 1, by omega⟩
    have hrd : rd_T72 syms (i : Int) = syms.getD i z72 := by unfold rd_T72; rw [Int.toNat_natCast]
    have hw := up1 (n := syms.length) (by omega : i < syms.length) (by omega)
    simp only [impl_ObjectOk.l0]
    rw [if_pos (by omega), if_pos (by omega), if_pos (by omega), hrd, impl_isSymbol_eq secs syms ass hs _ (by omega), hw, ih k (i + 1) (by omega) (by omega)]
    rw [show symsIdx secs syms (n + 1) i = ((symOk secs (syms.getD i z72) && (decide (i = 0) || Op.bytesLess (syms.getD (i - 1) z72).f0.toList (syms.getD i z72).f0.toList)) && symsIdx secs syms n (i + 1)) from rfl]
    simp only [Option.bind_some]
    by_cases c1 : symOk secs (syms.getD i z72) = true
    · rw [if_pos c1, c1]
      by_cases c2 : i = 0
      · rw [if_neg (by omega), decide_eq_true c2]
        simp
      · have hrd2 : rd_T72 syms (wrap64 ((i : Int) - 1)) = syms.getD (i - 1) z72 := by
          rw [w64 (by omega) (by omega)]
          unfold rd_T72
          congr 1
          omega
        rw [if_pos (by omega), hrd2, w64 (n := (i : Int) - 1) (by omega) (by omega), if_pos (by omega), if_pos (by omega), decide_eq_false c2]
        by_cases c3 : Op.bytesLess (syms.getD (i - 1) z72).f0.toList (syms.getD i z72).f0.toList = true
        · rw [if_pos c3, c3]
          simp
        · rw [if_neg c3, Bool.eq_false_iff.2 c3]
          simp
    · rw [if_neg c1, Bool.eq_false_iff.2 c1]
      simp
theorem impl_ObjectOk_eq (secs : List S71) (syms : List S72) (ass : List (List S124)) (hx : ∀ x ∈ secs, secFitI x) {k : Nat} (hk : 3400000 ≤ k) : impl_ObjectOk.f k secs syms ass = some (objOk secs syms ass) := by
  obtain ⟨k, rfl⟩ : ∃ m, k = m + 1 := ⟨k - 1, by omega⟩
  unfold impl_ObjectOk.f objOk
  by_cases c1 : secs.length ≤ 12
  · rw [if_neg (by omega), decide_eq_true c1]
    by_cases c2 : syms.length ≤ 200
    · rw [if_neg (by omega), decide_eq_true c2]
      by_cases c3 : ass.length ≤ 12
      · rw [decide_eq_false (by omega), decide_eq_true c3, impl_ObjectOk.j0, if_neg (by decide)]
        have L0 := impl_ObjectOk_l0 secs syms ass c1 c2 hx syms.length k 0 (by omega) (by omega)
        rw [show ((0 : Nat) : Int) = 0 from rfl] at L0
        rw [L0]
        simp only [Bool.true_and]
        cases symsIdx secs syms syms.length 0 <;> cases secs.all secOkS <;> rfl
      · rw [decide_eq_true (by omega), decide_eq_false c3, impl_ObjectOk.j0, if_pos rfl]
        rfl
    · rw [if_pos (by omega), decide_eq_false c2, impl_ObjectOk.j0, if_pos rfl]
      rfl
  · rw [if_pos (by omega), decide_eq_false c1, impl_ObjectOk.j0, if_pos rfl]
    rfl

/-- Numbers in decimal, of any size. -/
theorem dec_l0W : ∀ (m k x : Nat) (s : List UInt8), x < 10 ^ (m + 1) → x ≤ 9223372036854775807 → m < k → s.length + m ≤ 1000 → spec_l1Dec.l0 k (x : Int) ⟨s.toArray⟩ = some ⟨(Go.Lib.decDigits x ++ s).toArray⟩ := by
  have small : ∀ (k x : Nat) (s : List UInt8), x < 10 → 0 < k → s.length ≤ 1000 → spec_l1Dec.l0 k (x : Int) ⟨s.toArray⟩ = some ⟨(Go.Lib.decDigits x ++ s).toArray⟩ := by
    intro k x s hx hk hs
    obtain ⟨k, rfl⟩ : ∃ z, k = z + 1 := ⟨k - 1, by omega⟩
    rw [spec_l1Dec.l0, if_neg (by omega)]
    simp only [Option.bind_some]
    rw [dig_nums hx, if_pos (by rw [bytes_size, bytes_size]; simp; omega), bytes_append, Go.Lib.decDigits, dif_pos hx]
  intro m
  induction m with
  | zero => intro k x s hx _ hk hs; exact small k x s (by simpa using hx) hk (by omega)
  | succ m ih =>
    intro k x s hx hbig hk hs
    by_cases h10 : x < 10
    · exact small k x s h10 (by omega) (by omega)
    · obtain ⟨k, rfl⟩ : ∃ z, k = z + 1 := ⟨k - 1, by omega⟩
      have hd : x / 10 < 10 ^ (m + 1) := by
        rw [Nat.pow_succ, Nat.mul_comm] at hx
        exact Nat.div_lt_of_lt_mul hx
      rw [spec_l1Dec.l0, if_pos (by omega)]
      simp only [Option.bind_some]
      have e1 : Int.tmod (x : Int) 10 = ((x % 10 : Nat) : Int) := by rw [Int.tmod_eq_emod_of_nonneg (by omega)]; omega
      have e2 : wrap64 (Int.tdiv (x : Int) 10) = ((x / 10 : Nat) : Int) := by rw [Int.tdiv_eq_ediv_of_nonneg (by omega), w64 (by omega) (by omega)]; omega
      rw [e1, e2, dig_nums (by omega), if_pos (by rw [bytes_size, bytes_size]; simp; omega), bytes_append, ih k (x / 10) _ hd (by omega) (by omega) (by simp; omega)]
      conv => rhs; rw [Go.Lib.decDigits, dif_neg h10]
      simp
theorem spec_l1Dec_wide (n : Int) (h : -9223372036854775808 < n ∧ n ≤ 9223372036854775807) {k : Nat} (hk : 30 ≤ k) : spec_l1Dec.f k n = some ⟨(Go.Lib.itoa n).toArray⟩ := by
  obtain ⟨k, rfl⟩ : ∃ z, k = z + 2 := ⟨k - 2, by omega⟩
  have hp : (10 : Nat) ^ (18 + 1) = 10000000000000000000 := by decide
  have pos : ∀ (k x : Nat), x ≤ 9223372036854775807 → 19 ≤ k → spec_l1Dec.f (k + 1) (x : Int) = some ⟨(Go.Lib.decDigits x).toArray⟩ := by
    intro k x hx hk
    rw [spec_l1Dec.f, if_neg (by omega)]
    have := dec_l0W 18 k x [] (by omega) hx (by omega) (by simp)
    rw [List.append_nil] at this
    exact this
  by_cases h0 : n < 0
  · have hl := itoa_len n (by omega) (by omega)
    unfold Go.Lib.itoa at hl ⊢
    rw [if_pos h0] at hl ⊢
    rw [spec_l1Dec.f, if_pos h0, w64 (by omega) (by omega)]
    have hn : -n = ((n.natAbs : Nat) : Int) := by omega
    rw [hn, pos k n.natAbs (by omega) (by omega)]
    simp only [Option.bind_some]
    rw [List.length_cons] at hl
    rw [if_pos (by simp only [bytes_size]; omega), show (⟨#[45]⟩ : ByteArray) = ⟨[45].toArray⟩ from rfl, bytes_append]
    rfl
  · unfold Go.Lib.itoa
    rw [if_neg h0]
    obtain ⟨x, rfl⟩ : ∃ x : Nat, n = (x : Int) := ⟨n.toNat, by omega⟩
    rw [Int.toNat_natCast]
    exact pos (k + 1) x (by omega) (by omega)
theorem spec_l9Hex_l0 (s : ByteArray) (hs : s.size ≤ 1048576) : ∀ (n k i : Nat) (acc : ByteArray), i + n = s.size → n + 20 ≤ k → acc.size ≤ 2 * i → spec_l9Hex.l0 k s acc (i : Int) = some ⟨(acc.data.toList ++ hexL (s.data.toList.drop i)).toArray⟩ := by
  intro n
  induction n with
  | zero =>
    intro k i acc hi hk ha
    obtain ⟨k, rfl⟩ : ∃ j, k = j + 1 := ⟨k - 1, by omega⟩
    rw [spec_l9Hex.l0, if_neg (by omega), drop_end s i (by omega)]
    simp [hexL]
  | succ n ih =>
    intro k i acc hi hk ha
    obtain ⟨k, rfl⟩ : ∃ j, k = j + 1 := ⟨k - 1, by omega⟩
    obtain ⟨x, hx, bx⟩ := bt_drop s i (by omega)
    have h256 := x.toNat_lt
    have hw : wrap64 ((i : Int) + 1) = ((i + 1 : Nat) : Int) := by rw [w64 (by omega) (by omega)]; omega
    have hX : spec_HexOf.f k (x.toNat : Int) 2 = some (hexText 2 x.toNat) := by
      rw [spec_HexOf_eq _ 2 (by omega), if_pos (by decide), if_pos (inR_pos (by omega) (by omega))]
      rfl
    obtain ⟨z1, z2⟩ := hex_tail 2 x.toNat (by rw [show 16 ^ 2 = 256 from rfl]; omega)
    have z3 : (⟨(hexFix 2 x.toNat).toArray⟩ : ByteArray).size = 2 := by rw [bytes_size, hexFix_len]
    rw [spec_l9Hex.l0, if_pos (by omega), if_pos (by omega), bx, w64 (by omega) (by omega), hX]
    simp only [Option.bind_some]
    rw [if_pos (by omega), z2, if_pos (by omega), hw, ih k (i + 1) _ (by omega) (by omega) (by rw [ByteArray.size_append, z3]; omega), hx]
    simp [hexL, ByteArray.data_append]
theorem spec_l9Hex_eq (s : ByteArray) (hs : s.size ≤ 256) {k : Nat} (hk : 300 ≤ k) : spec_l9Hex.f k s = some ⟨(hexL s.data.toList).toArray⟩ := by
  unfold spec_l9Hex.f
  have := spec_l9Hex_l0 s (by omega) s.size k 0 ⟨#[]⟩ (by omega) (by omega) (Nat.zero_le _)
  rw [show ((0 : Nat) : Int) = 0 from rfl] at this
  rw [this]
  simp

theorem impl_hexText_go : ∀ (l : List UInt8) (acc : ByteArray), acc.size + 2 * l.length ≤ 140737488355328 → impl_hexText.go l acc = some ⟨(acc.data.toList ++ hexL l).toArray⟩
  | [], acc, _ => by simp [impl_hexText.go, hexL]
  | c :: r, acc, h => by
    have h256 := c.toNat_lt
    rw [List.length_cons] at h
    have hX := impl_hexDigits_eq c.toNat 2 (by omega) (by omega) (by omega) (by rw [show 16 ^ 2 = 256 from rfl]; omega)
    rw [show ((2 : Nat) : Int) = 2 from rfl] at hX
    have z3 : (⟨(hexFix 2 c.toNat).toArray⟩ : ByteArray).size = 2 := by rw [bytes_size, hexFix_len]
    rw [impl_hexText.go, hX]
    simp only [Option.bind_some]
    rw [if_pos (by omega), impl_hexText_go r _ (by rw [ByteArray.size_append, z3]; omega)]
    simp [hexL, ByteArray.data_append]
theorem impl_hexText_eq (s : ByteArray) (hs : s.size ≤ 1048576) : impl_hexText.f s = some ⟨(hexL s.data.toList).toArray⟩ := by
  unfold impl_hexText.f
  rw [if_pos hs, impl_hexText_go _ _ (by rw [len_list]; show 0 + _ ≤ _; omega)]
  simp

def wSec : List UInt8 := [115, 101, 99, 116, 105, 111, 110]
def wPat : List UInt8 := [112, 97, 116, 99, 104]
def wSym : List UInt8 := [115, 121, 109, 98, 111, 108]
def wAss : List UInt8 := [97, 115, 115, 101, 114, 116]
def exprL (e : List S124) : List UInt8 := (exprT (e.map nd_)).data.toList
def patL (p : S79) : List UInt8 := lineL [wPat, Go.Lib.itoa p.f0, Go.Lib.itoa p.f1, exprL p.f2]
def secHead (x : S71) : List UInt8 := lineL [wSec, x.f0.data.toList, Go.Lib.itoa x.f1, Go.Lib.itoa x.f2, Go.Lib.itoa x.f3, hexL x.f4.data.toList]
def secL (x : S71) : List UInt8 := secHead x ++ (x.f5.map patL).flatten
def osymL (y : S72) : List UInt8 := lineL [wSym, y.f0.data.toList, Go.Lib.itoa y.f1, Go.Lib.itoa y.f2, Go.Lib.itoa y.f3.toInt]
def assL (e : List S124) : List UInt8 := lineL [wAss, exprL e]
/-- The text of an object. -/
def objL (secs : List S71) (syms : List S72) (ass : List (List S124)) : List UInt8 := (secs.map secL).flatten ++ ((syms.map osymL).flatten ++ (ass.map assL).flatten)
def objText (secs : List S71) (syms : List S72) (ass : List (List S124)) : ByteArray := if objOk secs syms ass = true then ⟨(objL secs syms ass).toArray⟩ else ⟨#[]⟩
theorem exprL_len (e : List S124) : (exprL e).length ≤ 540 := by
  unfold exprL exprT
  split
  · rename_i h
    obtain ⟨h1, _, h3⟩ := exprOk_parts h
    rw [List.length_map] at h1
    have := join_len_le 32 17 ((e.map nd_).map nodeT) (by
      intro x hx
      obtain ⟨y, hy, rfl⟩ := List.mem_map.1 hx
      exact nodeT_len (h3 y hy))
    rw [List.length_map, List.length_map] at this
    show (Go.Lib.join _ _).length ≤ 540
    omega
  · decide
theorem patOk_in {n : Int} {x : S79} (h : patOk n x = true) (hn : n ≤ 256) : (0 ≤ x.f0 ∧ x.f0 ≤ 256) ∧ (1 ≤ x.f1 ∧ x.f1 ≤ 3) ∧ exprOk (x.f2.map nd_) = true := by
  unfold patOk at h
  simp only [Bool.and_eq_true, inR_iff] at h
  refine ⟨?_, h.1, h.2.2⟩
  have := h.2.1
  split at this <;> omega
theorem secOk_in {x : S71} (h : secOkS x = true) : nameOk x.f0 = true ∧ (0 ≤ x.f1 ∧ x.f1 ≤ 2) ∧ x.f4.size ≤ 256 ∧ x.f5.length ≤ 256 ∧ (-1 ≤ x.f3 ∧ x.f3 ≤ 65535) ∧ (-1 ≤ x.f2 ∧ x.f2 ≤ 15) ∧ ∀ p ∈ x.f5, patOk x.f4.size p = true := by
  unfold secOkS secOk at h
  simp only [Bool.and_eq_true, Bool.or_eq_true, inR_iff, decide_eq_true_eq, List.all_eq_true] at h
  obtain ⟨h1, h2, h3, h4, h5, h6, ⟨h7, _⟩, _⟩ := h
  have hb : 0 ≤ secBase x.f1 ∧ secBase x.f1 ≤ 49152 := by
    unfold secBase
    split
    · omega
    · split <;> omega
  exact ⟨h1, h2, h3, h4, by omega, by omega, h7⟩
theorem name_small {s : ByteArray} (h : nameOk s = true) : 1 ≤ s.size ∧ s.size ≤ 16 := by
  unfold nameOk at h
  simp only [Bool.and_eq_true, inR_iff] at h
  omega
theorem symOk_in {secs : List S71} {y : S72} (hs : secs.length ≤ 12) (hx : ∀ x ∈ secs, secOkS x = true) (h : symOk secs y = true) : nameOk y.f0 = true ∧ (-1 ≤ y.f1 ∧ y.f1 ≤ 11) ∧ (-2147483648 ≤ y.f2 ∧ y.f2 ≤ 2147483647) := by
  unfold symOk at h
  simp only [Bool.and_eq_true, inR_iff] at h
  obtain ⟨h1, h2, h3⟩ := h
  refine ⟨h1, by omega, ?_⟩
  split at h3
  · rw [inR_iff] at h3
    rw [List.getD_eq_getElem?_getD, List.getElem?_eq_getElem (by omega : y.f1.toNat < secs.length)] at h3
    have := (secOk_in (hx _ (List.getElem_mem (l := secs) (n := y.f1.toNat) (by omega)))).2.2.1
    simp only [Option.getD_some] at h3
    omega
  · rw [inR_iff] at h3
    exact h3
theorem symsIdx_all (secs : List S71) (l : List S72) : ∀ n i, i + n = l.length → symsIdx secs l n i = true → ∀ y ∈ l.drop i, symOk secs y = true
  | 0, i, hi, _, y, hy => by
    rw [List.drop_eq_nil_of_le (by omega)] at hy
    cases hy
  | n + 1, i, hi, h, y, hy => by
    rw [symsIdx, Bool.and_eq_true, Bool.and_eq_true] at h
    rw [drop_at z72 l i (by omega)] at hy
    rcases List.mem_cons.1 hy with rfl | hy
    · exact h.1.1
    · exact symsIdx_all secs l n (i + 1) (by omega) h.2 y hy
theorem objOk_parts {secs : List S71} {syms : List S72} {ass : List (List S124)} (h : objOk secs syms ass = true) : secs.length ≤ 12 ∧ syms.length ≤ 200 ∧ ass.length ≤ 12 ∧ (∀ x ∈ secs, secOkS x = true) ∧ (∀ y ∈ syms, symOk secs y = true) ∧ ∀ e ∈ ass, assOk e = true := by
  unfold objOk at h
  simp only [Bool.and_eq_true, decide_eq_true_eq, List.all_eq_true] at h
  obtain ⟨h1, h2, h3, h4, h5, h6⟩ := h
  refine ⟨h1, h2, h3, h4, fun y hy => ?_, h6⟩
  have := symsIdx_all secs syms syms.length 0 (by omega) h5
  rw [List.drop_zero] at this
  exact this y hy
theorem patL_len {n : Int} {p : S79} (h : patOk n p = true) (hn : n ≤ 256) : (patL p).length ≤ 600 := by
  obtain ⟨h1, h2, _⟩ := patOk_in h hn
  have := itoa_len p.f0 (by omega) (by omega)
  have := itoa_len p.f1 (by omega) (by omega)
  have := exprL_len p.f2
  unfold patL lineL wPat
  simp only [Go.Lib.join_cons, Go.Lib.joinTail, List.map_cons, List.map_nil, List.flatten_cons, List.flatten_nil, List.length_append, List.length_cons, List.length_nil]
  omega
theorem secHead_len {x : S71} (h : secOkS x = true) : (secHead x).length ≤ 700 := by
  obtain ⟨h1, h2, h3, h4, h5, h6, _⟩ := secOk_in h
  have := name_small h1
  have := itoa_len x.f1 (by omega) (by omega)
  have := itoa_len x.f2 (by omega) (by omega)
  have := itoa_len x.f3 (by omega) (by omega)
  have hx := hexL_len x.f4.data.toList
  have e1 : x.f4.data.toList.length = x.f4.size := len_list _
  have e2 : x.f0.data.toList.length = x.f0.size := len_list _
  unfold secHead lineL wSec
  simp only [Go.Lib.join_cons, Go.Lib.joinTail, List.map_cons, List.map_nil, List.flatten_cons, List.flatten_nil, List.length_append, List.length_cons, List.length_nil]
  omega
theorem secL_len {x : S71} (h : secOkS x = true) : (secL x).length ≤ 200000 := by
  have h1 := secHead_len h
  obtain ⟨_, _, h3, h4, _, _, h7⟩ := secOk_in h
  have h2 := flat_len patL 600 x.f5 (fun p hp => patL_len (h7 p hp) (by omega))
  have : 600 * x.f5.length ≤ 600 * 256 := Nat.mul_le_mul_left _ h4
  unfold secL
  rw [List.length_append]
  omega
theorem osymL_len {secs : List S71} {y : S72} (hs : secs.length ≤ 12) (hx : ∀ x ∈ secs, secOkS x = true) (h : symOk secs y = true) : (osymL y).length ≤ 120 := by
  obtain ⟨h1, h2, h3⟩ := symOk_in hs hx h
  have := name_small h1
  have := itoa_len y.f1 (by omega) (by omega)
  have := itoa_len y.f2 (by omega) (by omega)
  have hb : 0 ≤ y.f3.toInt ∧ y.f3.toInt ≤ 1 := by cases y.f3 <;> decide
  have := itoa_len y.f3.toInt (by omega) (by omega)
  have e2 : y.f0.data.toList.length = y.f0.size := len_list _
  unfold osymL lineL wSym
  simp only [Go.Lib.join_cons, Go.Lib.joinTail, List.map_cons, List.map_nil, List.flatten_cons, List.flatten_nil, List.length_append, List.length_cons, List.length_nil]
  omega
theorem assL_len (e : List S124) : (assL e).length ≤ 600 := by
  have := exprL_len e
  unfold assL lineL wAss
  simp only [Go.Lib.join_cons, Go.Lib.joinTail, List.map_cons, List.map_nil, List.flatten_cons, List.flatten_nil, List.length_append, List.length_cons, List.length_nil]
  omega
theorem exprT_size (e : List S124) : (exprT (e.map nd_)).size ≤ 540 := by
  have := exprL_len e
  unfold exprL at this
  rw [len_list] at this
  exact this
theorem itoa_size (n : Int) (h : -9223372036854775808 ≤ n ∧ n ≤ 9223372036854775807) : (⟨(Go.Lib.itoa n).toArray⟩ : ByteArray).size ≤ 21 := by
  rw [bytes_size]
  exact itoa_len n h.1 h.2
set_option maxRecDepth 100000 in
theorem spec_l9Text_l3 (secs : List S71) (syms : List S72) (ass : List (List S124)) (hl : ass.length ≤ 12) (hok : ∀ e ∈ ass, assOk e = true) : ∀ (n k i : Nat) (acc : ByteArray), i + n = ass.length → n + 300 ≤ k → acc.size + 600 * n ≤ 10000000 → spec_l9Text.l3 k acc (i : Int) secs syms ass = some ⟨(acc.data.toList ++ ((ass.drop i).map assL).flatten).toArray⟩ := by
  intro n
  induction n with
  | zero =>
    intro k i acc hi hk ha
    obtain ⟨k, rfl⟩ : ∃ j, k = j + 1 := ⟨k - 1, by omega⟩
    rw [spec_l9Text.l3, if_neg (by omega), List.drop_eq_nil_of_le (by omega)]
    simp
  | succ n ih =>
    intro k i acc hi hk ha
    obtain ⟨k, rfl⟩ : ∃ j, k = j + 1 := ⟨k - 1, by omega⟩
    have hw : wrap64 ((i : Int) + 1) = ((i + 1 : Nat) : Int) := by rw [w64 (by omega) (by omega)]; omega
    have hrd : rd_L10 ass (i : Int) = ass.getD i [] := by unfold rd_L10; rw [Int.toNat_natCast]
    have hd := drop_at [] ass i (by omega)
    have hm := hok _ (getD_mem [] ass i (by omega))
    have hlen : (ass.getD i []).length ≤ 30 := by
      have := (exprOk_parts hm).1
      rw [List.length_map] at this
      exact this
    rw [spec_l9Text.l3, if_pos (by omega), hrd, hd, hw]
    generalize ass.getD i [] = e at hlen hm ⊢
    have hz := exprT_size e
    have c1 : (⟨#[97, 115, 115, 101, 114, 116, 32]⟩ : ByteArray).size = 7 := rfl
    have c2 : (⟨#[10]⟩ : ByteArray).size = 1 := rfl
    rw [if_pos (by omega), if_pos (by omega), spec_ExprText_eq e (by omega) (by omega)]
    simp only [Option.bind_some]
    rw [if_pos (by simp only [ByteArray.size_append]; omega), if_pos (by simp only [ByteArray.size_append]; omega), ih k (i + 1) _ (by omega) (by omega) (by simp only [ByteArray.size_append]; omega)]
    simp [ByteArray.data_append, assL, lineL, Go.Lib.join_cons, Go.Lib.joinTail, wAss, exprL]
set_option maxRecDepth 100000 in
theorem spec_l9Text_l2 (secs : List S71) (syms : List S72) (ass : List (List S124)) (hs : secs.length ≤ 12) (hx : ∀ x ∈ secs, secOkS x = true) (hl : syms.length ≤ 200) (hok : ∀ y ∈ syms, symOk secs y = true) (T : List UInt8) (hT : ∀ k (acc : ByteArray), 400 ≤ k → acc.size ≤ 9000000 → spec_l9Text.l3 k acc 0 secs syms ass = some ⟨(acc.data.toList ++ T).toArray⟩) : ∀ (n k i : Nat) (acc : ByteArray), i + n = syms.length → n + 500 ≤ k → acc.size + 120 * n ≤ 9000000 → spec_l9Text.l2 k acc (i : Int) secs syms ass = some ⟨(acc.data.toList ++ (((syms.drop i).map osymL).flatten ++ T)).toArray⟩ := by
  intro n
  induction n with
  | zero =>
    intro k i acc hi hk ha
    obtain ⟨k, rfl⟩ : ∃ j, k = j + 1 := ⟨k - 1, by omega⟩
    rw [spec_l9Text.l2, if_neg (by omega), List.drop_eq_nil_of_le (by omega), hT k acc (by omega) (by omega)]
    simp
  | succ n ih =>
    intro k i acc hi hk ha
    obtain ⟨k, rfl⟩ : ∃ j, k = j + 1 := ⟨k - 1, by omega⟩
    have hw : wrap64 ((i : Int) + 1) = ((i + 1 : Nat) : Int) := by rw [w64 (by omega) (by omega)]; omega
    have hrd : rd_T72 syms (i : Int) = syms.getD i z72 := by unfold rd_T72; rw [Int.toNat_natCast]
    have hd := drop_at z72 syms i (by omega)
    have hm := hok _ (getD_mem z72 syms i (by omega))
    rw [spec_l9Text.l2, if_pos (by omega), hrd, hd, hw]
    generalize syms.getD i z72 = y at hm ⊢
    obtain ⟨q1, q2, q3⟩ := symOk_in hs hx hm
    have q4 := name_small q1
    have hb : 0 ≤ y.f3.toInt ∧ y.f3.toInt ≤ 1 := by cases y.f3 <;> decide
    have z1 := itoa_size y.f1 (by omega)
    have z2 := itoa_size y.f2 (by omega)
    have z3 := itoa_size y.f3.toInt (by omega)
    have hlen := osymL_len hs hx hm
    have c1 : (⟨#[115, 121, 109, 98, 111, 108, 32]⟩ : ByteArray).size = 7 := rfl
    have c2 : (⟨#[10]⟩ : ByteArray).size = 1 := rfl
    have c3 : (⟨#[32]⟩ : ByteArray).size = 1 := rfl
    rw [if_pos (by omega), if_pos (by omega), if_pos (by simp only [ByteArray.size_append]; omega), if_pos (by simp only [ByteArray.size_append]; omega), spec_l1Dec_wide y.f1 (by omega) (by omega)]
    simp only [Option.bind_some]
    rw [if_pos (by simp only [ByteArray.size_append]; omega), if_pos (by simp only [ByteArray.size_append]; omega), spec_l1Dec_wide y.f2 (by omega) (by omega)]
    simp only [Option.bind_some]
    rw [if_pos (by simp only [ByteArray.size_append]; omega), if_pos (by simp only [ByteArray.size_append]; omega), spec_l3One_eq]
    simp only [Option.bind_some]
    rw [spec_l1Dec_wide y.f3.toInt (by omega) (by omega)]
    simp only [Option.bind_some]
    rw [if_pos (by simp only [ByteArray.size_append]; omega), if_pos (by simp only [ByteArray.size_append]; omega), ih k (i + 1) _ (by omega) (by omega) (by simp only [ByteArray.size_append]; omega)]
    simp [ByteArray.data_append, osymL, lineL, Go.Lib.join_cons, Go.Lib.joinTail, wSym]
set_option maxRecDepth 100000 in
theorem spec_l9Text_l1 (secs : List S71) (syms : List S72) (ass : List (List S124)) (i : Int) (nm : ByteArray) (a b c : Int) (d : ByteArray) (l : List S79) (hl : l.length ≤ 256) (m : Int) (hm : m ≤ 256) (hok : ∀ p ∈ l, patOk m p = true) (U : List UInt8) (B K : Nat) (hB : B ≤ 9000000) (hK : 300 ≤ K) (hU : ∀ k (acc : ByteArray), K ≤ k → acc.size ≤ B → spec_l9Text.l0 k acc (wrap64 (i + 1)) secs syms ass = some ⟨(acc.data.toList ++ U).toArray⟩) : ∀ (n k j : Nat) (acc : ByteArray), j + n = l.length → n + K + 1 ≤ k → acc.size + 600 * n ≤ B → spec_l9Text.l1 k acc i (j : Int) secs syms ass nm a b c d l = some ⟨(acc.data.toList ++ (((l.drop j).map patL).flatten ++ U)).toArray⟩ := by
  intro n
  induction n with
  | zero =>
    intro k j acc hj hk ha
    obtain ⟨k, rfl⟩ : ∃ j, k = j + 1 := ⟨k - 1, by omega⟩
    rw [spec_l9Text.l1, if_neg (by omega), List.drop_eq_nil_of_le (by omega), hU k acc (by omega) (by omega)]
    simp
  | succ n ih =>
    intro k j acc hj hk ha
    obtain ⟨k, rfl⟩ : ∃ j, k = j + 1 := ⟨k - 1, by omega⟩
    have hw : wrap64 ((j : Int) + 1) = ((j + 1 : Nat) : Int) := by rw [w64 (by omega) (by omega)]; omega
    have hrd : rd_T79 l (j : Int) = l.getD j z79 := by unfold rd_T79; rw [Int.toNat_natCast]
    have hd := drop_at z79 l j (by omega)
    have hm' := hok _ (getD_mem z79 l j (by omega))
    rw [spec_l9Text.l1, if_pos (by omega), hrd, hd, hw]
    generalize l.getD j z79 = p at hm' ⊢
    obtain ⟨q1, q2, q3⟩ := patOk_in hm' hm
    have hpl : p.f2.length ≤ 30 := by
      have := (exprOk_parts q3).1
      rw [List.length_map] at this
      exact this
    have z1 := itoa_size p.f0 (by omega)
    have z2 := itoa_size p.f1 (by omega)
    have z3 := exprT_size p.f2
    have c1 : (⟨#[112, 97, 116, 99, 104, 32]⟩ : ByteArray).size = 6 := rfl
    have c2 : (⟨#[10]⟩ : ByteArray).size = 1 := rfl
    have c3 : (⟨#[32]⟩ : ByteArray).size = 1 := rfl
    rw [if_pos (by omega), if_pos (by omega), spec_l1Dec_wide p.f0 (by omega) (by omega)]
    simp only [Option.bind_some]
    rw [if_pos (by simp only [ByteArray.size_append]; omega), if_pos (by simp only [ByteArray.size_append]; omega), spec_l1Dec_wide p.f1 (by omega) (by omega)]
    simp only [Option.bind_some]
    rw [if_pos (by simp only [ByteArray.size_append]; omega), if_pos (by simp only [ByteArray.size_append]; omega), spec_ExprText_eq p.f2 (by omega) (by omega)]
    simp only [Option.bind_some]
    rw [if_pos (by simp only [ByteArray.size_append]; omega), if_pos (by simp only [ByteArray.size_append]; omega), ih k (j + 1) _ (by omega) (by omega) (by simp only [ByteArray.size_append]; omega)]
    simp [ByteArray.data_append, patL, lineL, Go.Lib.join_cons, Go.Lib.joinTail, wPat, exprL]
set_option maxRecDepth 100000 in
theorem spec_l9Text_l0 (secs : List S71) (syms : List S72) (ass : List (List S124)) (hs : secs.length ≤ 12) (hx : ∀ x ∈ secs, secOkS x = true) (T : List UInt8) (hT : ∀ k (acc : ByteArray), 1000 ≤ k → acc.size ≤ 8000000 → spec_l9Text.l2 k acc 0 secs syms ass = some ⟨(acc.data.toList ++ T).toArray⟩) : ∀ (n k i : Nat) (acc : ByteArray), i + n = secs.length → 300 * n + 1001 ≤ k → acc.size + 200000 * n ≤ 8000000 → spec_l9Text.l0 k acc (i : Int) secs syms ass = some ⟨(acc.data.toList ++ (((secs.drop i).map secL).flatten ++ T)).toArray⟩ := by
  intro n
  induction n with
  | zero =>
    intro k i acc hi hk ha
    obtain ⟨k, rfl⟩ : ∃ j, k = j + 1 := ⟨k - 1, by omega⟩
    rw [spec_l9Text.l0, if_neg (by omega), List.drop_eq_nil_of_le (by omega), hT k acc (by omega) (by omega)]
    simp
  | succ n ih =>
    intro k i acc hi hk ha
    obtain ⟨k, rfl⟩ : ∃ j, k = j + 1 := ⟨k - 1, by omega⟩
    have hw : wrap64 ((i : Int) + 1) = ((i + 1 : Nat) : Int) := by rw [w64 (by omega) (by omega)]; omega
    have hrd : rd_T71 secs (i : Int) = secs.getD i z71 := by unfold rd_T71; rw [Int.toNat_natCast]
    have hd := drop_at z71 secs i (by omega)
    have hm := hx _ (getD_mem z71 secs i (by omega))
    rw [spec_l9Text.l0, if_pos (by omega), hrd, hd]
    generalize secs.getD i z71 = y at hm ⊢
    obtain ⟨q1, q2, q3, q4, q5, q6, q7⟩ := secOk_in hm
    have q8 := name_small q1
    have z1 := itoa_size y.f1 (by omega)
    have z2 := itoa_size y.f2 (by omega)
    have z3 := itoa_size y.f3 (by omega)
    have z4 : (⟨(hexL y.f4.data.toList).toArray⟩ : ByteArray).size = 2 * y.f4.size := by rw [bytes_size, hexL_len, len_list]
    have c1 : (⟨#[115, 101, 99, 116, 105, 111, 110, 32]⟩ : ByteArray).size = 8 := rfl
    have c2 : (⟨#[10]⟩ : ByteArray).size = 1 := rfl
    have c3 : (⟨#[32]⟩ : ByteArray).size = 1 := rfl
    have h600 : 600 * y.f5.length ≤ 600 * 256 := Nat.mul_le_mul_left _ q4
    rw [if_pos (by omega), if_pos (by omega), if_pos (by simp only [ByteArray.size_append]; omega), if_pos (by simp only [ByteArray.size_append]; omega), spec_l1Dec_wide y.f1 (by omega) (by omega)]
    simp only [Option.bind_some]
    rw [if_pos (by simp only [ByteArray.size_append]; omega), if_pos (by simp only [ByteArray.size_append]; omega), spec_l1Dec_wide y.f2 (by omega) (by omega)]
    simp only [Option.bind_some]
    rw [if_pos (by simp only [ByteArray.size_append]; omega), if_pos (by simp only [ByteArray.size_append]; omega), spec_l1Dec_wide y.f3 (by omega) (by omega)]
    simp only [Option.bind_some]
    rw [if_pos (by simp only [ByteArray.size_append]; omega), if_pos (by simp only [ByteArray.size_append]; omega), spec_l9Hex_eq y.f4 q3 (by omega)]
    simp only [Option.bind_some]
    rw [if_pos (by simp only [ByteArray.size_append]; omega), if_pos (by simp only [ByteArray.size_append]; omega)]
    have h1 := spec_l9Text_l1 secs syms ass (i : Int) y.f0 y.f1 y.f2 y.f3 y.f4 y.f5 q4 (y.f4.size : Int) (by omega) q7 (((secs.drop (i + 1)).map secL).flatten ++ T) (8000000 - 200000 * n) (300 * n + 1001) (by omega) (by omega) (fun k acc h1 h2 => by rw [hw]; exact ih k (i + 1) acc (by omega) h1 (by omega)) y.f5.length k 0
    rw [show ((0 : Nat) : Int) = 0 from rfl] at h1
    rw [h1 _ (by omega) (by omega) (by simp only [ByteArray.size_append]; omega)]
    simp [ByteArray.data_append, secL, secHead, lineL, Go.Lib.join_cons, Go.Lib.joinTail, wSec]
theorem spec_ObjectText_eq (secs : List S71) (syms : List S72) (ass : List (List S124)) (hx : ∀ x ∈ secs, secFitI x) (hc : ∀ x ∈ ass, x.length ≤ 1048576) {k : Nat} (hk : 4500000 ≤ k) : spec_ObjectText.f k secs syms ass = some (objText secs syms ass) := by
  unfold spec_ObjectText.f objText
  rw [spec_ObjectOk_eq secs syms ass hx hc hk]
  simp only [Option.bind_some]
  by_cases h : objOk secs syms ass = true
  · rw [if_pos h, if_pos h]
    obtain ⟨h1, h2, h3, h4, h5, h6⟩ := objOk_parts h
    have t3 := fun k (acc : ByteArray) (hk : 400 ≤ k) (ha : acc.size ≤ 9000000) => spec_l9Text_l3 secs syms ass h3 h6 ass.length k 0 acc (by omega) (by omega) (by omega)
    have t2 := fun k (acc : ByteArray) (hk : 1000 ≤ k) (ha : acc.size ≤ 8000000) => spec_l9Text_l2 secs syms ass h1 h4 h2 h5 _ t3 syms.length k 0 acc (by omega) (by omega) (by omega)
    have t0 := spec_l9Text_l0 secs syms ass h1 h4 _ t2 secs.length k 0 ⟨#[]⟩ (by omega) (by omega) (by show 0 + _ ≤ _; omega)
    rw [show ((0 : Nat) : Int) = 0 from rfl] at t0
    unfold spec_l9Text.f
    rw [t0]
    simp [objL]
  · rw [if_neg h, if_neg h]

theorem impl_decimal_eq (n : Int) (h : -9223372036854775808 ≤ n ∧ n ≤ 9223372036854775807) : impl_decimal.f n = some ⟨(Go.Lib.itoa n).toArray⟩ := by
  unfold impl_decimal.f strconv_FormatInt.f
  rw [if_pos rfl, if_pos (by omega), if_pos (by omega)]
  rfl
theorem impl_spaced_eq (l : List ByteArray) (h : l.length ≤ 100) (hz : (Go.Lib.join (l.map (·.data.toList)) [32]).length ≤ 1000000) : impl_spaced.f l = some ⟨(lineL (l.map (·.data.toList))).toArray⟩ := by
  unfold impl_spaced.f strings_Join.f
  rw [if_pos (by omega), if_pos (by show (Go.Lib.join _ [32]).length ≤ _; omega)]
  simp only [Option.bind_some]
  have hs : (⟨(Go.Lib.join (l.map (·.data.toList)) (⟨#[32]⟩ : ByteArray).data.toList).toArray⟩ : ByteArray).size = (Go.Lib.join (l.map (·.data.toList)) [32]).length := bytes_size _
  rw [if_pos (by rw [hs]; omega)]
  refine congrArg some (ByteArray.ext (Array.toList_inj.1 ?_))
  simp [ByteArray.data_append, lineL]
theorem impl_patRow_eq {n : Int} {p : S79} (h : patOk n p = true) (hn : n ≤ 256) {k : Nat} (hk : 40 ≤ k) : impl_objectText.patRow k p = some ⟨(patL p).toArray⟩ := by
  obtain ⟨q1, q2, q3⟩ := patOk_in h hn
  have hl := patL_len h hn
  unfold impl_objectText.patRow
  rw [impl_decimal_eq p.f0 (by omega), impl_decimal_eq p.f1 (by omega), impl_exprText_eq p.f2 q3 hk]
  simp only [Option.bind_some]
  rw [impl_spaced_eq _ (by simp) (by
    unfold patL lineL at hl
    rw [List.length_append] at hl
    refine Nat.le_trans (Nat.le_of_eq ?_) (show (Go.Lib.join [wPat, Go.Lib.itoa p.f0, Go.Lib.itoa p.f1, exprL p.f2] [32]).length ≤ 1000000 by omega)
    rfl)]
  rfl
theorem impl_secRow_eq {y : S71} (h : secOkS y = true) : impl_objectText.secRow y = some ⟨(secHead y).toArray⟩ := by
  obtain ⟨q1, q2, q3, q4, q5, q6, q7⟩ := secOk_in h
  have hl := secHead_len h
  unfold impl_objectText.secRow
  rw [impl_decimal_eq y.f1 (by omega), impl_decimal_eq y.f2 (by omega), impl_decimal_eq y.f3 (by omega), impl_hexText_eq y.f4 (by omega)]
  simp only [Option.bind_some]
  rw [impl_spaced_eq _ (by simp) (by
    unfold secHead lineL at hl
    rw [List.length_append] at hl
    refine Nat.le_trans (Nat.le_of_eq ?_) (show (Go.Lib.join [wSec, y.f0.data.toList, Go.Lib.itoa y.f1, Go.Lib.itoa y.f2, Go.Lib.itoa y.f3, hexL y.f4.data.toList] [32]).length ≤ 1000000 by omega)
    rfl)]
  rfl
theorem impl_symRow_eq {secs : List S71} {y : S72} (hs : secs.length ≤ 12) (hx : ∀ x ∈ secs, secOkS x = true) (h : symOk secs y = true) : impl_objectText.symRow y = some ⟨(osymL y).toArray⟩ := by
  obtain ⟨q1, q2, q3⟩ := symOk_in hs hx h
  have hl := osymL_len hs hx h
  unfold impl_objectText.symRow
  rw [impl_decimal_eq y.f1 (by omega), impl_decimal_eq y.f2 (by omega)]
  simp only [Option.bind_some]
  have e : ((if y.f3 = true then (⟨#[49]⟩ : ByteArray) else (⟨#[48]⟩ : ByteArray))) = ⟨(Go.Lib.itoa y.f3.toInt).toArray⟩ := by
    cases y.f3
    · show (⟨#[48]⟩ : ByteArray) = ⟨(Go.Lib.itoa 0).toArray⟩
      rw [show Go.Lib.itoa 0 = [48] from by unfold Go.Lib.itoa; rw [if_neg (by decide), Go.Lib.decDigits]; rfl]
    · show (⟨#[49]⟩ : ByteArray) = ⟨(Go.Lib.itoa 1).toArray⟩
      rw [show Go.Lib.itoa 1 = [49] from by unfold Go.Lib.itoa; rw [if_neg (by decide), Go.Lib.decDigits]; rfl]
  rw [e, impl_spaced_eq _ (by simp) (by
    unfold osymL lineL at hl
    rw [List.length_append] at hl
    refine Nat.le_trans (Nat.le_of_eq ?_) (show (Go.Lib.join [wSym, y.f0.data.toList, Go.Lib.itoa y.f1, Go.Lib.itoa y.f2, Go.Lib.itoa y.f3.toInt] [32]).length ≤ 1000000 by omega)
    rfl)]
  rfl
theorem impl_assRow_eq {e : List S124} (h : assOk e = true) {k : Nat} (hk : 40 ≤ k) : impl_objectText.assRow k e = some ⟨(assL e).toArray⟩ := by
  have hl := assL_len e
  unfold impl_objectText.assRow
  rw [impl_exprText_eq e h hk]
  simp only [Option.bind_some]
  rw [impl_spaced_eq _ (by simp) (by
    unfold assL lineL at hl
    rw [List.length_append] at hl
    refine Nat.le_trans (Nat.le_of_eq ?_) (show (Go.Lib.join [wAss, exprL e] [32]).length ≤ 1000000 by omega)
    rfl)]
  rfl
theorem mk_size (l : List UInt8) : (⟨l.toArray⟩ : ByteArray).size = l.length := bytes_size l
theorem impl_pats_eq {n : Int} (hn : n ≤ 256) {k : Nat} (hk : 40 ≤ k) : ∀ (l : List S79) (acc : ByteArray), (∀ p ∈ l, patOk n p = true) → acc.size + 600 * l.length ≤ 10000000 → impl_objectText.pats k l acc = some ⟨(acc.data.toList ++ (l.map patL).flatten).toArray⟩
  | [], acc, _, _ => by simp [impl_objectText.pats]
  | p :: r, acc, h, hz => by
    have hp := h p List.mem_cons_self
    have hl := patL_len hp hn
    have zp := mk_size (patL p)
    rw [List.length_cons] at hz
    rw [impl_objectText.pats, impl_patRow_eq hp hn hk]
    simp only [Option.bind_some]
    rw [if_pos (by omega), impl_pats_eq hn hk r _ (fun q hq => h q (List.mem_cons_of_mem _ hq)) (by rw [ByteArray.size_append]; omega)]
    simp [ByteArray.data_append]
theorem impl_secs_eq {k : Nat} (hk : 40 ≤ k) : ∀ (l : List S71) (acc : ByteArray), (∀ y ∈ l, secOkS y = true) → acc.size + 200000 * l.length ≤ 9000000 → impl_objectText.secs k l acc = some ⟨(acc.data.toList ++ (l.map secL).flatten).toArray⟩
  | [], acc, _, _ => by simp [impl_objectText.secs]
  | y :: r, acc, h, hz => by
    have hp := h y List.mem_cons_self
    have hl := secHead_len hp
    obtain ⟨_, _, q3, q4, _, _, q7⟩ := secOk_in hp
    have h600 : 600 * y.f5.length ≤ 600 * 256 := Nat.mul_le_mul_left _ q4
    have hsl := secL_len hp
    have zp := mk_size (secHead y)
    rw [List.length_cons] at hz
    rw [impl_objectText.secs, impl_secRow_eq hp]
    simp only [Option.bind_some]
    rw [if_pos (by omega), impl_pats_eq (by omega) hk y.f5 _ q7 (by rw [ByteArray.size_append]; omega)]
    simp only [Option.bind_some]
    rw [impl_secs_eq hk r _ (fun q hq => h q (List.mem_cons_of_mem _ hq)) (by
      rw [mk_size, List.length_append, len_list, ByteArray.size_append]
      unfold secL at hsl
      rw [List.length_append] at hsl
      omega)]
    simp [ByteArray.data_append, secL]
theorem impl_syms_eq {secs : List S71} (hs : secs.length ≤ 12) (hx : ∀ x ∈ secs, secOkS x = true) : ∀ (l : List S72) (acc : ByteArray), (∀ y ∈ l, symOk secs y = true) → acc.size + 120 * l.length ≤ 10000000 → impl_objectText.syms l acc = some ⟨(acc.data.toList ++ (l.map osymL).flatten).toArray⟩
  | [], acc, _, _ => by simp [impl_objectText.syms]
  | y :: r, acc, h, hz => by
    have hp := h y List.mem_cons_self
    have hl := osymL_len hs hx hp
    have zp := mk_size (osymL y)
    rw [List.length_cons] at hz
    rw [impl_objectText.syms, impl_symRow_eq hs hx hp]
    simp only [Option.bind_some]
    rw [if_pos (by omega), impl_syms_eq hs hx r _ (fun q hq => h q (List.mem_cons_of_mem _ hq)) (by rw [ByteArray.size_append]; omega)]
    simp [ByteArray.data_append]
theorem impl_asss_eq {k : Nat} (hk : 40 ≤ k) : ∀ (l : List (List S124)) (acc : ByteArray), (∀ y ∈ l, assOk y = true) → acc.size + 600 * l.length ≤ 11000000 → impl_objectText.asss k l acc = some ⟨(acc.data.toList ++ (l.map assL).flatten).toArray⟩
  | [], acc, _, _ => by simp [impl_objectText.asss]
  | y :: r, acc, h, hz => by
    have hl := assL_len y
    have zp := mk_size (assL y)
    rw [List.length_cons] at hz
    rw [impl_objectText.asss, impl_assRow_eq (h y List.mem_cons_self) hk]
    simp only [Option.bind_some]
    rw [if_pos (by omega), impl_asss_eq hk r _ (fun q hq => h q (List.mem_cons_of_mem _ hq)) (by rw [ByteArray.size_append]; omega)]
    simp [ByteArray.data_append]
theorem impl_objectText_eq (secs : List S71) (syms : List S72) (ass : List (List S124)) (h : objOk secs syms ass = true) {k : Nat} (hk : 40 ≤ k) : impl_objectText.f k secs syms ass = some ⟨(objL secs syms ass).toArray⟩ := by
  obtain ⟨h1, h2, h3, h4, h5, h6⟩ := objOk_parts h
  have n1 := flat_len secL 200000 secs (fun x hx => secL_len (h4 x hx))
  have n2 := flat_len osymL 120 syms (fun y hy => osymL_len h1 h4 (h5 y hy))
  unfold impl_objectText.f
  rw [impl_secs_eq hk secs _ h4 (by show 0 + _ ≤ _; omega)]
  simp only [Option.bind_some]
  rw [impl_syms_eq h1 h4 syms _ h5 (by rw [mk_size]; simp only [List.nil_append]; omega)]
  simp only [Option.bind_some]
  rw [impl_asss_eq hk ass _ h6 (by rw [mk_size, List.length_append]; simp only [List.nil_append]; omega)]
  simp [objL]
theorem impl_ObjectText_eq (secs : List S71) (syms : List S72) (ass : List (List S124)) (hx : ∀ x ∈ secs, secFitI x) {k : Nat} (hk : 3400000 ≤ k) : impl_ObjectText.f k secs syms ass = some (objText secs syms ass) := by
  unfold impl_ObjectText.f objText
  rw [impl_ObjectOk_eq secs syms ass hx hk]
  simp only [Option.bind_some]
  by_cases h : objOk secs syms ass = true
  · rw [if_pos h, if_pos h, impl_objectText_eq secs syms ass h (by omega)]
    rfl
  · rw [if_neg h, if_neg h]

open Go.Proofs.YtlacpadpdfccmaaGreatDoor.Kin in
theorem FnExactObjectText (a : List S62) (b : List S65) (c : List (List S119)) (ha : a.length ≤ maxLen ∧ ∀ x ∈ a, okT62 x) (hb : b.length ≤ maxLen ∧ ∀ x ∈ b, okT65 x) (hc : c.length ≤ maxLen ∧ ∀ x ∈ c, (x.length ≤ maxLen ∧ ∀ y ∈ x, okT119 y)) : ∃ k, laws_FnExactObjectText.f k a b c = some true := by
  refine ⟨5000000, ?_⟩
  unfold laws_FnExactObjectText.f
  have hA : ∀ x ∈ a, secBig x := fun x hx => by
    have h := ha.2 x hx
    exact ⟨h.1, h.2.2.2.2.1, h.2.2.2.2.2.1, fun y hy => ⟨(h.2.2.2.2.2.2 y hy).2.2.1, fun z hz => ((h.2.2.2.2.2.2 y hy).2.2.2 z hz).2.2⟩⟩
  obtain ⟨t, ht, hle, hlen⟩ := laws_szObject_some a b c ha.1 hA hb.1 (fun x hx => (hb.2 x hx).1) hc.1 (fun x hx => ⟨(hc.2 x hx).1, fun y hy => ((hc.2 x hx).2 y hy).2.2⟩) (k := 5000000) (left := 1048576) (by decide) (by decide) (by decide)
  rw [ht]
  simp only [Option.bind_some]
  by_cases hn : t < 0
  · rw [if_pos hn]
  · rw [if_neg hn]
    obtain ⟨⟨h1, h2⟩, h3, h4, h5⟩ := hlen (by omega)
    have h2' : ∀ x ∈ a.map secI, secFitI x := by
      intro x hx
      obtain ⟨y, hy, rfl⟩ := List.mem_map.1 hx
      obtain ⟨q1, q2, q3⟩ := h2 y hy
      refine ⟨q1, by simpa [secI] using q2, fun z hz => ?_⟩
      obtain ⟨p, hp, rfl⟩ := List.mem_map.1 (show z ∈ y.f5.map patI from hz)
      show (p.f2.map nodeI).length ≤ _
      rw [List.length_map]
      exact q3 p hp
    have h5' : ∀ x ∈ c.map (List.map nodeI), x.length ≤ 1048576 := by
      intro x hx
      obtain ⟨y, hy, rfl⟩ := List.mem_map.1 hx
      rw [List.length_map]
      exact h5 y hy
    rw [laws_toObject_eq a b c h1 h2 h3 h4 h5 (by decide)]
    simp only [Option.bind_some]
    rw [spec_ObjectText_eq _ _ _ h2' h5' (by decide)]
    simp only [Option.bind_some]
    rw [impl_ObjectText_eq _ _ _ h2' (by decide)]
    simp only [Option.bind_some, if_true]
    rw [laws_eqObject_same _ _ _ (by simpa using h1) h2' (by simpa using h3) (by simpa using h4) h5' (by decide)]
    simp

end Go.Proofs.YtlacpadpdfccmaaGreatDoor.Pure
