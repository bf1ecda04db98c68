/-
The law FnExactEvalExpr, told as a plain function of the nodes and the symbols, answers true for every input.
-/
import Derived.Test.YtffmpmgnkhlmdaaPFnExactEvalExprx8
import Derived.Test.YtffmpmgnkhlmdaaAidA
import Derived.Test.YtffmpmgnkhlmdaaAidB
import Derived.Test.YtffmpmgnkhlmdaaAidC
import Derived.Test.YtffmpmgnkhlmdaaAidU
import Derived.Test.YtffmpmgnkhlmdaaKinFnExactEvalExpr
namespace Go.Proofs.Ytffmpmgnkhlmdaa.Pure
open Go.RowKit Go.Proofs.Ytffmpmgnkhlmdaa.Aid Go.Proofs.Ytffmpmgnkhlmdaa.PFnExactEvalExpr Go.Proofs.YtffmpmgnkhlmdaaW.PrintWords Go.Proofs.YtffmpmgnkhlmdaaW.PrintLast Go.Proofs.YtffmpmgnkhlmdaaW.PrintMore
set_option linter.unusedVariables false
set_option linter.unusedSimpArgs false

theorem spec_l1In_eq (a b c : Int) : spec_l1In.f a b c = some (inR a b c) := by
  unfold spec_l1In.f inR
  by_cases h : a ≥ b
  · rw [if_pos h, decide_eq_true (show b ≤ a from h)]
    rfl
  · rw [if_neg h, decide_eq_false (show ¬ b ≤ a from h)]
    rfl

theorem impl_within_eq (a b c : Int) : impl_within.f a b c = some (inR a b c) := by
  unfold impl_within.f inR
  by_cases h : a ≥ b
  · rw [if_pos h, decide_eq_true (show b ≤ a from h)]
    rfl
  · rw [if_neg h, decide_eq_false (show ¬ b ≤ a from h)]
    rfl

theorem impl_isWord_eq (a : Int) : impl_isWord.f a = some (inR a 0 65535) := by
  unfold impl_isWord.f
  rw [impl_within_eq]
  rfl

theorem spec_l1Letter_eq (c : Int) : spec_l1Letter.f c = some (isLet c) := by
  unfold spec_l1Letter.f isLet inR
  by_cases h1 : c ≥ 97
  · by_cases h2 : c ≤ 122
    · simp [h1, h2]
    · by_cases h3 : c = 95
      · simp [h3]
      · simp [h1, h2, h3]
  · by_cases h3 : c = 95
    · simp [h3]
    · simp [h1, h3]

theorem impl_isDigit_eq (c : Int) : impl_isDigit.f c = some (inR c 48 57) := by
  unfold impl_isDigit.f inR
  by_cases h : c ≥ 48
  · rw [if_pos h, decide_eq_true (show 48 ≤ c from h)]
    rfl
  · rw [if_neg h, decide_eq_false (show ¬ 48 ≤ c from h)]
    rfl

theorem impl_isSmall_eq (c : Int) : impl_isSmall.f c = some (inR c 97 122) := by
  unfold impl_isSmall.f inR
  by_cases h : c ≥ 97
  · rw [if_pos h, decide_eq_true (show 97 ≤ c from h)]
    rfl
  · rw [if_neg h, decide_eq_false (show ¬ 97 ≤ c from h)]
    rfl

theorem spec_NameOk_l0 (s : ByteArray) (hs : s.size ≤ 140737488351232) : ∀ (n k i : Nat), i + n = s.size → n < k → spec_NameOk.l0 k s (i : Int) = some (allB isNam s n i) := by
  intro n
  induction n with
  | zero =>
    intro k i hi hk
    obtain ⟨k, rfl⟩ : ∃ m, k = m + 1 := ⟨k - 1, by omega⟩
    simp only [spec_NameOk.l0]
    rw [if_neg (by omega)]
    rfl
  | succ n ih =>
    intro k i hi hk
    obtain ⟨k, rfl⟩ : ∃ m, k = m + 1 := ⟨k - 1, by omega⟩
    have hn := ih k (i + 1) (by omega) (by omega)
    have hw : wrap64 ((i : Int) + 1) = ((i + 1 : Nat) : Int) := by rw [w64 (by omega) (by omega)]; omega
    simp only [spec_NameOk.l0]
    rw [if_pos (by omega), if_pos (by omega), spec_l1Letter_eq, hw, hn]
    simp only [Option.bind_some, allB, isNam, inR]
    by_cases h1 : isLet (bt s i) = true
    · simp [h1]
    · by_cases h2 : bt s i ≥ 48
      · by_cases h3 : bt s i ≤ 57
        · simp [h1, h2, h3]
        · simp [h1, h2, h3]
      · simp [h1, h2]
theorem spec_NameOk_eq (s : ByteArray) {k : Nat} (hk : 20 ≤ k) : spec_NameOk.f k s = some (nameOk s) := by
  unfold spec_NameOk.f nameOk
  obtain ⟨k, rfl⟩ : ∃ m, k = m + 1 := ⟨k - 1, by omega⟩
  simp only [spec_NameOk.j0]
  by_cases h1 : (s.size : Int) < 1
  · rw [if_pos h1, inR_neg (by omega)]
    rfl
  · by_cases h2 : (s.size : Int) > 16
    · rw [if_neg h1, if_pos h2, inR_neg (by omega)]
      rfl
    · have hl := spec_NameOk_l0 s (by omega) s.size k 0 (by omega) (by omega)
      rw [if_neg h1, if_neg h2, inR_pos (by omega) (by omega), if_pos (by omega), spec_l1Letter_eq]
      simp only [Option.bind_some, Bool.true_and]
      rw [show ((0 : Nat) : Int) = 0 from rfl] at hl
      rw [hl]
      obtain ⟨n, hn⟩ : ∃ n, s.size = n + 1 := ⟨s.size - 1, by omega⟩
      by_cases h3 : isLet (bt s 0) = true
      · rw [h3, isLet_dig h3]
        simp
      · have h3' : isLet (bt s 0) = false := by simpa using h3
        rw [h3', hn]
        simp only [Bool.not_false, if_true, allB]
        rw [show bt s ((0 : Nat) : Int) = bt s 0 from rfl]
        unfold isNam
        rw [h3']
        cases inR (bt s 0) 48 57 <;> simp

theorem impl_NameOk_l0 (s : ByteArray) (hs : s.size ≤ 140737488351232) : ∀ (n k i : Nat), i + n = s.size → n < k → impl_NameOk.l0 k s (s.size : Int) (i : Int) = some (allB isNam s n i) := by
  intro n
  induction n with
  | zero =>
    intro k i hi hk
    obtain ⟨k, rfl⟩ : ∃ m, k = m + 1 := ⟨k - 1, by omega⟩
    simp only [impl_NameOk.l0]
    rw [if_neg (by omega)]
    rfl
  | succ n ih =>
    intro k i hi hk
    obtain ⟨k, rfl⟩ : ∃ m, k = m + 1 := ⟨k - 1, by omega⟩
    have hn := ih k (i + 1) (by omega) (by omega)
    have hw : wrap64 ((i : Int) + 1) = ((i + 1 : Nat) : Int) := by rw [w64 (by omega) (by omega)]; omega
    simp only [impl_NameOk.l0]
    rw [if_pos (by omega), if_pos (by omega), if_pos (by omega), impl_isSmall_eq, impl_isDigit_eq, hw, hn]
    simp only [Option.bind_some, allB, isNam, isLet]
    by_cases h1 : inR (bt s i) 97 122 = true
    · simp [h1]
    · by_cases h2 : inR (bt s i) 48 57 = true
      · simp [h1, h2]
      · by_cases h3 : bt s i = 95
        · simp [h1, h2, h3]
        · by_cases h4 : bt s i = 46
          · simp [h1, h2, h3, h4]
          · simp [h1, h2, h3, h4]
theorem impl_NameOk_eq (s : ByteArray) {k : Nat} (hk : 20 ≤ k) : impl_NameOk.f k s = some (nameOk s) := by
  unfold impl_NameOk.f nameOk
  obtain ⟨k, rfl⟩ : ∃ m, k = m + 1 := ⟨k - 1, by omega⟩
  simp only [impl_NameOk.j0, impl_within_eq, Option.bind_some]
  by_cases h1 : 1 ≤ (s.size : Int) ∧ (s.size : Int) ≤ 16
  · have hl := impl_NameOk_l0 s (by omega) s.size k 0 (by omega) (by omega)
    rw [inR_pos h1.1 h1.2, if_pos rfl, if_pos (by omega), impl_isDigit_eq]
    simp only [Option.bind_some, Bool.true_and]
    rw [show ((0 : Nat) : Int) = 0 from rfl] at hl
    rw [hl]
    cases inR (bt s 0) 48 57 <;> simp
  · rw [inR_neg h1]
    rfl

theorem laws_szENodeS_l0 (l : List S108) (hl : l.length ≤ 1048576) (hn : ∀ x ∈ l, x.f2.size ≤ maxLen) : ∀ (n k i : Nat) (left : Int), i + n = l.length → n < k → 0 ≤ left → left ≤ 1048576 → ∃ t, laws_szENodeS.l0 k l left (i : Int) = some t ∧ t ≤ left := by
  intro n
  induction n with
  | zero =>
    intro k i left hi hk h0 h1
    obtain ⟨k, rfl⟩ : ∃ m, k = m + 1 := ⟨k - 1, by omega⟩
    refine ⟨left, ?_, Int.le_refl _⟩
    simp only [laws_szENodeS.l0]
    rw [if_neg (by omega)]
  | succ n ih =>
    intro k i left hi hk h0 h1
    obtain ⟨k, rfl⟩ : ∃ m, k = m + 1 := ⟨k - 1, by omega⟩
    simp only [laws_szENodeS.l0]
    rw [if_pos (by omega), if_pos (by omega), up1 (by omega : i < l.length) (by omega)]
    have hx : (rd_T108 l (i : Int)).f2.size ≤ maxLen := hn _ (by unfold rd_T108; exact getD_mem _ _ _ (by simp; omega))
    unfold maxLen at hx
    unfold laws_szENode.f
    generalize (rd_T108 l (i : Int)).f2.size = z at hx ⊢
    rw [w64 (by omega) (by omega)]
    by_cases hc : left - (z : Int) < 0
    · rw [if_pos hc]
      exact ⟨-1, by simp, by omega⟩
    · rw [if_neg hc]
      simp only [Option.bind_some]
      rw [if_neg hc]
      obtain ⟨t, ht, hle⟩ := ih k (i + 1) (left - z) (by omega) (by omega) (by omega) (by omega)
      exact ⟨t, ht, by omega⟩
theorem laws_szENodeS_some (l : List S108) (hl : l.length ≤ maxLen) (hn : ∀ x ∈ l, x.f2.size ≤ maxLen) {k : Nat} {left : Int} (h0 : 0 ≤ left) (h1 : left ≤ 1048576) (hk : 1048577 ≤ k) :
    ∃ t, laws_szENodeS.f k l left = some t ∧ t ≤ left ∧ (0 ≤ t → l.length ≤ 1048576) := by
  unfold maxLen at hl
  unfold laws_szENodeS.f
  rw [w64 (by omega) (by omega)]
  by_cases hc : left - (l.length : Int) < 0
  · rw [if_pos hc]
    exact ⟨-1, rfl, by omega, by omega⟩
  · rw [if_neg hc]
    obtain ⟨t, ht, hle⟩ := laws_szENodeS_l0 l (by omega) hn l.length k 0 (left - l.length) (by omega) (by omega) (by omega) (by omega)
    exact ⟨t, ht, by omega, fun _ => by omega⟩

def nodeI (x : S108) : S113 := ⟨x.f0, x.f1, x.f2⟩
def nd (x : S113) : Nd := (x.f0, x.f1, x.f2)
theorem laws_toENodeS_l0 (l : List S108) (hl : l.length ≤ 1048576) : ∀ (n k i : Nat) (y : List S113), i + n = l.length → n < k → y.length = l.length → y.take i = (l.map nodeI).take i → laws_toENodeS.l0 k l y (i : Int) = some (l.map nodeI) := by
  intro n
  induction n with
  | zero =>
    intro k i y hi hk hy ht
    obtain ⟨k, rfl⟩ : ∃ m, k = m + 1 := ⟨k - 1, by omega⟩
    simp only [laws_toENodeS.l0]
    rw [if_neg (by omega)]
    obtain rfl : i = l.length := by omega
    rw [fill_end nodeI l y hy ht]
  | succ n ih =>
    intro k i y hi hk hy ht
    obtain ⟨k, rfl⟩ : ∃ m, k = m + 1 := ⟨k - 1, by omega⟩
    simp only [laws_toENodeS.l0, laws_toENode.f, Option.bind_some]
    rw [if_pos (by omega), if_pos (by omega), if_pos (by omega), up1 (by omega : i < l.length) (by omega)]
    obtain ⟨h1, h2⟩ := fill_step z108 nodeI l y i (by omega) hy ht
    exact ih k (i + 1) _ (by omega) (by omega) h1 h2
theorem laws_toENodeS_eq (l : List S108) (hl : l.length ≤ 1048576) {k : Nat} (hk : 1048577 ≤ k) : laws_toENodeS.f k l = some (l.map nodeI) := by
  unfold laws_toENodeS.f
  rw [if_pos (by omega), if_pos (by omega)]
  exact laws_toENodeS_l0 l hl l.length k 0 _ (by omega) (by omega) (by simp) (by simp)

theorem laws_eqENodeS_l0 (l : List S113) (hl : l.length ≤ 1048576) : ∀ (n k i : Nat), i + n = l.length → n < k → laws_eqENodeS.l0 k l l (i : Int) = some true := by
  intro n
  induction n with
  | zero =>
    intro k i hi hk
    obtain ⟨k, rfl⟩ : ∃ m, k = m + 1 := ⟨k - 1, by omega⟩
    simp only [laws_eqENodeS.l0]
    rw [if_neg (by omega)]
  | succ n ih =>
    intro k i hi hk
    obtain ⟨k, rfl⟩ : ∃ m, k = m + 1 := ⟨k - 1, by omega⟩
    simp only [laws_eqENodeS.l0, laws_eqENode.f, if_true, Option.bind_some]
    rw [if_pos (by omega), if_pos (by omega), if_pos (by omega), up1 (by omega : i < l.length) (by omega)]
    exact ih k (i + 1) (by omega) (by omega)
theorem laws_eqENodeS_same (l : List S113) (hl : l.length ≤ 1048576) {k : Nat} (hk : 1048577 ≤ k) : laws_eqENodeS.f k l l = some true := by
  unfold laws_eqENodeS.f
  rw [if_pos rfl]
  exact laws_eqENodeS_l0 l hl l.length k 0 (by omega) (by omega)

theorem laws_szSymS_l0 (l : List S111) (hl : l.length ≤ 1048576) (hn : ∀ x ∈ l, x.f0.size ≤ maxLen) : ∀ (n k i : Nat) (left : Int), i + n = l.length → n < k → 0 ≤ left → left ≤ 1048576 → ∃ t, laws_szSymS.l0 k l left (i : Int) = some t ∧ t ≤ left := by
  intro n
  induction n with
  | zero =>
    intro k i left hi hk h0 h1
    obtain ⟨k, rfl⟩ : ∃ m, k = m + 1 := ⟨k - 1, by omega⟩
    refine ⟨left, ?_, Int.le_refl _⟩
    simp only [laws_szSymS.l0]
    rw [if_neg (by omega)]
  | succ n ih =>
    intro k i left hi hk h0 h1
    obtain ⟨k, rfl⟩ : ∃ m, k = m + 1 := ⟨k - 1, by omega⟩
    simp only [laws_szSymS.l0]
    rw [if_pos (by omega), if_pos (by omega), up1 (by omega : i < l.length) (by omega)]
    have hx : (rd_T111 l (i : Int)).f0.size ≤ maxLen := hn _ (by unfold rd_T111; exact getD_mem _ _ _ (by simp; omega))
    unfold maxLen at hx
    unfold laws_szSym.f
    generalize (rd_T111 l (i : Int)).f0.size = z at hx ⊢
    rw [w64 (by omega) (by omega)]
    by_cases hc : left - (z : Int) < 0
    · rw [if_pos hc]
      exact ⟨-1, by simp, by omega⟩
    · rw [if_neg hc]
      simp only [Option.bind_some]
      rw [if_neg hc]
      obtain ⟨t, ht, hle⟩ := ih k (i + 1) (left - z) (by omega) (by omega) (by omega) (by omega)
      exact ⟨t, ht, by omega⟩
theorem laws_szSymS_some (l : List S111) (hl : l.length ≤ maxLen) (hn : ∀ x ∈ l, x.f0.size ≤ maxLen) {k : Nat} {left : Int} (h0 : 0 ≤ left) (h1 : left ≤ 1048576) (hk : 1048577 ≤ k) :
    ∃ t, laws_szSymS.f k l left = some t ∧ t ≤ left ∧ (0 ≤ t → l.length ≤ 1048576) := by
  unfold maxLen at hl
  unfold laws_szSymS.f
  rw [w64 (by omega) (by omega)]
  by_cases hc : left - (l.length : Int) < 0
  · rw [if_pos hc]
    exact ⟨-1, rfl, by omega, by omega⟩
  · rw [if_neg hc]
    obtain ⟨t, ht, hle⟩ := laws_szSymS_l0 l (by omega) hn l.length k 0 (left - l.length) (by omega) (by omega) (by omega) (by omega)
    exact ⟨t, ht, by omega, fun _ => by omega⟩

def symI (x : S111) : S115 := ⟨x.f0, x.f1, x.f2⟩
theorem laws_toSymS_l0 (l : List S111) (hl : l.length ≤ 1048576) : ∀ (n k i : Nat) (y : List S115), i + n = l.length → n < k → y.length = l.length → y.take i = (l.map symI).take i → laws_toSymS.l0 k l y (i : Int) = some (l.map symI) := by
  intro n
  induction n with
  | zero =>
    intro k i y hi hk hy ht
    obtain ⟨k, rfl⟩ : ∃ m, k = m + 1 := ⟨k - 1, by omega⟩
    simp only [laws_toSymS.l0]
    rw [if_neg (by omega)]
    obtain rfl : i = l.length := by omega
    rw [fill_end symI l y hy ht]
  | succ n ih =>
    intro k i y hi hk hy ht
    obtain ⟨k, rfl⟩ : ∃ m, k = m + 1 := ⟨k - 1, by omega⟩
    simp only [laws_toSymS.l0, laws_toSym.f, Option.bind_some]
    rw [if_pos (by omega), if_pos (by omega), if_pos (by omega), up1 (by omega : i < l.length) (by omega)]
    obtain ⟨h1, h2⟩ := fill_step z111 symI l y i (by omega) hy ht
    exact ih k (i + 1) _ (by omega) (by omega) h1 h2
theorem laws_toSymS_eq (l : List S111) (hl : l.length ≤ 1048576) {k : Nat} (hk : 1048577 ≤ k) : laws_toSymS.f k l = some (l.map symI) := by
  unfold laws_toSymS.f
  rw [if_pos (by omega), if_pos (by omega)]
  exact laws_toSymS_l0 l hl l.length k 0 _ (by omega) (by omega) (by simp) (by simp)

theorem laws_eqSymS_l0 (l : List S115) (hl : l.length ≤ 1048576) : ∀ (n k i : Nat), i + n = l.length → n < k → laws_eqSymS.l0 k l l (i : Int) = some true := by
  intro n
  induction n with
  | zero =>
    intro k i hi hk
    obtain ⟨k, rfl⟩ : ∃ m, k = m + 1 := ⟨k - 1, by omega⟩
    simp only [laws_eqSymS.l0]
    rw [if_neg (by omega)]
  | succ n ih =>
    intro k i hi hk
    obtain ⟨k, rfl⟩ : ∃ m, k = m + 1 := ⟨k - 1, by omega⟩
    simp only [laws_eqSymS.l0, laws_eqSym.f, if_true, Option.bind_some]
    rw [if_pos (by omega), if_pos (by omega), if_pos (by omega), up1 (by omega : i < l.length) (by omega)]
    exact ih k (i + 1) (by omega) (by omega)
theorem laws_eqSymS_same (l : List S115) (hl : l.length ≤ 1048576) {k : Nat} (hk : 1048577 ≤ k) : laws_eqSymS.f k l l = some true := by
  unfold laws_eqSymS.f
  rw [if_pos rfl]
  exact laws_eqSymS_l0 l hl l.length k 0 (by omega) (by omega)

theorem spec_l2Takes_eq (a : Int) : spec_l2Takes.f a = some (takes a) := by
  unfold spec_l2Takes.f takes
  simp only [spec_l1In_eq, Option.bind_some]
  split
  · rfl
  · split
    · rfl
    · split <;> rfl

theorem spec_l2Node_eq (a b : Int) (s : ByteArray) {k : Nat} (hk : 30 ≤ k) : spec_l2Node.f k a b s = some (nodeOk (a, b, s)) := by
  obtain ⟨k, rfl⟩ : ∃ m, k = m + 1 := ⟨k - 1, by omega⟩
  unfold spec_l2Node.f nodeOk
  simp only [spec_l1In_eq, spec_l2Node.j0, spec_l2Takes_eq, spec_NameOk_eq s (by omega : 20 ≤ k), Option.bind_some]
  by_cases h1 : a = 1
  · rw [if_pos h1, if_pos h1]
    cases inR b 0 65535 <;> simp
  · rw [if_neg h1, if_neg h1]
    by_cases h2 : a = 2
    · rw [if_pos h2, if_pos (show a = 2 ∨ a = 3 from Or.inl h2), h2]
      by_cases h4 : b = 0
      · simp [h4]
      · simp [h4]
    · by_cases h3 : a = 3
      · rw [if_neg h2, if_pos (Or.inr h3), h3]
        by_cases h4 : b = 0
        · simp [h4]
        · simp [h4]
      · have e : (a == 3) = false := by simpa using h3
        rw [if_neg h2, if_neg (show ¬ (a = 2 ∨ a = 3) by omega), e]
        simp only [Bool.false_eq_true, if_false]
        by_cases h4 : b = 0
        · by_cases h5 : s.toList = []
          · rw [if_pos h4, if_pos h5, h4, h5]
            simp [takes, inR]
            by_cases h6 : 4 ≤ a ∧ a ≤ 17
            · by_cases h7 : a ≤ 7
              · rw [if_neg (by omega), if_pos (by omega)]
                simp
                omega
              · rw [if_neg (by omega), if_neg (by omega), if_pos (by omega)]
                simp
                omega
            · rw [if_neg (by omega), if_neg (by omega), if_neg (by omega)]
              simp
              omega
          · simp [h4, h5]
        · simp [h4]

theorem impl_isNode_eq (a b : Int) (s : ByteArray) {k : Nat} (hk : 30 ≤ k) : impl_isNode.f k a b s = some (nodeOk (a, b, s)) := by
  obtain ⟨k, rfl⟩ : ∃ m, k = m + 1 := ⟨k - 1, by omega⟩
  unfold impl_isNode.f nodeOk
  simp only [impl_isWord_eq, impl_isNode.j0, impl_within_eq, impl_NameOk_eq s (by omega : 20 ≤ k), Option.bind_some]
  by_cases h1 : a = 1
  · rw [if_pos h1, if_pos h1]
    cases inR b 0 65535 <;> simp
  · rw [if_neg h1, if_neg h1]
    by_cases h2 : a = 2
    · rw [if_pos h2, if_pos (show a = 2 ∨ a = 3 from Or.inl h2)]
      by_cases h4 : b = 0
      · simp [h4]
      · simp [h4]
    · by_cases h3 : a = 3
      · rw [if_neg h2, if_pos (Or.inr h3), h3]
        by_cases h4 : b = 0
        · simp [h4]
        · simp [h4]
      · have e : (a == 3) = false := by simpa using h3
        rw [if_neg h2, if_neg (show ¬ (a = 2 ∨ a = 3) by omega), e]
        simp only [Bool.false_eq_true, if_false]
        cases inR a 4 17
        · simp
        · by_cases h4 : b = 0
          · simp [h4]
          · simp [h4]

def nd_ (x : S113) : Nd := (x.f0, x.f1, x.f2)
theorem spec_ExprOk_l0 (l : List S113) (hl : l.length ≤ 1048576) : ∀ (n k i : Nat) (d : Int), i + n = l.length → n + 40 ≤ k → 0 ≤ d → d ≤ 2 * i → spec_ExprOk.l0 k l d (i : Int) = some (decide ((l.length : Int) ≤ 30) && exprGo ((l.drop i).map nd_) d) := by
  intro n
  induction n with
  | zero =>
    intro k i d hi hk h0 h1
    obtain ⟨k, rfl⟩ : ∃ m, k = m + 1 := ⟨k - 1, by omega⟩
    simp only [spec_ExprOk.l0]
    rw [if_neg (by omega), List.drop_eq_nil_of_le (by omega)]
    by_cases h : (l.length : Int) ≤ 30
    · rw [if_pos h, decide_eq_true h]
      rfl
    · rw [if_neg h, decide_eq_false h]
      rfl
  | succ n ih =>
    intro k i d hi hk h0 h1
    obtain ⟨k, rfl⟩ : ∃ m, k = m + 1 := ⟨k - 1, by omega⟩
    simp only [spec_ExprOk.l0]
    rw [if_pos (by omega), if_pos (by omega), drop_at z113 l i (by omega)]
    have hrd : rd_T113 l (i : Int) = l.getD i z113 := by unfold rd_T113; rw [Int.toNat_natCast]
    rw [hrd]
    generalize l.getD i z113 = x
    simp only [List.map_cons, exprGo, nd_]
    rw [spec_l2Node_eq _ _ _ (by omega : 30 ≤ k), spec_l2Takes_eq]
    simp only [Option.bind_some]
    have ht := takes_in x.f0
    by_cases c1 : nodeOk (x.f0, x.f1, x.f2) = true
    · rw [if_pos c1, c1]
      by_cases c2 : takes x.f0 > d
      · rw [if_pos c2, decide_eq_false (show ¬ takes x.f0 ≤ d by omega)]
        simp
      · rw [if_neg c2, decide_eq_true (show takes x.f0 ≤ d by omega), w64 (n := d - takes x.f0) (by omega) (by omega), w64 (n := d - takes x.f0 + 1) (by omega) (by omega), up1 (by omega : i < l.length) (by omega)]
        have := ih k (i + 1) (d - takes x.f0 + 1) (by omega) (by omega) (by omega) (by omega)
        rw [this]
        simp
    · rw [if_neg c1]
      simp [c1]
theorem spec_ExprOk_eq (l : List S113) (hl : l.length ≤ 1048576) {k : Nat} (hk : l.length + 40 ≤ k) : spec_ExprOk.f k l = some (exprOk (l.map nd_)) := by
  unfold spec_ExprOk.f exprOk
  have := spec_ExprOk_l0 l hl l.length k 0 0 (by omega) (by omega) (by omega) (by omega)
  rw [show ((0 : Nat) : Int) = 0 from rfl] at this
  rw [this]
  simp

--NEEDS spec_ExprOk
theorem impl_ExprOk_l0 (l : List S113) (hl : l.length ≤ 30) : ∀ (n k i : Nat) (d : Int), i + n = l.length → n + 40 ≤ k → 0 ≤ d → d ≤ i → impl_ExprOk.l0 k d l (l.length : Int) (i : Int) = some (exprGo ((l.drop i).map nd_) d) := by
  intro n
  induction n with
  | zero =>
    intro k i d hi hk h0 h1
    obtain ⟨k, rfl⟩ : ∃ m, k = m + 1 := ⟨k - 1, by omega⟩
    simp only [impl_ExprOk.l0]
    rw [if_neg (by omega), List.drop_eq_nil_of_le (by omega)]
    rfl
  | succ n ih =>
    intro k i d hi hk h0 h1
    obtain ⟨k, rfl⟩ : ∃ m, k = m + 1 := ⟨k - 1, by omega⟩
    simp only [impl_ExprOk.l0]
    rw [if_pos (by omega), if_pos (by omega), if_pos (by omega), drop_at z113 l i (by omega)]
    have hrd : rd_T113 l (i : Int) = l.getD i z113 := by unfold rd_T113; rw [Int.toNat_natCast]
    rw [hrd]
    generalize l.getD i z113 = x
    simp only [List.map_cons, exprGo, nd_]
    rw [impl_isNode_eq _ _ _ (by omega : 30 ≤ k), up1 (by omega : i < l.length) (by omega)]
    simp only [Option.bind_some]
    by_cases c1 : nodeOk (x.f0, x.f1, x.f2) = true
    · have hk1 := nodeOk_kind c1
      rw [if_pos c1, c1]
      simp only at hk1
      by_cases c2 : x.f0 ≤ 3
      · have ht : takes x.f0 = 0 := by unfold takes; rw [inR_pos (by omega) (by omega)]; rfl
        rw [if_pos c2, ht, w64 (n := d + 1) (by omega) (by omega), ih k (i + 1) (d + 1) (by omega) (by omega) (by omega) (by omega), decide_eq_true (show (0 : Int) ≤ d by omega), show d - 0 + 1 = d + 1 from by omega]
        simp
      · by_cases c3 : x.f0 ≤ 7
        · have ht : takes x.f0 = 1 := by unfold takes; rw [inR_neg (by omega), inR_pos (by omega) (by omega)]; rfl
          rw [if_neg c2, if_pos c3, ht]
          by_cases c4 : d < 1
          · rw [if_pos c4, decide_eq_false (show ¬ (1 : Int) ≤ d by omega)]
            simp
          · rw [if_neg c4, decide_eq_true (show (1 : Int) ≤ d by omega), ih k (i + 1) d (by omega) (by omega) (by omega) (by omega), show d - 1 + 1 = d from by omega]
            simp
        · have ht : takes x.f0 = 2 := by unfold takes; rw [inR_neg (by omega), inR_neg (by omega), inR_pos (by omega) (by omega)]; rfl
          rw [if_neg c2, if_neg c3, ht]
          by_cases c4 : d < 2
          · rw [if_pos c4, decide_eq_false (show ¬ (2 : Int) ≤ d by omega)]
            simp
          · rw [if_neg c4, decide_eq_true (show (2 : Int) ≤ d by omega), w64 (n := d - 1) (by omega) (by omega), ih k (i + 1) (d - 1) (by omega) (by omega) (by omega) (by omega), show d - 2 + 1 = d - 1 from by omega]
            simp
    · rw [if_neg c1]
      simp [c1]
theorem impl_ExprOk_eq (l : List S113) {k : Nat} (hk : 80 ≤ k) : impl_ExprOk.f k l = some (exprOk (l.map nd_)) := by
  unfold impl_ExprOk.f exprOk
  by_cases h : (l.length : Int) > 30
  · rw [if_pos h, decide_eq_false (show ¬ ((l.map nd_).length : Int) ≤ 30 by rw [List.length_map]; omega)]
    rfl
  · rw [if_neg h, decide_eq_true (show ((l.map nd_).length : Int) ≤ 30 by rw [List.length_map]; omega)]
    have := impl_ExprOk_l0 l (by omega) l.length k 0 0 (by omega) (by omega) (by omega) (by omega)
    rw [show ((0 : Nat) : Int) = 0 from rfl] at this
    rw [this]
    simp

theorem l2Sym_l0 (l : List S115) (hl : l.length ≤ 1048576) (n : ByteArray) : ∀ (m k i : Nat), i + m = l.length → m < k → spec_l2Sym.l0 k l n (i : Int) = some (impl_Sym.idx (l.drop i) n i) := by
  intro m
  induction m with
  | zero =>
    intro k i hi hk
    obtain ⟨k, rfl⟩ : ∃ q, k = q + 1 := ⟨k - 1, by omega⟩
    simp only [spec_l2Sym.l0]
    rw [if_neg (by omega), List.drop_eq_nil_of_le (by omega)]
    rfl
  | succ m ih =>
    intro k i hi hk
    obtain ⟨k, rfl⟩ : ∃ q, k = q + 1 := ⟨k - 1, by omega⟩
    have hlt : i < l.length := by omega
    have hd : l.drop i = rd_T115 l i :: l.drop (i + 1) := by
      rw [List.drop_eq_getElem_cons hlt, rd_T115, Int.toNat_natCast, List.getD_eq_getElem?_getD, List.getElem?_eq_getElem hlt]
      rfl
    simp only [spec_l2Sym.l0]
    rw [if_pos (by omega), if_pos (by omega), hd]
    simp only [impl_Sym.idx]
    by_cases c : (rd_T115 l i).f0.toList = n.toList
    · rw [if_pos c, if_pos (decide_eq_true c)]
    · rw [if_neg c, if_neg (by simpa using c), show wrap64 ((i : Int) + 1) = ((i + 1 : Nat) : Int) by rw [w64 (by omega) (by omega)]; omega, ih k (i + 1) (by omega) (by omega)]
      rfl

set_option maxHeartbeats 1000000 in
theorem operated_eq {kd a b : Int} (hk : 8 ≤ kd ∧ kd ≤ 17) (ha : R32 a) (hb : R32 b) : ∃ p : Int × Bool, spec_l2Two.f kd a b = some p ∧ impl_operated.f kd a b = some p ∧ R32 p.1 := by
  have ha' := ha
  have hb' := hb
  unfold R32 at ha' hb'
  unfold spec_l2Two.f impl_operated.f
  simp only [spec_l2Wrap.f, Option.bind_some, w64_32, w32_64, u64_and31, u32_and31]
  have h31 : 0 ≤ b % 32 := by omega
  have h32 : b % 32 < 32 := by omega
  simp only [if_pos h31, shl_same h31 h32, shr_same h31 h32, and_same ha'.1 ha'.2 hb'.1 hb'.2, or_same ha'.1 ha'.2 hb'.1 hb'.2, xor_same ha'.1 ha'.2 hb'.1 hb'.2, w32 (r32_tmod ha)]
  have R0 : R32 0 := by unfold R32; omega
  have hs : wrap64 (shl .i32 a (b % 32)) = shl .i32 a (b % 32) := by
    rw [← shl_same h31 h32]
    exact w64_32 _
  have hm : wrap64 (Int.tmod a b) = Int.tmod a b := by
    have := r32_tmod (b := b) ha
    rw [← w32 this]
    exact w64_32 _
  by_cases c8 : kd = 8
  · rw [if_pos c8]; exact ⟨_, rfl, rfl, r32_wrap _⟩
  rw [if_neg c8]
  by_cases c9 : kd = 9
  · rw [if_pos c9]; exact ⟨_, rfl, rfl, r32_wrap _⟩
  rw [if_neg c9]
  by_cases c10 : kd = 10
  · rw [if_pos c10]; exact ⟨_, rfl, rfl, r32_wrap _⟩
  rw [if_neg c10]
  by_cases c11 : kd = 11
  · rw [if_pos c11]
    by_cases z : b = 0
    · rw [if_pos z]; exact ⟨_, rfl, rfl, R0⟩
    · rw [if_neg z]; exact ⟨_, rfl, rfl, r32_wrap _⟩
  rw [if_neg c11]
  by_cases c12 : kd = 12
  · rw [if_pos c12]
    by_cases z : b = 0
    · rw [if_pos z]; exact ⟨_, rfl, rfl, R0⟩
    · rw [if_neg z]; exact ⟨(Int.tmod a b, true), rfl, rfl, r32_tmod ha⟩
  rw [if_neg c12]
  by_cases c13 : kd = 13
  · rw [if_pos c13]; exact ⟨(bits .and .i32 a b, true), by with_reducible rfl, by with_reducible rfl, bits_in .and a b⟩
  rw [if_neg c13]
  by_cases c14 : kd = 14
  · rw [if_pos c14]; exact ⟨(bits .xor .i32 a b, true), by with_reducible rfl, by with_reducible rfl, bits_in .xor a b⟩
  rw [if_neg c14]
  by_cases c15 : kd = 15
  · rw [if_pos c15]; exact ⟨(bits .or .i32 a b, true), by with_reducible rfl, by with_reducible rfl, bits_in .or a b⟩
  rw [if_neg c15]
  by_cases c16 : kd = 16
  · rw [if_pos c16]; exact ⟨(shl .i32 a (b % 32), true), by first | with_reducible rfl | rw [hs], by with_reducible rfl, by show R32 (shl .i32 a (b % 32)); rw [← shl_same h31 h32]; exact r32_wrap _⟩
  · rw [if_neg c16]; exact ⟨_, rfl, rfl, r32_shr ha⟩

theorem signed_eq {x : Int} (h : R32 x) :
    spec_l2Wrap.f (wrap64 (-x)) = impl_signed.f 4 x ∧ some (bits .xor .i64 (-1) x) = impl_signed.f 5 x ∧ some (bits .and .i64 (x / 256) 255) = impl_signed.f 6 x ∧ some (bits .and .i64 x 255) = impl_signed.f 7 x := by
  have h' := h
  unfold R32 at h'
  unfold impl_signed.f spec_l2Wrap.f
  refine ⟨?_, ?_, ?_, ?_⟩
  · rw [if_pos rfl, w32_64, w64_32]
  · rw [if_neg (by decide), if_pos rfl, xor_same (by decide) (by decide) h'.1 h'.2]
  · rw [if_neg (by decide), if_neg (by decide), if_pos rfl, and_same (by omega) (by omega) (by decide) (by decide)]
  · rw [if_neg (by decide), if_neg (by decide), if_neg (by decide), and_same h'.1 h'.2 (by decide) (by decide)]
theorem signed_in (k x : Int) : ∃ y, impl_signed.f k x = some y ∧ R32 y := by
  unfold impl_signed.f
  split
  · exact ⟨_, rfl, r32_wrap _⟩
  · split
    · exact ⟨_, rfl, bits_in .xor _ _⟩
    · split
      · exact ⟨_, rfl, bits_in .and _ _⟩
      · exact ⟨_, rfl, bits_in .and _ _⟩

theorem rd_in {st : List Int} (h : ∀ x ∈ st, R32 x) (i : Int) : R32 (rd st i) := by
  unfold rd
  by_cases hi : i.toNat < st.length
  · exact h _ (getD_mem 0 st _ hi)
  · rw [List.getD_eq_getElem?_getD, List.getElem?_eq_none (by omega)]
    unfold R32
    simp
theorem set_in {st : List Int} (h : ∀ x ∈ st, R32 x) (i : Nat) {v : Int} (hv : R32 v) : ∀ x ∈ st.set i v, R32 x := by
  intro x hx
  rcases List.mem_or_eq_of_mem_set hx with h1 | h1
  · exact h _ h1
  · rw [h1]; exact hv
theorem app_in {st : List Int} (h : ∀ x ∈ st, R32 x) {v : Int} (hv : R32 v) : ∀ x ∈ st ++ [v], R32 x := by
  intro x hx
  rcases List.mem_append.1 hx with h1 | h1
  · exact h _ h1
  · rw [List.mem_singleton.1 h1]; exact hv
theorem idx_in : ∀ (l : List S115) (n : ByteArray) (i : Int), 0 ≤ i → impl_Sym.idx l n i = -1 ∨ (i ≤ impl_Sym.idx l n i ∧ impl_Sym.idx l n i < i + l.length)
  | [], n, i, h => .inl rfl
  | x :: r, n, i, h => by
    simp only [impl_Sym.idx]
    split
    · right; simp only [List.length_cons]; omega
    · rcases idx_in r n (i + 1) (by omega) with h1 | h1
      · exact .inl h1
      · right; simp only [List.length_cons]; omega
set_option maxHeartbeats 4000000 in
theorem eval_both (l0 : List S113) (l1 : List S115) (h0 : l0.length ≤ 30) (h1 : l1.length ≤ 1048576) :
    ∀ (m k i : Nat) (st : List Int), i + m = l0.length → 3 * m + 1048580 ≤ k → (∀ x ∈ st, R32 x) → st.length ≤ i → exprGo ((l0.drop i).map nd) st.length = true →
    ∃ r, spec_l2Eval.l0 k l0 l1 st (i : Int) = some r ∧ impl_evaluated.l0 k l1 st l0 (l0.length : Int) (i : Int) = some r := by
  intro m
  induction m with
  | zero =>
    intro k i st hi hk hs hlen hg
    obtain ⟨k, rfl⟩ : ∃ q, k = q + 1 := ⟨k - 1, by omega⟩
    rw [List.drop_eq_nil_of_le (by omega)] at hg
    have hd : (st.length : Int) = 1 := by simpa [exprGo] using hg
    simp only [spec_l2Eval.l0, impl_evaluated.l0]
    have hz : (0 : Int) < (st.length : Int) := by omega
    have hn : ¬ ((i : Int) < (l0.length : Int)) := by omega
    simp only [if_neg hn, if_pos hz]
    have hr := rd_in hs 0
    unfold R32 at hr
    exact ⟨_, rfl, by rw [w64 (by omega) (by omega)]⟩
  | succ m ih =>
    intro k i st hi hk hs hlen hg
    have hlt : i < l0.length := by omega
    have hd : l0.drop i = rd_T113 l0 i :: l0.drop (i + 1) := drop_at z113 l0 i hlt
    rw [hd, List.map_cons] at hg
    simp only [exprGo, Bool.and_eq_true, decide_eq_true_eq] at hg
    obtain ⟨hok, htk, hrest⟩ := hg
    have hkind := nodeOk_kind hok
    have hL : (i : Int) < (l0.length : Int) := by omega
    have hup : wrap64 ((i : Int) + 1) = ((i + 1 : Nat) : Int) := up1 hlt (by omega)
    have ht1 : wrap64 ((st.length : Int) - 1) = (st.length : Int) - 1 := w64 (by omega) (by omega)
    have ht2 : wrap64 ((st.length : Int) - 2) = (st.length : Int) - 2 := w64 (by omega) (by omega)
    have key : ∀ (kk : Nat) (st' : List Int), 3 * m + 1048580 ≤ kk → (∀ x ∈ st', R32 x) → (st'.length : Int) = (st.length : Int) - takes (nd (rd_T113 l0 i)).1 + 1 → st'.length ≤ i + 1 →
        ∃ r, spec_l2Eval.l0 kk l0 l1 st' ((i + 1 : Nat) : Int) = some r ∧ impl_evaluated.l0 kk l1 st' l0 (l0.length : Int) ((i + 1 : Nat) : Int) = some r := by
      intro kk st' hkk hs' hl' hi'
      exact ih kk (i + 1) st' (by omega) hkk hs' hi' (by rw [hl']; exact hrest)
    generalize hx : rd_T113 l0 (i : Int) = x at *
    obtain ⟨K, rfl⟩ : ∃ q, k = q + 3 := ⟨k - 3, by omega⟩
    have h0i : (0 : Int) ≤ (i : Int) := by omega
    have hsz : st.length < 17592186044416 := by omega
    have hsz2 : st.length < 35184372088832 := by omega
    have hfin : ∀ (r : Option (Int × Int)) (v : Int × Int), r = some v → ∃ q, r = some q ∧ (some v : Option (Int × Int)) = some q := fun r v h => ⟨v, h, rfl⟩
    rw [spec_l2Eval.l0, impl_evaluated.l0]
    simp only [if_pos hL, if_pos h0i, if_pos hsz, if_pos hsz2, hup, hx, ht1, ht2]
    change takes x.f0 ≤ (st.length : Int) at htk
    replace key : ∀ (kk : Nat) (st' : List Int), 3 * m + 1048580 ≤ kk → (∀ x ∈ st', R32 x) → (st'.length : Int) = (st.length : Int) - takes x.f0 + 1 → st'.length ≤ i + 1 →
        ∃ r, spec_l2Eval.l0 kk l0 l1 st' ((i + 1 : Nat) : Int) = some r ∧ impl_evaluated.l0 kk l1 st' l0 (l0.length : Int) ((i + 1 : Nat) : Int) = some r := key
    change 1 ≤ x.f0 ∧ x.f0 ≤ 17 at hkind
    have htin := takes_in x.f0
    by_cases c1 : x.f0 = 1
    · simp only [if_pos c1]
      have hr : R32 x.f1 := by
        unfold nodeOk nd at hok
        simp only [if_pos c1, Bool.and_eq_true] at hok
        have := hok.1
        unfold inR at this
        simp only [Bool.and_eq_true, decide_eq_true_eq] at this
        unfold R32
        omega
      have ht : takes x.f0 = 0 := by rw [c1]; rfl
      rw [w32 hr]
      exact key (K + 2) (st ++ [x.f1]) (by omega) (app_in hs hr) (by rw [ht]; simp) (by simp; omega)
    simp only [if_neg c1]
    by_cases c3 : x.f0 ≤ 3
    · have ht : takes x.f0 = 0 := by
        have h23 : x.f0 = 2 ∨ x.f0 = 3 := by omega
        rcases h23 with h | h <;> rw [h] <;> rfl
      simp only [if_pos c3]
      have hj : (if x.f0 = 2 then spec_l2Eval.j1 (K + 2) l0 l1 st (i : Int) (st.length : Int) x.f0 (x.f0 == 2) else spec_l2Eval.j1 (K + 2) l0 l1 st (i : Int) (st.length : Int) x.f0 (x.f0 == 3)) = spec_l2Eval.j1 (K + 2) l0 l1 st (i : Int) (st.length : Int) x.f0 true := by
        by_cases c2 : x.f0 = 2
        · rw [if_pos c2, c2]; rfl
        · have h3 : x.f0 = 3 := by omega
          rw [if_neg c2, h3]; rfl
      rw [hj, spec_l2Eval.j1]
      simp only [if_true, if_pos hL, if_pos h0i, hx]
      have hsym : spec_l2Sym.f (K + 1) l1 x.f2 = some (impl_Sym.idx l1 x.f2 0) := by
        unfold spec_l2Sym.f
        exact l2Sym_l0 l1 h1 x.f2 l1.length (K + 1) 0 (by omega) (by omega)
      have himp : impl_Sym.f l1 x.f0 x.f1 x.f2 = some (impl_Sym.idx l1 x.f2 0) := rfl
      rw [hsym, himp]
      simp only [Option.bind_some]
      rcases idx_in l1 x.f2 0 (by omega) with h | h
      · rw [h]
        exact ⟨(0, 2), rfl, rfl⟩
      · generalize impl_Sym.idx l1 x.f2 0 = t at h
        have hn : ¬ t < 0 := by omega
        have hp : 0 ≤ t := h.1
        have hq : t < (l1.length : Int) := by omega
        simp only [if_neg hn, if_pos hp, if_pos hq]
        have hj2 : ∀ v, spec_l2Eval.j2 (K + 1) l0 l1 st (i : Int) v = spec_l2Eval.l0 K l0 l1 (st ++ [wrap32 v]) ((i + 1 : Nat) : Int) := by
          intro v
          rw [spec_l2Eval.j2]
          simp only [spec_l2Wrap.f, Option.bind_some, if_pos hsz, hup, w64_32]
        have hmo : ∀ v, impl_evaluated.l0 (K + 2) l1 (st ++ [wrap32 v]) l0 (l0.length : Int) ((i + 1 : Nat) : Int) = impl_evaluated.l0 (K + 2) l1 (st ++ [wrap32 v]) l0 (l0.length : Int) ((i + 1 : Nat) : Int) := fun _ => rfl
        have fin : ∀ v, ∃ r, spec_l2Eval.j2 (K + 1) l0 l1 st (i : Int) v = some r ∧ impl_evaluated.l0 (K + 2) l1 (st ++ [wrap32 v]) l0 (l0.length : Int) ((i + 1 : Nat) : Int) = some r := by
          intro v
          rw [hj2]
          obtain ⟨r, ha, hb⟩ := key K (st ++ [wrap32 v]) (by omega) (app_in hs (r32_wrap v)) (by rw [ht]; simp) (by simp; omega)
          have m1 := (impl_evaluated.mono_l K) l1 (st ++ [wrap32 v]) l0 (l0.length : Int) ((i + 1 : Nat) : Int) r hb
          have m2 := (impl_evaluated.mono_l (K + 1)) l1 (st ++ [wrap32 v]) l0 (l0.length : Int) ((i + 1 : Nat) : Int) r m1
          exact ⟨r, ha, m2⟩
        by_cases c : x.f0 = 3
        · simp only [if_pos c]; exact fin _
        · simp only [if_neg c]; exact fin _
    simp only [if_neg c3]
    have c2 : ¬ x.f0 = 2 := by omega
    have hb3 : (x.f0 == 3) = false := by
      rw [beq_eq_false_iff_ne]
      omega
    rw [if_neg c2, hb3, spec_l2Eval.j1]
    simp only [Bool.false_eq_true, if_false, if_pos hL, if_pos h0i, hx, ht1, ht2, hup]
    have up : ∀ (st' : List Int) (r : Int × Int), impl_evaluated.l0 (K + 1) l1 st' l0 (l0.length : Int) ((i + 1 : Nat) : Int) = some r → impl_evaluated.l0 (K + 2) l1 st' l0 (l0.length : Int) ((i + 1 : Nat) : Int) = some r :=
      fun st' r hb => (impl_evaluated.mono_l (K + 1)) l1 st' l0 (l0.length : Int) ((i + 1 : Nat) : Int) r hb
    by_cases c7 : x.f0 ≤ 7
    · have ht : takes x.f0 = 1 := by
        have h4 : x.f0 = 4 ∨ x.f0 = 5 ∨ x.f0 = 6 ∨ x.f0 = 7 := by omega
        rcases h4 with h | h | h | h <;> rw [h] <;> rfl
      have q0 : (0 : Int) ≤ (st.length : Int) - 1 := by omega
      have q1 : (st.length : Int) - 1 < (st.length : Int) := by omega
      simp only [if_pos c7, if_pos q0, if_pos q1]
      have hrd := rd_in hs ((st.length : Int) - 1)
      generalize rd st ((st.length : Int) - 1) = v at hrd
      obtain ⟨e4, e5, e6, e7⟩ := signed_eq hrd
      obtain ⟨y, hy, hyr⟩ := signed_in x.f0 v
      have fin : ∃ r, spec_l2Eval.l0 (K + 1) l0 l1 (st.set ((st.length : Int) - 1).toNat y) ((i + 1 : Nat) : Int) = some r ∧ impl_evaluated.l0 (K + 2) l1 (st.set ((st.length : Int) - 1).toNat y) l0 (l0.length : Int) ((i + 1 : Nat) : Int) = some r := by
        obtain ⟨r, ha, hb⟩ := key (K + 1) (st.set ((st.length : Int) - 1).toNat y) (by omega) (set_in hs _ hyr) (by rw [ht]; simp) (by simp; omega)
        exact ⟨r, ha, up _ _ hb⟩
      rw [hy]
      simp only [Option.bind_some]
      by_cases d4 : x.f0 = 4
      · simp only [if_pos d4]
        rw [d4] at hy
        rw [e4, hy]
        exact fin
      by_cases d5 : x.f0 = 5
      · simp only [if_neg d4, if_pos d5]
        rw [d5] at hy
        have e := e5.trans hy
        rw [Option.some.inj e]
        exact fin
      by_cases d6 : x.f0 = 6
      · simp only [if_neg d4, if_neg d5, if_pos d6]
        rw [d6] at hy
        have e := e6.trans hy
        rw [Option.some.inj e]
        exact fin
      · have d7 : x.f0 = 7 := by omega
        simp only [if_neg d4, if_neg d5, if_neg d6, if_pos d7]
        rw [d7] at hy
        have e := e7.trans hy
        rw [Option.some.inj e]
        exact fin
    · have ht : takes x.f0 = 2 := by
        have h8 : x.f0 = 8 ∨ x.f0 = 9 ∨ x.f0 = 10 ∨ x.f0 = 11 ∨ x.f0 = 12 ∨ x.f0 = 13 ∨ x.f0 = 14 ∨ x.f0 = 15 ∨ x.f0 = 16 ∨ x.f0 = 17 := by omega
        rcases h8 with h | h | h | h | h | h | h | h | h | h <;> rw [h] <;> rfl
      have d4 : ¬ x.f0 = 4 := by omega
      have d5 : ¬ x.f0 = 5 := by omega
      have d6 : ¬ x.f0 = 6 := by omega
      have d7 : ¬ x.f0 = 7 := by omega
      have q0 : (0 : Int) ≤ (st.length : Int) - 1 := by omega
      have q1 : (st.length : Int) - 1 < (st.length : Int) := by omega
      have q2 : (0 : Int) ≤ (st.length : Int) - 2 := by omega
      have q3 : (st.length : Int) - 2 < (st.length : Int) := by omega
      have q4 : (st.length : Int) - 2 ≤ (st.length : Int) := by omega
      simp only [if_neg c7, if_neg d4, if_neg d5, if_neg d6, if_neg d7, if_pos q0, if_pos q1, if_pos q2, if_pos q3]
      obtain ⟨p, hp1, hp2, hp3⟩ := operated_eq (kd := x.f0) (show 8 ≤ x.f0 ∧ x.f0 ≤ 17 by omega) (rd_in hs ((st.length : Int) - 2)) (rd_in hs ((st.length : Int) - 1))
      rw [hp1, hp2]
      simp only [Option.bind_some]
      by_cases cb : p.2 = true
      · simp only [if_pos cb, if_pos q4]
        have hl : (st.take ((st.length : Int) - 2).toNat).length = st.length - 2 := by
          rw [List.length_take]; omega
        have ha : (st.take ((st.length : Int) - 2).toNat).length < 17592186044416 := by omega
        have hb : (st.take ((st.length : Int) - 2).toNat).length < 35184372088832 := by omega
        simp only [if_pos ha, if_pos hb]
        obtain ⟨r, h5, h6⟩ := key (K + 1) (st.take ((st.length : Int) - 2).toNat ++ [p.1]) (by omega) (app_in (fun z hz => hs z (List.mem_of_mem_take hz)) hp3) (by rw [ht, List.length_append, hl]; simp; omega) (by rw [List.length_append, hl]; simp; omega)
        exact ⟨r, h5, up _ _ h6⟩
      · simp only [if_neg cb]
        exact ⟨(0, 3), rfl, rfl⟩

open Go.Proofs.Ytffmpmgnkhlmdaa.Kin in
theorem FnExactEvalExpr (l0 : List S108) (l1 : List S111) (h : l0.length ≤ maxLen ∧ ∀ x ∈ l0, okT108 x) (h' : l1.length ≤ maxLen ∧ ∀ x ∈ l1, okT111 x) : ∃ k, laws_FnExactEvalExpr.f k l0 l1 = some true := by
  refine ⟨4000000 + 1, ?_⟩
  unfold laws_FnExactEvalExpr.f
  obtain ⟨t, ht, hle, hlen⟩ := laws_szENodeS_some l0 h.1 (fun x hx => (h.2 x hx).2.2) (k := 4000000 + 1) (left := 1048576) (by decide) (by decide) (by decide)
  rw [ht]
  simp only [Option.bind_some]
  by_cases hc : t < 0
  · rw [if_pos hc]
  rw [if_neg hc]
  have hl := hlen (by omega)
  obtain ⟨t', ht', hle', hlen'⟩ := laws_szSymS_some l1 h'.1 (fun x hx => (h'.2 x hx).1) (k := 4000000 + 1) (left := t) (by omega) (by omega) (by decide)
  rw [ht']
  simp only [Option.bind_some]
  by_cases hc' : t' < 0
  · rw [if_pos hc']
  rw [if_neg hc']
  have hl' := hlen' (by omega)
  have hm : (l0.map nodeI).length ≤ 1048576 := by simpa using hl
  have hm' : (l1.map symI).length ≤ 1048576 := by simpa using hl'
  rw [laws_toENodeS_eq l0 hl (by decide), laws_toSymS_eq l1 hl' (by decide)]
  simp only [Option.bind_some]
  have he : ∃ r, spec_EvalExpr.f (4000000 + 1) (l0.map nodeI) (l1.map symI) = some r ∧ impl_EvalExpr.f (4000000 + 1) (l0.map nodeI) (l1.map symI) = some r := by
    unfold spec_EvalExpr.f impl_EvalExpr.f
    rw [spec_ExprOk_eq _ hm (by simp; omega), impl_ExprOk_eq _ (by decide)]
    simp only [Option.bind_some]
    have hnd : (l0.map nodeI).map nd_ = (l0.map nodeI).map nd := rfl
    by_cases hok : exprOk ((l0.map nodeI).map nd) = true
    · have hok' : exprOk ((l0.map nodeI).map nd_) = true := hok
      by_cases hs : ((l1.map symI).length : Int) > 200
      · simp only [hok', hok, if_true, if_pos hs]
        exact ⟨_, rfl, rfl⟩
      · simp only [hok', hok, if_true, if_neg hs]
        unfold exprOk at hok
        simp only [Bool.and_eq_true, decide_eq_true_eq] at hok
        obtain ⟨r, h1, h2⟩ := eval_both (l0.map nodeI) (l1.map symI) (by have := hok.1; simp only [List.length_map] at this ⊢; omega) hm' (l0.map nodeI).length (4000000 + 1) 0 [] (by omega) (by have := hok.1; simp only [List.length_map] at this ⊢; omega) (by intro x hx; cases hx) (Nat.le_refl 0) hok.2
        unfold spec_l2Eval.f impl_evaluated.f
        rw [show ((0 : Nat) : Int) = 0 from rfl] at h1 h2
        rw [h1, h2]
        exact ⟨_, rfl, rfl⟩
    · have hok' : ¬ exprOk ((l0.map nodeI).map nd_) = true := hok
      simp only [if_neg hok', if_neg hok]
      exact ⟨_, rfl, rfl⟩
  obtain ⟨r, h1, h2⟩ := he
  rw [h1]
  simp only [Option.bind_some]
  rw [h2]
  simp only [Option.bind_some, if_true]
  have hb : (r.2 != r.2) = false := by simp
  rw [hb, laws_FnExactEvalExpr.j0]
  simp only [Bool.false_eq_true, if_false]
  rw [laws_toENodeS_eq l0 hl (by decide), laws_toSymS_eq l1 hl' (by decide)]
  simp only [Option.bind_some]
  rw [laws_eqENodeS_same _ hm (by decide)]
  simp only [Option.bind_some, if_true]
  rw [laws_eqSymS_same _ hm' (by decide)]
  simp

end Go.Proofs.Ytffmpmgnkhlmdaa.Pure
