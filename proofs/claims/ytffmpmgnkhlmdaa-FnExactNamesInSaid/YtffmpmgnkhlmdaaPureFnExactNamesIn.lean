/-
The law FnExactNamesIn, told as a plain function of the nodes, answers true for every input.
-/
import Derived.Test.YtffmpmgnkhlmdaaPFnExactNamesInx6
import Derived.Test.YtffmpmgnkhlmdaaAidA
import Derived.Test.YtffmpmgnkhlmdaaAidB
import Derived.Test.YtffmpmgnkhlmdaaAidC
import Derived.Test.YtffmpmgnkhlmdaaAidT
import Derived.Test.YtffmpmgnkhlmdaaKinFnExactNamesIn
namespace Go.Proofs.Ytffmpmgnkhlmdaa.Pure
open Go.RowKit Go.Proofs.Ytffmpmgnkhlmdaa.Aid Go.Proofs.Ytffmpmgnkhlmdaa.PFnExactNamesIn Go.Proofs.YtffmpmgnkhlmdaaW.PrintWords Go.Proofs.YtffmpmgnkhlmdaaW.PrintLast Go.Proofs.YtffmpmgnkhlmdaaW.PrintMore
set_option linter.unusedVariables false
set_option linter.unusedSimpArgs false

theorem spec_l1In_eq (a b c : Int) : spec_l1In.f a b c = some (inR a b c) := by
  unfold spec_l1In.f inR
  by_cases h : a ≥ b
  · rw [if_pos h, decide_eq_true (show b ≤ a from h)]
    rfl
  · rw [if_neg h, decide_eq_false (show ¬ b ≤ a from h)]
    rfl

theorem impl_within_eq (a b c : Int) : impl_within.f a b c = some (inR a b c) := by
  unfold impl_within.f inR
  by_cases h : a ≥ b
  · rw [if_pos h, decide_eq_true (show b ≤ a from h)]
    rfl
  · rw [if_neg h, decide_eq_false (show ¬ b ≤ a from h)]
    rfl

theorem impl_isWord_eq (a : Int) : impl_isWord.f a = some (inR a 0 65535) := by
  unfold impl_isWord.f
  rw [impl_within_eq]
  rfl

theorem spec_l1Letter_eq (c : Int) : spec_l1Letter.f c = some (isLet c) := by
  unfold spec_l1Letter.f isLet inR
  by_cases h1 : c ≥ 97
  · by_cases h2 : c ≤ 122
    · simp [h1, h2]
    · by_cases h3 : c = 95
      · simp [h3]
      · simp [h1, h2, h3]
  · by_cases h3 : c = 95
    · simp [h3]
    · simp [h1, h3]

theorem impl_isDigit_eq (c : Int) : impl_isDigit.f c = some (inR c 48 57) := by
  unfold impl_isDigit.f inR
  by_cases h : c ≥ 48
  · rw [if_pos h, decide_eq_true (show 48 ≤ c from h)]
    rfl
  · rw [if_neg h, decide_eq_false (show ¬ 48 ≤ c from h)]
    rfl

theorem impl_isSmall_eq (c : Int) : impl_isSmall.f c = some (inR c 97 122) := by
  unfold impl_isSmall.f inR
  by_cases h : c ≥ 97
  · rw [if_pos h, decide_eq_true (show 97 ≤ c from h)]
    rfl
  · rw [if_neg h, decide_eq_false (show ¬ 97 ≤ c from h)]
    rfl

theorem spec_NameOk_l0 (s : ByteArray) (hs : s.size ≤ 140737488351232) : ∀ (n k i : Nat), i + n = s.size → n < k → spec_NameOk.l0 k s (i : Int) = some (allB isNam s n i) := by
  intro n
  induction n with
  | zero =>
    intro k i hi hk
    obtain ⟨k, rfl⟩ : ∃ m, k = m + 1 := ⟨k - 1, by omega⟩
    simp only [spec_NameOk.l0]
    rw [if_neg (by omega)]
    rfl
  | succ n ih =>
    intro k i hi hk
    obtain ⟨k, rfl⟩ : ∃ m, k = m + 1 := ⟨k - 1, by omega⟩
    have hn := ih k (i + 1) (by omega) (by omega)
    have hw : wrap64 ((i : Int) + 1) = ((i + 1 : Nat) : Int) := by rw [w64 (by omega) (by omega)]; omega
    simp only [spec_NameOk.l0]
    rw [if_pos (by omega), if_pos (by omega), spec_l1Letter_eq, hw, hn]
    simp only [Option.bind_some, allB, isNam, inR]
    by_cases h1 : isLet (bt s i) = true
    · simp [h1]
    · by_cases h2 : bt s i ≥ 48
      · by_cases h3 : bt s i ≤ 57
        · simp [h1, h2, h3]
        · simp [h1, h2, h3]
      · simp [h1, h2]
theorem spec_NameOk_eq (s : ByteArray) {k : Nat} (hk : 20 ≤ k) : spec_NameOk.f k s = some (nameOk s) := by
  unfold spec_NameOk.f nameOk
  obtain ⟨k, rfl⟩ : ∃ m, k = m + 1 := ⟨k - 1, by omega⟩
  simp only [spec_NameOk.j0]
  by_cases h1 : (s.size : Int) < 1
  · rw [if_pos h1, inR_neg (by omega)]
    rfl
  · by_cases h2 : (s.size : Int) > 16
    · rw [if_neg h1, if_pos h2, inR_neg (by omega)]
      rfl
    · have hl := spec_NameOk_l0 s (by omega) s.size k 0 (by omega) (by omega)
      rw [if_neg h1, if_neg h2, inR_pos (by omega) (by omega), if_pos (by omega), spec_l1Letter_eq]
      simp only [Option.bind_some, Bool.true_and]
      rw [show ((0 : Nat) : Int) = 0 from rfl] at hl
      rw [hl]
      obtain ⟨n, hn⟩ : ∃ n, s.size = n + 1 := ⟨s.size - 1, by omega⟩
      by_cases h3 : isLet (bt s 0) = true
      · rw [h3, isLet_dig h3]
        simp
      · have h3' : isLet (bt s 0) = false := by simpa using h3
        rw [h3', hn]
        simp only [Bool.not_false, if_true, allB]
        rw [show bt s ((0 : Nat) : Int) = bt s 0 from rfl]
        unfold isNam
        rw [h3']
        cases inR (bt s 0) 48 57 <;> simp

theorem impl_NameOk_l0 (s : ByteArray) (hs : s.size ≤ 140737488351232) : ∀ (n k i : Nat), i + n = s.size → n < k → impl_NameOk.l0 k s (s.size : Int) (i : Int) = some (allB isNam s n i) := by
  intro n
  induction n with
  | zero =>
    intro k i hi hk
    obtain ⟨k, rfl⟩ : ∃ m, k = m + 1 := ⟨k - 1, by omega⟩
    simp only [impl_NameOk.l0]
    rw [if_neg (by omega)]
    rfl
  | succ n ih =>
    intro k i hi hk
    obtain ⟨k, rfl⟩ : ∃ m, k = m + 1 := ⟨k - 1, by omega⟩
    have hn := ih k (i + 1) (by omega) (by omega)
    have hw : wrap64 ((i : Int) + 1) = ((i + 1 : Nat) : Int) := by rw [w64 (by omega) (by omega)]; omega
    simp only [impl_NameOk.l0]
    rw [if_pos (by omega), if_pos (by omega), if_pos (by omega), impl_isSmall_eq, impl_isDigit_eq, hw, hn]
    simp only [Option.bind_some, allB, isNam, isLet]
    by_cases h1 : inR (bt s i) 97 122 = true
    · simp [h1]
    · by_cases h2 : inR (bt s i) 48 57 = true
      · simp [h1, h2]
      · by_cases h3 : bt s i = 95
        · simp [h1, h2, h3]
        · by_cases h4 : bt s i = 46
          · simp [h1, h2, h3, h4]
          · simp [h1, h2, h3, h4]
theorem impl_NameOk_eq (s : ByteArray) {k : Nat} (hk : 20 ≤ k) : impl_NameOk.f k s = some (nameOk s) := by
  unfold impl_NameOk.f nameOk
  obtain ⟨k, rfl⟩ : ∃ m, k = m + 1 := ⟨k - 1, by omega⟩
  simp only [impl_NameOk.j0, impl_within_eq, Option.bind_some]
  by_cases h1 : 1 ≤ (s.size : Int) ∧ (s.size : Int) ≤ 16
  · have hl := impl_NameOk_l0 s (by omega) s.size k 0 (by omega) (by omega)
    rw [inR_pos h1.1 h1.2, if_pos rfl, if_pos (by omega), impl_isDigit_eq]
    simp only [Option.bind_some, Bool.true_and]
    rw [show ((0 : Nat) : Int) = 0 from rfl] at hl
    rw [hl]
    cases inR (bt s 0) 48 57 <;> simp
  · rw [inR_neg h1]
    rfl

theorem laws_szENodeS_l0 (l : List S108) (hl : l.length ≤ 1048576) (hn : ∀ x ∈ l, x.f2.size ≤ maxLen) : ∀ (n k i : Nat) (left : Int), i + n = l.length → n < k → 0 ≤ left → left ≤ 1048576 → ∃ t, laws_szENodeS.l0 k l left (i : Int) = some t ∧ t ≤ left := by
  intro n
  induction n with
  | zero =>
    intro k i left hi hk h0 h1
    obtain ⟨k, rfl⟩ : ∃ m, k = m + 1 := ⟨k - 1, by omega⟩
    refine ⟨left, ?_, Int.le_refl _⟩
    simp only [laws_szENodeS.l0]
    rw [if_neg (by omega)]
  | succ n ih =>
    intro k i left hi hk h0 h1
    obtain ⟨k, rfl⟩ : ∃ m, k = m + 1 := ⟨k - 1, by omega⟩
    simp only [laws_szENodeS.l0]
    rw [if_pos (by omega), if_pos (by omega), up1 (by omega : i < l.length) (by omega)]
    have hx : (rd_T108 l (i : Int)).f2.size ≤ maxLen := hn _ (by unfold rd_T108; exact getD_mem _ _ _ (by simp; omega))
    unfold maxLen at hx
    unfold laws_szENode.f
    generalize (rd_T108 l (i : Int)).f2.size = z at hx ⊢
    rw [w64 (by omega) (by omega)]
    by_cases hc : left - (z : Int) < 0
    · rw [if_pos hc]
      exact ⟨-1, by simp, by omega⟩
    · rw [if_neg hc]
      simp only [Option.bind_some]
      rw [if_neg hc]
      obtain ⟨t, ht, hle⟩ := ih k (i + 1) (left - z) (by omega) (by omega) (by omega) (by omega)
      exact ⟨t, ht, by omega⟩
theorem laws_szENodeS_some (l : List S108) (hl : l.length ≤ maxLen) (hn : ∀ x ∈ l, x.f2.size ≤ maxLen) {k : Nat} {left : Int} (h0 : 0 ≤ left) (h1 : left ≤ 1048576) (hk : 1048577 ≤ k) :
    ∃ t, laws_szENodeS.f k l left = some t ∧ t ≤ left ∧ (0 ≤ t → l.length ≤ 1048576) := by
  unfold maxLen at hl
  unfold laws_szENodeS.f
  rw [w64 (by omega) (by omega)]
  by_cases hc : left - (l.length : Int) < 0
  · rw [if_pos hc]
    exact ⟨-1, rfl, by omega, by omega⟩
  · rw [if_neg hc]
    obtain ⟨t, ht, hle⟩ := laws_szENodeS_l0 l (by omega) hn l.length k 0 (left - l.length) (by omega) (by omega) (by omega) (by omega)
    exact ⟨t, ht, by omega, fun _ => by omega⟩

def nodeI (x : S108) : S113 := ⟨x.f0, x.f1, x.f2⟩
def nd (x : S113) : Nd := (x.f0, x.f1, x.f2)
theorem laws_toENodeS_l0 (l : List S108) (hl : l.length ≤ 1048576) : ∀ (n k i : Nat) (y : List S113), i + n = l.length → n < k → y.length = l.length → y.take i = (l.map nodeI).take i → laws_toENodeS.l0 k l y (i : Int) = some (l.map nodeI) := by
  intro n
  induction n with
  | zero =>
    intro k i y hi hk hy ht
    obtain ⟨k, rfl⟩ : ∃ m, k = m + 1 := ⟨k - 1, by omega⟩
    simp only [laws_toENodeS.l0]
    rw [if_neg (by omega)]
    obtain rfl : i = l.length := by omega
    rw [fill_end nodeI l y hy ht]
  | succ n ih =>
    intro k i y hi hk hy ht
    obtain ⟨k, rfl⟩ : ∃ m, k = m + 1 := ⟨k - 1, by omega⟩
    simp only [laws_toENodeS.l0, laws_toENode.f, Option.bind_some]
    rw [if_pos (by omega), if_pos (by omega), if_pos (by omega), up1 (by omega : i < l.length) (by omega)]
    obtain ⟨h1, h2⟩ := fill_step z108 nodeI l y i (by omega) hy ht
    exact ih k (i + 1) _ (by omega) (by omega) h1 h2
theorem laws_toENodeS_eq (l : List S108) (hl : l.length ≤ 1048576) {k : Nat} (hk : 1048577 ≤ k) : laws_toENodeS.f k l = some (l.map nodeI) := by
  unfold laws_toENodeS.f
  rw [if_pos (by omega), if_pos (by omega)]
  exact laws_toENodeS_l0 l hl l.length k 0 _ (by omega) (by omega) (by simp) (by simp)

theorem laws_eqENodeS_l0 (l : List S113) (hl : l.length ≤ 1048576) : ∀ (n k i : Nat), i + n = l.length → n < k → laws_eqENodeS.l0 k l l (i : Int) = some true := by
  intro n
  induction n with
  | zero =>
    intro k i hi hk
    obtain ⟨k, rfl⟩ : ∃ m, k = m + 1 := ⟨k - 1, by omega⟩
    simp only [laws_eqENodeS.l0]
    rw [if_neg (by omega)]
  | succ n ih =>
    intro k i hi hk
    obtain ⟨k, rfl⟩ : ∃ m, k = m + 1 := ⟨k - 1, by omega⟩
    simp only [laws_eqENodeS.l0, laws_eqENode.f, if_true, Option.bind_some]
    rw [if_pos (by omega), if_pos (by omega), if_pos (by omega), up1 (by omega : i < l.length) (by omega)]
    exact ih k (i + 1) (by omega) (by omega)
theorem laws_eqENodeS_same (l : List S113) (hl : l.length ≤ 1048576) {k : Nat} (hk : 1048577 ≤ k) : laws_eqENodeS.f k l l = some true := by
  unfold laws_eqENodeS.f
  rw [if_pos rfl]
  exact laws_eqENodeS_l0 l hl l.length k 0 (by omega) (by omega)

theorem spec_l2Takes_eq (a : Int) : spec_l2Takes.f a = some (takes a) := by
  unfold spec_l2Takes.f takes
  simp only [spec_l1In_eq, Option.bind_some]
  split
  · rfl
  · split
    · rfl
    · split <;> rfl

theorem spec_l2Node_eq (a b : Int) (s : ByteArray) {k : Nat} (hk : 30 ≤ k) : spec_l2Node.f k a b s = some (nodeOk (a, b, s)) := by
  obtain ⟨k, rfl⟩ : ∃ m, k = m + 1 := ⟨k - 1, by omega⟩
  unfold spec_l2Node.f nodeOk
  simp only [spec_l1In_eq, spec_l2Node.j0, spec_l2Takes_eq, spec_NameOk_eq s (by omega : 20 ≤ k), Option.bind_some]
  by_cases h1 : a = 1
  · rw [if_pos h1, if_pos h1]
    cases inR b 0 65535 <;> simp
  · rw [if_neg h1, if_neg h1]
    by_cases h2 : a = 2
    · rw [if_pos h2, if_pos (show a = 2 ∨ a = 3 from Or.inl h2), h2]
      by_cases h4 : b = 0
      · simp [h4]
      · simp [h4]
    · by_cases h3 : a = 3
      · rw [if_neg h2, if_pos (Or.inr h3), h3]
        by_cases h4 : b = 0
        · simp [h4]
        · simp [h4]
      · have e : (a == 3) = false := by simpa using h3
        rw [if_neg h2, if_neg (show ¬ (a = 2 ∨ a = 3) by omega), e]
        simp only [Bool.false_eq_true, if_false]
        by_cases h4 : b = 0
        · by_cases h5 : s.toList = []
          · rw [if_pos h4, if_pos h5, h4, h5]
            simp [takes, inR]
            by_cases h6 : 4 ≤ a ∧ a ≤ 17
            · by_cases h7 : a ≤ 7
              · rw [if_neg (by omega), if_pos (by omega)]
                simp
                omega
              · rw [if_neg (by omega), if_neg (by omega), if_pos (by omega)]
                simp
                omega
            · rw [if_neg (by omega), if_neg (by omega), if_neg (by omega)]
              simp
              omega
          · simp [h4, h5]
        · simp [h4]

theorem impl_isNode_eq (a b : Int) (s : ByteArray) {k : Nat} (hk : 30 ≤ k) : impl_isNode.f k a b s = some (nodeOk (a, b, s)) := by
  obtain ⟨k, rfl⟩ : ∃ m, k = m + 1 := ⟨k - 1, by omega⟩
  unfold impl_isNode.f nodeOk
  simp only [impl_isWord_eq, impl_isNode.j0, impl_within_eq, impl_NameOk_eq s (by omega : 20 ≤ k), Option.bind_some]
  by_cases h1 : a = 1
  · rw [if_pos h1, if_pos h1]
    cases inR b 0 65535 <;> simp
  · rw [if_neg h1, if_neg h1]
    by_cases h2 : a = 2
    · rw [if_pos h2, if_pos (show a = 2 ∨ a = 3 from Or.inl h2)]
      by_cases h4 : b = 0
      · simp [h4]
      · simp [h4]
    · by_cases h3 : a = 3
      · rw [if_neg h2, if_pos (Or.inr h3), h3]
        by_cases h4 : b = 0
        · simp [h4]
        · simp [h4]
      · have e : (a == 3) = false := by simpa using h3
        rw [if_neg h2, if_neg (show ¬ (a = 2 ∨ a = 3) by omega), e]
        simp only [Bool.false_eq_true, if_false]
        cases inR a 4 17
        · simp
        · by_cases h4 : b = 0
          · simp [h4]
          · simp [h4]

def nd_ (x : S113) : Nd := (x.f0, x.f1, x.f2)
theorem spec_ExprOk_l0 (l : List S113) (hl : l.length ≤ 1048576) : ∀ (n k i : Nat) (d : Int), i + n = l.length → n + 40 ≤ k → 0 ≤ d → d ≤ 2 * i → spec_ExprOk.l0 k l d (i : Int) = some (decide ((l.length : Int) ≤ 30) && exprGo ((l.drop i).map nd_) d) := by
  intro n
  induction n with
  | zero =>
    intro k i d hi hk h0 h1
    obtain ⟨k, rfl⟩ : ∃ m, k = m + 1 := ⟨k - 1, by omega⟩
    simp only [spec_ExprOk.l0]
    rw [if_neg (by omega), List.drop_eq_nil_of_le (by omega)]
    by_cases h : (l.length : Int) ≤ 30
    · rw [if_pos h, decide_eq_true h]
      rfl
    · rw [if_neg h, decide_eq_false h]
      rfl
  | succ n ih =>
    intro k i d hi hk h0 h1
    obtain ⟨k, rfl⟩ : ∃ m, k = m + 1 := ⟨k - 1, by omega⟩
    simp only [spec_ExprOk.l0]
    rw [if_pos (by omega), if_pos (by omega), drop_at z113 l i (by omega)]
    have hrd : rd_T113 l (i : Int) = l.getD i z113 := by unfold rd_T113; rw [Int.toNat_natCast]
    rw [hrd]
    generalize l.getD i z113 = x
    simp only [List.map_cons, exprGo, nd_]
    rw [spec_l2Node_eq _ _ _ (by omega : 30 ≤ k), spec_l2Takes_eq]
    simp only [Option.bind_some]
    have ht := takes_in x.f0
    by_cases c1 : nodeOk (x.f0, x.f1, x.f2) = true
    · rw [if_pos c1, c1]
      by_cases c2 : takes x.f0 > d
      · rw [if_pos c2, decide_eq_false (show ¬ takes x.f0 ≤ d by omega)]
        simp
      · rw [if_neg c2, decide_eq_true (show takes x.f0 ≤ d by omega), w64 (n := d - takes x.f0) (by omega) (by omega), w64 (n := d - takes x.f0 + 1) (by omega) (by omega), up1 (by omega : i < l.length) (by omega)]
        have := ih k (i + 1) (d - takes x.f0 + 1) (by omega) (by omega) (by omega) (by omega)
        rw [this]
        simp
    · rw [if_neg c1]
      simp [c1]
theorem spec_ExprOk_eq (l : List S113) (hl : l.length ≤ 1048576) {k : Nat} (hk : l.length + 40 ≤ k) : spec_ExprOk.f k l = some (exprOk (l.map nd_)) := by
  unfold spec_ExprOk.f exprOk
  have := spec_ExprOk_l0 l hl l.length k 0 0 (by omega) (by omega) (by omega) (by omega)
  rw [show ((0 : Nat) : Int) = 0 from rfl] at this
  rw [this]
  simp

--NEEDS spec_ExprOk
theorem impl_ExprOk_l0 (l : List S113) (hl : l.length ≤ 30) : ∀ (n k i : Nat) (d : Int), i + n = l.length → n + 40 ≤ k → 0 ≤ d → d ≤ i → impl_ExprOk.l0 k d l (l.length : Int) (i : Int) = some (exprGo ((l.drop i).map nd_) d) := by
  intro n
  induction n with
  | zero =>
    intro k i d hi hk h0 h1
    obtain ⟨k, rfl⟩ : ∃ m, k = m + 1 := ⟨k - 1, by omega⟩
    simp only [impl_ExprOk.l0]
    rw [if_neg (by omega), List.drop_eq_nil_of_le (by omega)]
    rfl
  | succ n ih =>
    intro k i d hi hk h0 h1
    obtain ⟨k, rfl⟩ : ∃ m, k = m + 1 := ⟨k - 1, by omega⟩
    simp only [impl_ExprOk.l0]
    rw [if_pos (by omega), if_pos (by omega), if_pos (by omega), drop_at z113 l i (by omega)]
    have hrd : rd_T113 l (i : Int) = l.getD i z113 := by unfold rd_T113; rw [Int.toNat_natCast]
    rw [hrd]
    generalize l.getD i z113 = x
    simp only [List.map_cons, exprGo, nd_]
    rw [impl_isNode_eq _ _ _ (by omega : 30 ≤ k), up1 (by omega : i < l.length) (by omega)]
    simp only [Option.bind_some]
    by_cases c1 : nodeOk (x.f0, x.f1, x.f2) = true
    · have hk1 := nodeOk_kind c1
      rw [if_pos c1, c1]
      simp only at hk1
      by_cases c2 : x.f0 ≤ 3
      · have ht : takes x.f0 = 0 := by unfold takes; rw [inR_pos (by omega) (by omega)]; rfl
        rw [if_pos c2, ht, w64 (n := d + 1) (by omega) (by omega), ih k (i + 1) (d + 1) (by omega) (by omega) (by omega) (by omega), decide_eq_true (show (0 : Int) ≤ d by omega), show d - 0 + 1 = d + 1 from by omega]
        simp
      · by_cases c3 : x.f0 ≤ 7
        · have ht : takes x.f0 = 1 := by unfold takes; rw [inR_neg (by omega), inR_pos (by omega) (by omega)]; rfl
          rw [if_neg c2, if_pos c3, ht]
          by_cases c4 : d < 1
          · rw [if_pos c4, decide_eq_false (show ¬ (1 : Int) ≤ d by omega)]
            simp
          · rw [if_neg c4, decide_eq_true (show (1 : Int) ≤ d by omega), ih k (i + 1) d (by omega) (by omega) (by omega) (by omega), show d - 1 + 1 = d from by omega]
            simp
        · have ht : takes x.f0 = 2 := by unfold takes; rw [inR_neg (by omega), inR_neg (by omega), inR_pos (by omega) (by omega)]; rfl
          rw [if_neg c2, if_neg c3, ht]
          by_cases c4 : d < 2
          · rw [if_pos c4, decide_eq_false (show ¬ (2 : Int) ≤ d by omega)]
            simp
          · rw [if_neg c4, decide_eq_true (show (2 : Int) ≤ d by omega), w64 (n := d - 1) (by omega) (by omega), ih k (i + 1) (d - 1) (by omega) (by omega) (by omega) (by omega), show d - 2 + 1 = d - 1 from by omega]
            simp
    · rw [if_neg c1]
      simp [c1]
theorem impl_ExprOk_eq (l : List S113) {k : Nat} (hk : 80 ≤ k) : impl_ExprOk.f k l = some (exprOk (l.map nd_)) := by
  unfold impl_ExprOk.f exprOk
  by_cases h : (l.length : Int) > 30
  · rw [if_pos h, decide_eq_false (show ¬ ((l.map nd_).length : Int) ≤ 30 by rw [List.length_map]; omega)]
    rfl
  · rw [if_neg h, decide_eq_true (show ((l.map nd_).length : Int) ≤ 30 by rw [List.length_map]; omega)]
    have := impl_ExprOk_l0 l (by omega) l.length k 0 0 (by omega) (by omega) (by omega) (by omega)
    rw [show ((0 : Nat) : Int) = 0 from rfl] at this
    rw [this]
    simp

theorem laws_markText_l0 : ∀ (n : Nat) (x : Int) (acc : ByteArray), 0 ≤ x → x < 2 ^ n → x ≤ 4611686018427387904 → acc.size + n ≤ 1000 → ∃ v, ∀ k, n < k → laws_markText.l0 k x acc = some v := by
  intro n
  induction n with
  | zero =>
    intro x acc h0 h1 h2 h3
    refine ⟨(⟨#[109]⟩ : ByteArray) ++ acc, fun k hk => ?_⟩
    obtain ⟨k, rfl⟩ : ∃ m, k = m + 1 := ⟨k - 1, by omega⟩
    simp only [laws_markText.l0]
    rw [if_neg (by omega), if_pos (by omega)]
  | succ n ih =>
    intro x acc h0 h1 h2 h3
    by_cases hx : x > 0
    · have hp : (2 : Int) ^ (n + 1) = 2 ^ n * 2 := Int.pow_succ 2 n
      have hs : (strOfNums [(wrap64 (48 + (Int.tmod x 10))) % 256]).size = 1 := rfl
      have hd : Int.tdiv x 10 = x / 10 := Int.tdiv_eq_ediv_of_nonneg h0
      have hlt : x / 10 < 2 ^ n := by omega
      obtain ⟨v, hv⟩ := ih (x / 10) ((strOfNums [(wrap64 (48 + (Int.tmod x 10))) % 256]) ++ acc) (by omega) hlt (by omega) (by rw [ByteArray.size_append, hs]; omega)
      refine ⟨v, fun k hk => ?_⟩
      obtain ⟨k, rfl⟩ : ∃ m, k = m + 1 := ⟨k - 1, by omega⟩
      simp only [laws_markText.l0, Option.bind_some]
      rw [if_pos hx, if_pos (by rw [hs]; omega), hd, w64 (by omega) (by omega)]
      exact hv k (by omega)
    · refine ⟨(⟨#[109]⟩ : ByteArray) ++ acc, fun k hk => ?_⟩
      obtain ⟨k, rfl⟩ : ∃ m, k = m + 1 := ⟨k - 1, by omega⟩
      simp only [laws_markText.l0]
      rw [if_neg hx, if_pos (by omega)]
theorem laws_markText_all : ∃ T : Int → ByteArray, ∀ x, 0 ≤ x → x ≤ 4611686018427387904 → ∀ k, 70 ≤ k → laws_markText.f k x = some (T x) := by
  have h : ∀ x : Int, ∃ v, 0 ≤ x → x ≤ 4611686018427387904 → ∀ k, 70 ≤ k → laws_markText.f k x = some v := by
    intro x
    by_cases hx : 0 ≤ x ∧ x ≤ 4611686018427387904
    · unfold laws_markText.f
      by_cases h0 : x ≤ 0
      · exact ⟨_, fun _ _ k hk => by rw [if_pos h0]⟩
      · obtain ⟨v, hv⟩ := laws_markText_l0 63 x ⟨#[]⟩ hx.1 (by omega) hx.2 (by decide)
        exact ⟨v, fun _ _ k hk => by rw [if_neg h0]; exact hv k (by omega)⟩
    · exact ⟨ByteArray.empty, fun a b => absurd ⟨a, b⟩ hx⟩
  exact ⟨fun x => Classical.choose (h x), fun x => Classical.choose_spec (h x)⟩

theorem laws_eqStringS_l0 (l : List ByteArray) (hl : l.length ≤ 4611686018427387904) : ∀ (n k i : Nat), i + n = l.length → n < k → laws_eqStringS.l0 k l l (i : Int) = some true := by
  intro n
  induction n with
  | zero =>
    intro k i hi hk
    obtain ⟨k, rfl⟩ : ∃ m, k = m + 1 := ⟨k - 1, by omega⟩
    simp only [laws_eqStringS.l0]
    rw [if_neg (by omega)]
  | succ n ih =>
    intro k i hi hk
    obtain ⟨k, rfl⟩ : ∃ m, k = m + 1 := ⟨k - 1, by omega⟩
    simp only [laws_eqStringS.l0, if_true]
    rw [if_pos (by omega), if_pos (by omega), up1 (by omega : i < l.length) (by omega)]
    first | exact ih k (i + 1) (by omega) (by omega) | (rw [if_pos (by omega)]; exact ih k (i + 1) (by omega) (by omega))
theorem laws_eqStringS_same (l : List ByteArray) (hl : l.length ≤ 4611686018427387904) {k : Nat} (hk : l.length < k) : laws_eqStringS.f k l l = some true := by
  unfold laws_eqStringS.f
  rw [if_pos rfl]
  exact laws_eqStringS_l0 l hl l.length k 0 (by omega) hk

--NEEDS laws_heldStringS laws_markText
/-- What is marked from m on is held from m on. -/
theorem laws_markStringS_l0 {T : Int → ByteArray} (hT : ∀ x, 0 ≤ x → x ≤ 4611686018427387904 → ∀ k, 70 ≤ k → laws_markText.f k x = some (T x)) (N : Nat) (m : Int) (hm : 0 ≤ m) (hN : m + N ≤ 4611686018427387904) :
    ∀ (n k i : Nat) (y : List ByteArray), i + n = N → n + 80 ≤ k → y.length = N → (∀ j, j < i → y[j]? = some (T (m + j))) →
    ∃ z : List ByteArray, laws_markStringS.l0 k y (m + i) (i : Int) = some (m + N, z) ∧ z.length = N ∧ ∀ j, j < N → z[j]? = some (T (m + j)) := by
  intro n
  induction n with
  | zero =>
    intro k i y hi hk hy hj
    obtain ⟨k, rfl⟩ : ∃ m, k = m + 1 := ⟨k - 1, by omega⟩
    obtain rfl : i = N := by omega
    refine ⟨y, ?_, hy, hj⟩
    simp only [laws_markStringS.l0]
    rw [if_neg (by omega)]
  | succ n ih =>
    intro k i y hi hk hy hj
    obtain ⟨k, rfl⟩ : ∃ m, k = m + 1 := ⟨k - 1, by omega⟩
    simp only [laws_markStringS.l0]
    rw [if_pos (by omega), hT (m + i) (by omega) (by omega) k (by omega)]
    simp only [Option.bind_some]
    rw [if_pos (by omega), up1 (by omega : i < y.length) (by omega), w64 (n := m + i + 1) (by omega) (by omega), show m + (i : Int) + 1 = m + ((i + 1 : Nat) : Int) from by omega]
    refine ih k (i + 1) _ (by omega) (by omega) (by simpa using hy) (fun j hj1 => ?_)
    rw [Int.toNat_natCast]
    by_cases e : j = i
    · subst e
      rw [List.getElem?_set_self (by omega)]
    · rw [List.getElem?_set_ne (by omega)]
      exact hj j (by omega)
theorem laws_heldStringS_l0 {T : Int → ByteArray} (hT : ∀ x, 0 ≤ x → x ≤ 4611686018427387904 → ∀ k, 70 ≤ k → laws_markText.f k x = some (T x)) (N : Nat) (m : Int) (hm : 0 ≤ m) (hN : m + N ≤ 4611686018427387904) (z : List ByteArray) (hz : z.length = N) (hj : ∀ j, j < N → z[j]? = some (T (m + j))) :
    ∀ (n k i : Nat), i + n = N → n + 80 ≤ k → laws_heldStringS.l0 k z (m + i) (i : Int) = some (m + N) := by
  intro n
  induction n with
  | zero =>
    intro k i hi hk
    obtain ⟨k, rfl⟩ : ∃ m, k = m + 1 := ⟨k - 1, by omega⟩
    obtain rfl : i = N := by omega
    simp only [laws_heldStringS.l0]
    rw [if_neg (by omega)]
  | succ n ih =>
    intro k i hi hk
    obtain ⟨k, rfl⟩ : ∃ m, k = m + 1 := ⟨k - 1, by omega⟩
    have hr : rdOf ByteArray.empty z (i : Int) = T (m + i) := by
      unfold rdOf
      rw [Int.toNat_natCast, List.getD_eq_getElem?_getD, hj i (by omega)]
      rfl
    simp only [laws_heldStringS.l0]
    rw [if_pos (by omega), if_pos (by omega), hT (m + i) (by omega) (by omega) k (by omega), hr]
    simp only [Option.bind_some, if_true]
    rw [up1 (by omega : i < z.length) (by omega), w64 (n := m + i + 1) (by omega) (by omega), show m + (i : Int) + 1 = m + ((i + 1 : Nat) : Int) from by omega]
    exact ih k (i + 1) (by omega) (by omega)
theorem laws_markStringS_held (l : List ByteArray) {m : Int} (hm : 0 ≤ m) (hN : m + l.length ≤ 4611686018427387904) {k : Nat} (hk : l.length + 80 ≤ k) :
    ∃ z, laws_markStringS.f k l m = some (m + l.length, z) ∧ ∀ k', l.length + 80 ≤ k' → laws_heldStringS.f k' z m = some (m + l.length) := by
  obtain ⟨T, hT⟩ := laws_markText_all
  obtain ⟨z, h1, h2, h3⟩ := laws_markStringS_l0 hT l.length m hm hN l.length k 0 l (by omega) hk rfl (fun j hj => absurd hj (by omega))
  refine ⟨z, ?_, fun k' hk' => ?_⟩
  · unfold laws_markStringS.f
    simpa using h1
  · have := laws_heldStringS_l0 hT l.length m hm hN z h2 h3 l.length k' 0 (by omega) hk'
    unfold laws_heldStringS.f
    simpa using this

--NEEDS laws_markText
theorem laws_markENodeS_l0 {T : Int → ByteArray} (hT : ∀ x, 0 ≤ x → x ≤ 4611686018427387904 → ∀ k, 70 ≤ k → laws_markText.f k x = some (T x)) :
    ∀ (n k i : Nat) (m : Int) (y : List S113), i + n = y.length → y.length ≤ 1048576 → n + 80 ≤ k → 0 ≤ m → m ≤ 3 * i + 1000000 → ∃ r, laws_markENodeS.l0 k y m (i : Int) = some r ∧ 0 ≤ r.1 := by
  intro n
  induction n with
  | zero =>
    intro k i m y hi hl hk h0 h1
    obtain ⟨k, rfl⟩ : ∃ m, k = m + 1 := ⟨k - 1, by omega⟩
    refine ⟨(m, y), ?_, h0⟩
    simp only [laws_markENodeS.l0]
    rw [if_neg (by omega)]
  | succ n ih =>
    intro k i m y hi hl hk h0 h1
    obtain ⟨k, rfl⟩ : ∃ m, k = m + 1 := ⟨k - 1, by omega⟩
    simp only [laws_markENodeS.l0, Option.bind_some]
    rw [if_pos (by omega), if_pos (by omega), w64 (n := m + 1) (by omega) (by omega), w64 (n := m + 1 + 1) (by omega) (by omega), hT (m + 1 + 1) (by omega) (by omega) k (by omega), w64 (n := m + 1 + 1 + 1) (by omega) (by omega), up1 (by omega : i < y.length) (by omega)]
    simp only [Option.bind_some]
    exact ih k (i + 1) (m + 1 + 1 + 1) _ (by simp; omega) (by simpa using hl) (by omega) (by omega) (by omega)
theorem laws_markENodeS_some (l : List S113) (hl : l.length ≤ 1048576) {m : Int} (h0 : 0 ≤ m) (h1 : m ≤ 1000000) {k : Nat} (hk : l.length + 80 ≤ k) : ∃ r, laws_markENodeS.f k l m = some r ∧ 0 ≤ r.1 := by
  obtain ⟨T, hT⟩ := laws_markText_all
  exact laws_markENodeS_l0 hT l.length k 0 m l (by omega) hl hk h0 (by omega)

theorem spec_l2Put_l0 (l : List ByteArray) (s : ByteArray) (hl : l.length ≤ 1048576) : ∀ (n k i : Nat), i + n = l.length → n < k → spec_l2Put.l0 k l s (i : Int) = some (l.take i ++ putB (l.drop i) s) := by
  intro n
  induction n with
  | zero =>
    intro k i hi hk
    obtain ⟨k, rfl⟩ : ∃ m, k = m + 1 := ⟨k - 1, by omega⟩
    obtain rfl : i = l.length := by omega
    simp only [spec_l2Put.l0, Option.bind_some]
    rw [if_neg (by omega), if_pos (by omega), if_pos (by simp <;> omega), if_pos (by simp <;> omega), if_pos (by simp <;> omega)]
    simp [putB]
    omega
  | succ n ih =>
    intro k i hi hk
    obtain ⟨k, rfl⟩ : ∃ m, k = m + 1 := ⟨k - 1, by omega⟩
    have hr : rdOf ByteArray.empty l (i : Int) = l.getD i ByteArray.empty := by unfold rdOf; rw [Int.toNat_natCast]
    have hd := drop_at ByteArray.empty l i (by omega)
    have ht : l.take (i + 1) = l.take i ++ [l.getD i ByteArray.empty] := by
      rw [List.take_add_one, List.getD_eq_getElem?_getD, List.getElem?_eq_getElem (by omega)]
      rfl
    simp only [spec_l2Put.l0, Option.bind_some]
    rw [if_pos (by omega), if_pos (by omega), hr, hd, ByteArray.toList_eq, ByteArray.toList_eq, less_eq]
    simp only [putB, decide_eq_true_eq]
    by_cases c1 : (l.getD i ByteArray.empty).data.toList < s.data.toList
    · rw [if_pos c1, if_pos c1, up1 (by omega : i < l.length) (by omega), ih k (i + 1) (by omega) (by omega), ht]
      simp
    · rw [if_neg c1, if_neg c1]
      by_cases c2 : (l.getD i ByteArray.empty).data.toList = s.data.toList
      · rw [if_pos c2, if_pos c2, ← hd, List.take_append_drop]
      · rw [if_neg c2, if_neg c2, if_pos (by omega), if_pos (by simp <;> omega), if_pos (by simp <;> omega), if_pos (by simp <;> omega)]
        rw [Int.toNat_natCast, ← hd]
        simp
theorem spec_l2Put_eq (l : List ByteArray) (s : ByteArray) (hl : l.length ≤ 1048576) {k : Nat} (hk : l.length < k) : spec_l2Put.f k l s = some (putB l s) := by
  unfold spec_l2Put.f
  have := spec_l2Put_l0 l s hl l.length k 0 (by omega) hk
  simpa using this

theorem spec_NamesIn_l0 (l : List S113) (hl : l.length ≤ 1048576) (hok : exprOk (l.map nd_) = true) : ∀ (n k i : Nat) (o : List ByteArray), i + n = l.length → 2 * n + l.length + 100 ≤ k → o.length ≤ i → spec_NamesIn.l0 k l o (i : Int) = some (putAllB o (namesB ((l.drop i).map nd_))) := by
  intro n
  have h30 : l.length ≤ 30 := by
    unfold exprOk at hok
    simp only [Bool.and_eq_true, decide_eq_true_eq, List.length_map] at hok
    omega
  induction n with
  | zero =>
    intro k i o hi hk ho
    obtain ⟨k, rfl⟩ : ∃ m, k = m + 2 := ⟨k - 2, by omega⟩
    simp only [spec_NamesIn.l0, spec_NamesIn.j1]
    rw [spec_ExprOk_eq l hl (by omega), hok, decide_eq_false (by omega), List.drop_eq_nil_of_le (by omega)]
    rfl
  | succ n ih =>
    intro k i o hi hk ho
    obtain ⟨k, rfl⟩ : ∃ m, k = m + 2 := ⟨k - 2, by omega⟩
    have hr : rd_T113 l (i : Int) = l.getD i z113 := by unfold rd_T113; rw [Int.toNat_natCast]
    simp only [spec_NamesIn.l0, spec_NamesIn.j1]
    rw [spec_ExprOk_eq l hl (by omega), hok, decide_eq_true (show (i : Int) < (l.length : Int) by omega), drop_at z113 l i (by omega)]
    simp only [Option.bind_some, if_true]
    rw [if_pos (by omega), if_pos (by omega), hr, up1 (by omega : i < l.length) (by omega)]
    generalize l.getD i z113 = x
    simp only [namesB, List.map_cons, nd_]
    by_cases c : x.f2.toList = []
    · rw [if_pos c, List.filter_cons_of_neg (by simpa using c)]
      exact ih k (i + 1) o (by omega) (by omega) (by omega)
    · rw [if_neg c, List.filter_cons_of_pos (by simpa using c), spec_l2Put_eq o x.f2 (by omega) (by omega)]
      simp only [Option.bind_some]
      have hp := putB_len o x.f2
      exact ih k (i + 1) (putB o x.f2) (by omega) (by omega) (by omega)
theorem spec_NamesIn_eq (l : List S113) (hl : l.length ≤ 1048576) {k : Nat} (hk : 3 * l.length + 100 ≤ k) : spec_NamesIn.f k l = some (if exprOk (l.map nd_) = true then putAllB [] (namesB (l.map nd_)) else []) := by
  unfold spec_NamesIn.f
  by_cases hok : exprOk (l.map nd_) = true
  · rw [if_pos hok]
    have := spec_NamesIn_l0 l hl hok l.length k 0 [] (by omega) (by omega) (by simp)
    simpa using this
  · rw [if_neg hok]
    obtain ⟨k, rfl⟩ : ∃ m, k = m + 2 := ⟨k - 2, by omega⟩
    simp only [spec_NamesIn.l0, spec_NamesIn.j1]
    rw [spec_ExprOk_eq l hl (by omega)]
    simp [hok]

--NEEDS spec_ExprOk
theorem impl_namesIn_l0 (l : List S113) (hl : l.length ≤ 1048576) : ∀ (n k i : Nat) (o : List ByteArray), i + n = l.length → n < k → o.length ≤ i →
    impl_namesIn.l0 k o l (l.length : Int) (i : Int) = some ((Go.Lib.compact (((o ++ namesB ((l.drop i).map nd_)).map bytesB).mergeSort fun x y => decide (x ≤ y))).map mkB) := by
  intro n
  induction n with
  | zero =>
    intro k i o hi hk ho
    obtain ⟨k, rfl⟩ : ∃ m, k = m + 1 := ⟨k - 1, by omega⟩
    simp only [impl_namesIn.l0, slices_Sort_string_string.f, slices_Compact_string_string.f]
    rw [if_neg (by omega), if_pos (by omega), List.drop_eq_nil_of_le (by omega)]
    simp only [Option.bind_some]
    rw [if_pos (by rw [List.length_map, List.length_mergeSort, List.length_map]; omega)]
    simp only [Option.bind_some]
    rw [show (((o.map (·.data.toList)).mergeSort fun x y => decide (x ≤ y)).map fun l => (⟨l.toArray⟩ : ByteArray)).map (·.data.toList) = ((o.map (·.data.toList)).mergeSort fun x y => decide (x ≤ y)) from by simp [List.map_map, Function.comp_def]]
    simp [namesB]
  | succ n ih =>
    intro k i o hi hk ho
    obtain ⟨k, rfl⟩ : ∃ m, k = m + 1 := ⟨k - 1, by omega⟩
    have hr : rd_T113 l (i : Int) = l.getD i z113 := by unfold rd_T113; rw [Int.toNat_natCast]
    simp only [impl_namesIn.l0]
    rw [if_pos (by omega), if_pos (by omega), if_pos (by omega), hr, up1 (by omega : i < l.length) (by omega), drop_at z113 l i (by omega)]
    generalize l.getD i z113 = x
    simp only [namesB, List.map_cons, nd_]
    by_cases c : x.f2.toList = []
    · rw [if_pos c, List.filter_cons_of_neg (by simpa using c)]
      exact ih k (i + 1) o (by omega) (by omega) (by omega)
    · rw [if_neg c, List.filter_cons_of_pos (by simpa using c), if_pos (by omega)]
      have := ih k (i + 1) (o ++ [x.f2]) (by omega) (by omega) (by simp; omega)
      rw [this, List.append_assoc]
      rfl
theorem impl_namesIn_eq (l : List S113) (hl : l.length ≤ 1048576) {k : Nat} (hk : l.length < k) : impl_namesIn.f k l = some (putAllB [] (namesB (l.map nd_))) := by
  unfold impl_namesIn.f
  have := impl_namesIn_l0 l hl l.length k 0 [] (by omega) hk (by simp)
  rw [show ((0 : Nat) : Int) = 0 from rfl] at this
  rw [this, putAllB_eq]
  rfl

--NEEDS spec_ExprOk
theorem impl_NamesIn_eq (l : List S113) (hl : l.length ≤ 1048576) {k : Nat} (hk : l.length + 100 ≤ k) : impl_NamesIn.f k l = some (if exprOk (l.map nd_) = true then putAllB [] (namesB (l.map nd_)) else []) := by
  unfold impl_NamesIn.f
  rw [impl_ExprOk_eq l (by omega), impl_namesIn_eq l hl (by omega)]
  by_cases hok : exprOk (l.map nd_) = true
  · simp [hok]
  · simp [hok]

open Go.Proofs.Ytffmpmgnkhlmdaa.Kin in
theorem FnExactNamesIn (l : List S108) (h : l.length ≤ maxLen ∧ ∀ x ∈ l, okT108 x) : ∃ k, laws_FnExactNamesIn.f k l = some true := by
  refine ⟨4000000 + 1, ?_⟩
  unfold laws_FnExactNamesIn.f
  obtain ⟨t, ht, hle, hlen⟩ := laws_szENodeS_some l h.1 (fun x hx => (h.2 x hx).2.2) (k := 4000000 + 1) (left := 1048576) (by decide) (by decide) (by decide)
  rw [ht]
  simp only [Option.bind_some]
  by_cases hc : t < 0
  · rw [if_pos hc]
  · rw [if_neg hc]
    have hl := hlen (by omega)
    have hm : (l.map nodeI).length ≤ 1048576 := by simpa using hl
    rw [laws_toENodeS_eq l hl (by decide)]
    simp only [Option.bind_some]
    rw [spec_NamesIn_eq _ hm (by simp; omega), impl_NamesIn_eq _ hm (by simp; omega)]
    simp only [Option.bind_some]
    have hg : (if exprOk ((l.map nodeI).map nd_) = true then putAllB [] (namesB ((l.map nodeI).map nd_)) else []).length ≤ 30 := by
      by_cases hok : exprOk ((l.map nodeI).map nd_) = true
      · rw [if_pos hok]
        unfold exprOk at hok
        simp only [Bool.and_eq_true, decide_eq_true_eq, List.length_map] at hok
        have hb : ∀ (r o : List ByteArray), (putAllB o r).length ≤ o.length + r.length := by
          intro r
          induction r with
          | nil => intro o; simp [putAllB]
          | cons s r ih =>
            intro o
            have h1 := ih (putB o s)
            have h2 := putB_len o s
            simp only [putAllB, List.length_cons]
            omega
        have h1 := hb (namesB ((l.map nodeI).map nd_)) []
        have h2 : (namesB ((l.map nodeI).map nd_)).length ≤ ((l.map nodeI).map nd_).length := by
          unfold namesB
          have := List.length_filter_le (fun s : ByteArray => decide (s.toList ≠ [])) (((l.map nodeI).map nd_).map (·.2.2))
          simpa using this
        simp only [List.length_map, List.length_nil] at h1 h2
        omega
      · rw [if_neg hok]
        simp
    have himpl := impl_NamesIn_eq (l.map nodeI) hm (k := 4000000) (by simp; omega)
    generalize (if exprOk ((l.map nodeI).map nd_) = true then putAllB [] (namesB ((l.map nodeI).map nd_)) else []) = g at hg himpl ⊢
    rw [laws_eqStringS_same g (by omega) (by omega)]
    simp only [Option.bind_some, if_true]
    rw [laws_eqENodeS_same _ hm (by decide)]
    simp only [Option.bind_some, if_true]
    obtain ⟨r, hr, hr0⟩ := laws_markENodeS_some (l.map nodeI) hm (m := 1) (by decide) (by decide) (k := 4000000 + 1) (by simp; omega)
    rw [hr]
    simp only [Option.bind_some]
    rw [if_neg (by omega)]
    simp only [Bool.not_true, laws_FnExactNamesIn.j0]
    rw [if_neg (by decide)]
    obtain ⟨z, hz1, hz2⟩ := laws_markStringS_held g (m := 1) (by decide) (by omega) (k := 4000000) (by omega)
    rw [hz1]
    simp only [Option.bind_some]
    rw [hz2 4000000 (by omega)]
    simp only [Option.bind_some]
    have hneg : ¬ (1 + (g.length : Int) < 0) := by omega
    simp only [hneg, if_false, if_true]
    rw [laws_toENodeS_eq l hl (by decide)]
    simp only [Option.bind_some]
    rw [himpl]
    simp only [Option.bind_some]
    rw [laws_eqStringS_same g (by omega) (by omega)]
    simp only [Option.bind_some, if_true]

end Go.Proofs.Ytffmpmgnkhlmdaa.Pure
