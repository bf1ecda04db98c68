/-
The law FnExactExprOk, told as a plain function of the nodes, answers true for every input.
-/
import Derived.Test.YtnchhhafdkpmaaaPFnExactExprOkx4
import Derived.Test.YtnchhhafdkpmaaaAidA
import Derived.Test.YtnchhhafdkpmaaaAidB
import Derived.Test.YtnchhhafdkpmaaaAidC
import Derived.Test.YtnchhhafdkpmaaaKinFnExactExprOk
namespace Go.Proofs.Ytnchhhafdkpmaaa.Pure
open Go.RowKit Go.Proofs.Ytnchhhafdkpmaaa.Aid Go.Proofs.Ytnchhhafdkpmaaa.PFnExactExprOk Go.Proofs.YtnchhhafdkpmaaaW.PrintWords Go.Proofs.YtnchhhafdkpmaaaW.PrintLast Go.Proofs.YtnchhhafdkpmaaaW.PrintMore
set_option linter.unusedVariables false
set_option linter.unusedSimpArgs false

theorem spec_l1In_eq (a b c : Int) : spec_l1In.f a b c = some (inR a b c) := by
  unfold spec_l1In.f inR
  by_cases h : a ≥ b
  · rw [if_pos h, decide_eq_true (show b ≤ a from h)]
    rfl
  · rw [if_neg h, decide_eq_false (show ¬ b ≤ a from h)]
    rfl

theorem impl_within_eq (a b c : Int) : impl_within.f a b c = some (inR a b c) := by
  unfold impl_within.f inR
  by_cases h : a ≥ b
  · rw [if_pos h, decide_eq_true (show b ≤ a from h)]
    rfl
  · rw [if_neg h, decide_eq_false (show ¬ b ≤ a from h)]
    rfl

theorem impl_isWord_eq (a : Int) : impl_isWord.f a = some (inR a 0 65535) := by
  unfold impl_isWord.f
  rw [impl_within_eq]
  rfl

theorem spec_l1Letter_eq (c : Int) : spec_l1Letter.f c = some (isLet c) := by
  unfold spec_l1Letter.f isLet inR
  by_cases h1 : c ≥ 97
  · by_cases h2 : c ≤ 122
    · simp [h1, h2]
    · by_cases h3 : c = 95
      · simp [h3]
      · simp [h1, h2, h3]
  · by_cases h3 : c = 95
    · simp [h3]
    · simp [h1, h3]

theorem impl_isDigit_eq (c : Int) : impl_isDigit.f c = some (inR c 48 57) := by
  unfold impl_isDigit.f inR
  by_cases h : c ≥ 48
  · rw [if_pos h, decide_eq_true (show 48 ≤ c from h)]
    rfl
  · rw [if_neg h, decide_eq_false (show ¬ 48 ≤ c from h)]
    rfl

theorem impl_isSmall_eq (c : Int) : impl_isSmall.f c = some (inR c 97 122) := by
  unfold impl_isSmall.f inR
  by_cases h : c ≥ 97
  · rw [if_pos h, decide_eq_true (show 97 ≤ c from h)]
    rfl
  · rw [if_neg h, decide_eq_false (show ¬ 97 ≤ c from h)]
    rfl

theorem spec_NameOk_l0 (s : ByteArray) (hs : s.size ≤ 140737488351232) : ∀ (n k i : Nat), i + n = s.size → n < k → spec_NameOk.l0 k s (i : Int) = some (allB isNam s n i) := by
  intro n
  induction n with
  | zero =>
    intro k i hi hk
    obtain ⟨k, rfl⟩ : ∃ m, k = m + 1 := ⟨k - 1, by omega⟩
    simp only [spec_NameOk.l0]
    rw [if_neg (by omega)]
    rfl
  | succ n ih =>
    intro k i hi hk
    obtain ⟨k, rfl⟩ : ∃ m, k = m + 1 := ⟨k - 1, by omega⟩
    have hn := ih k (i + 1) (by omega) (by omega)
    have hw : wrap64 ((i : Int) + 1) = ((i + 1 : Nat) : Int) := by rw [w64 (by omega) (by omega)]; omega
    simp only [spec_NameOk.l0]
    rw [if_pos (by omega), if_pos (by omega), spec_l1Letter_eq, hw, hn]
    simp only [Option.bind_some, allB, isNam, inR]
    by_cases h1 : isLet (bt s i) = true
    · simp [h1]
    · by_cases h2 : bt s i ≥ 48
      · by_cases h3 : bt s i ≤ 57
        · simp [h1, h2, h3]
        · simp [h1, h2, h3]
      · simp [h1, h2]
theorem spec_NameOk_eq (s : ByteArray) {k : Nat} (hk : 20 ≤ k) : spec_NameOk.f k s = some (nameOk s) := by
  unfold spec_NameOk.f nameOk
  obtain ⟨k, rfl⟩ : ∃ m, k = m + 1 := ⟨k - 1, by omega⟩
  simp only [spec_NameOk.j0]
  by_cases h1 : (s.size : Int) < 1
  · rw [if_pos h1, inR_neg (by omega)]
    rfl
  · by_cases h2 : (s.size : Int) > 16
    · rw [if_neg h1, if_pos h2, inR_neg (by omega)]
      rfl
    · have hl := spec_NameOk_l0 s (by omega) s.size k 0 (by omega) (by omega)
      rw [if_neg h1, if_neg h2, inR_pos (by omega) (by omega), if_pos (by omega), spec_l1Letter_eq]
      simp only [Option.bind_some, Bool.true_and]
      rw [show ((0 : Nat) : Int) = 0 from rfl] at hl
      rw [hl]
      obtain ⟨n, hn⟩ : ∃ n, s.size = n + 1 := ⟨s.size - 1, by omega⟩
      by_cases h3 : isLet (bt s 0) = true
      · rw [h3, isLet_dig h3]
        simp
      · have h3' : isLet (bt s 0) = false := by simpa using h3
        rw [h3', hn]
        simp only [Bool.not_false, if_true, allB]
        rw [show bt s ((0 : Nat) : Int) = bt s 0 from rfl]
        unfold isNam
        rw [h3']
        cases inR (bt s 0) 48 57 <;> simp

theorem impl_NameOk_l0 (s : ByteArray) (hs : s.size ≤ 140737488351232) : ∀ (n k i : Nat), i + n = s.size → n < k → impl_NameOk.l0 k s (s.size : Int) (i : Int) = some (allB isNam s n i) := by
  intro n
  induction n with
  | zero =>
    intro k i hi hk
    obtain ⟨k, rfl⟩ : ∃ m, k = m + 1 := ⟨k - 1, by omega⟩
    simp only [impl_NameOk.l0]
    rw [if_neg (by omega)]
    rfl
  | succ n ih =>
    intro k i hi hk
    obtain ⟨k, rfl⟩ : ∃ m, k = m + 1 := ⟨k - 1, by omega⟩
    have hn := ih k (i + 1) (by omega) (by omega)
    have hw : wrap64 ((i : Int) + 1) = ((i + 1 : Nat) : Int) := by rw [w64 (by omega) (by omega)]; omega
    simp only [impl_NameOk.l0]
    rw [if_pos (by omega), if_pos (by omega), if_pos (by omega), impl_isSmall_eq, impl_isDigit_eq, hw, hn]
    simp only [Option.bind_some, allB, isNam, isLet]
    by_cases h1 : inR (bt s i) 97 122 = true
    · simp [h1]
    · by_cases h2 : inR (bt s i) 48 57 = true
      · simp [h1, h2]
      · by_cases h3 : bt s i = 95
        · simp [h1, h2, h3]
        · by_cases h4 : bt s i = 46
          · simp [h1, h2, h3, h4]
          · simp [h1, h2, h3, h4]
theorem impl_NameOk_eq (s : ByteArray) {k : Nat} (hk : 20 ≤ k) : impl_NameOk.f k s = some (nameOk s) := by
  unfold impl_NameOk.f nameOk
  obtain ⟨k, rfl⟩ : ∃ m, k = m + 1 := ⟨k - 1, by omega⟩
  simp only [impl_NameOk.j0, impl_within_eq, Option.bind_some]
  by_cases h1 : 1 ≤ (s.size : Int) ∧ (s.size : Int) ≤ 16
  · have hl := impl_NameOk_l0 s (by omega) s.size k 0 (by omega) (by omega)
    rw [inR_pos h1.1 h1.2, if_pos rfl, if_pos (by omega), impl_isDigit_eq]
    simp only [Option.bind_some, Bool.true_and]
    rw [show ((0 : Nat) : Int) = 0 from rfl] at hl
    rw [hl]
    cases inR (bt s 0) 48 57 <;> simp
  · rw [inR_neg h1]
    rfl

theorem laws_szENodeS_l0 (l : List S81) (hl : l.length ≤ 1048576) (hn : ∀ x ∈ l, x.f2.size ≤ maxLen) : ∀ (n k i : Nat) (left : Int), i + n = l.length → n < k → 0 ≤ left → left ≤ 1048576 → ∃ t, laws_szENodeS.l0 k l left (i : Int) = some t ∧ t ≤ left := by
  intro n
  induction n with
  | zero =>
    intro k i left hi hk h0 h1
    obtain ⟨k, rfl⟩ : ∃ m, k = m + 1 := ⟨k - 1, by omega⟩
    refine ⟨left, ?_, Int.le_refl _⟩
    simp only [laws_szENodeS.l0]
    rw [if_neg (by omega)]
  | succ n ih =>
    intro k i left hi hk h0 h1
    obtain ⟨k, rfl⟩ : ∃ m, k = m + 1 := ⟨k - 1, by omega⟩
    simp only [laws_szENodeS.l0]
    rw [if_pos (by omega), if_pos (by omega), up1 (by omega : i < l.length) (by omega)]
    have hx : (rd_T81 l (i : Int)).f2.size ≤ maxLen := hn _ (by unfold rd_T81; exact getD_mem _ _ _ (by simp; omega))
    unfold maxLen at hx
    unfold laws_szENode.f
    generalize (rd_T81 l (i : Int)).f2.size = z at hx ⊢
    rw [w64 (by omega) (by omega)]
    by_cases hc : left - (z : Int) < 0
    · rw [if_pos hc]
      exact ⟨-1, by simp, by omega⟩
    · rw [if_neg hc]
      simp only [Option.bind_some]
      rw [if_neg hc]
      obtain ⟨t, ht, hle⟩ := ih k (i + 1) (left - z) (by omega) (by omega) (by omega) (by omega)
      exact ⟨t, ht, by omega⟩
theorem laws_szENodeS_some (l : List S81) (hl : l.length ≤ maxLen) (hn : ∀ x ∈ l, x.f2.size ≤ maxLen) {k : Nat} {left : Int} (h0 : 0 ≤ left) (h1 : left ≤ 1048576) (hk : 1048577 ≤ k) :
    ∃ t, laws_szENodeS.f k l left = some t ∧ t ≤ left ∧ (0 ≤ t → l.length ≤ 1048576) := by
  unfold maxLen at hl
  unfold laws_szENodeS.f
  rw [w64 (by omega) (by omega)]
  by_cases hc : left - (l.length : Int) < 0
  · rw [if_pos hc]
    exact ⟨-1, rfl, by omega, by omega⟩
  · rw [if_neg hc]
    obtain ⟨t, ht, hle⟩ := laws_szENodeS_l0 l (by omega) hn l.length k 0 (left - l.length) (by omega) (by omega) (by omega) (by omega)
    exact ⟨t, ht, by omega, fun _ => by omega⟩

def nodeI (x : S81) : S83 := ⟨x.f0, x.f1, x.f2⟩
def nd (x : S83) : Nd := (x.f0, x.f1, x.f2)
theorem laws_toENodeS_l0 (l : List S81) (hl : l.length ≤ 1048576) : ∀ (n k i : Nat) (y : List S83), i + n = l.length → n < k → y.length = l.length → y.take i = (l.map nodeI).take i → laws_toENodeS.l0 k l y (i : Int) = some (l.map nodeI) := by
  intro n
  induction n with
  | zero =>
    intro k i y hi hk hy ht
    obtain ⟨k, rfl⟩ : ∃ m, k = m + 1 := ⟨k - 1, by omega⟩
    simp only [laws_toENodeS.l0]
    rw [if_neg (by omega)]
    obtain rfl : i = l.length := by omega
    rw [fill_end nodeI l y hy ht]
  | succ n ih =>
    intro k i y hi hk hy ht
    obtain ⟨k, rfl⟩ : ∃ m, k = m + 1 := ⟨k - 1, by omega⟩
    simp only [laws_toENodeS.l0, laws_toENode.f, Option.bind_some]
    rw [if_pos (by omega), if_pos (by omega), if_pos (by omega), up1 (by omega : i < l.length) (by omega)]
    obtain ⟨h1, h2⟩ := fill_step z81 nodeI l y i (by omega) hy ht
    exact ih k (i + 1) _ (by omega) (by omega) h1 h2
theorem laws_toENodeS_eq (l : List S81) (hl : l.length ≤ 1048576) {k : Nat} (hk : 1048577 ≤ k) : laws_toENodeS.f k l = some (l.map nodeI) := by
  unfold laws_toENodeS.f
  rw [if_pos (by omega), if_pos (by omega)]
  exact laws_toENodeS_l0 l hl l.length k 0 _ (by omega) (by omega) (by simp) (by simp)

theorem laws_eqENodeS_l0 (l : List S83) (hl : l.length ≤ 1048576) : ∀ (n k i : Nat), i + n = l.length → n < k → laws_eqENodeS.l0 k l l (i : Int) = some true := by
  intro n
  induction n with
  | zero =>
    intro k i hi hk
    obtain ⟨k, rfl⟩ : ∃ m, k = m + 1 := ⟨k - 1, by omega⟩
    simp only [laws_eqENodeS.l0]
    rw [if_neg (by omega)]
  | succ n ih =>
    intro k i hi hk
    obtain ⟨k, rfl⟩ : ∃ m, k = m + 1 := ⟨k - 1, by omega⟩
    simp only [laws_eqENodeS.l0, laws_eqENode.f, if_true, Option.bind_some]
    rw [if_pos (by omega), if_pos (by omega), if_pos (by omega), up1 (by omega : i < l.length) (by omega)]
    exact ih k (i + 1) (by omega) (by omega)
theorem laws_eqENodeS_same (l : List S83) (hl : l.length ≤ 1048576) {k : Nat} (hk : 1048577 ≤ k) : laws_eqENodeS.f k l l = some true := by
  unfold laws_eqENodeS.f
  rw [if_pos rfl]
  exact laws_eqENodeS_l0 l hl l.length k 0 (by omega) (by omega)

theorem spec_l2Takes_eq (a : Int) : spec_l2Takes.f a = some (takes a) := by
  unfold spec_l2Takes.f takes
  simp only [spec_l1In_eq, Option.bind_some]
  split
  · rfl
  · split
    · rfl
    · split <;> rfl

theorem spec_l2Node_eq (a b : Int) (s : ByteArray) {k : Nat} (hk : 30 ≤ k) : spec_l2Node.f k a b s = some (nodeOk (a, b, s)) := by
  obtain ⟨k, rfl⟩ : ∃ m, k = m + 1 := ⟨k - 1, by omega⟩
  unfold spec_l2Node.f nodeOk
  simp only [spec_l1In_eq, spec_l2Node.j0, spec_l2Takes_eq, spec_NameOk_eq s (by omega : 20 ≤ k), Option.bind_some]
  by_cases h1 : a = 1
  · rw [if_pos h1, if_pos h1]
    cases inR b 0 65535 <;> simp
  · rw [if_neg h1, if_neg h1]
    by_cases h2 : a = 2
    · rw [if_pos h2, if_pos (show a = 2 ∨ a = 3 from Or.inl h2), h2]
      by_cases h4 : b = 0
      · simp [h4]
      · simp [h4]
    · by_cases h3 : a = 3
      · rw [if_neg h2, if_pos (Or.inr h3), h3]
        by_cases h4 : b = 0
        · simp [h4]
        · simp [h4]
      · have e : (a == 3) = false := by simpa using h3
        rw [if_neg h2, if_neg (show ¬ (a = 2 ∨ a = 3) by omega), e]
        simp only [Bool.false_eq_true, if_false]
        by_cases h4 : b = 0
        · by_cases h5 : s.toList = []
          · rw [if_pos h4, if_pos h5, h4, h5]
            simp [takes, inR]
            by_cases h6 : 4 ≤ a ∧ a ≤ 17
            · by_cases h7 : a ≤ 7
              · rw [if_neg (by omega), if_pos (by omega)]
                simp
                omega
              · rw [if_neg (by omega), if_neg (by omega), if_pos (by omega)]
                simp
                omega
            · rw [if_neg (by omega), if_neg (by omega), if_neg (by omega)]
              simp
              omega
          · simp [h4, h5]
        · simp [h4]

theorem impl_isNode_eq (a b : Int) (s : ByteArray) {k : Nat} (hk : 30 ≤ k) : impl_isNode.f k a b s = some (nodeOk (a, b, s)) := by
  obtain ⟨k, rfl⟩ : ∃ m, k = m + 1 := ⟨k - 1, by omega⟩
  unfold impl_isNode.f nodeOk
  simp only [impl_isWord_eq, impl_isNode.j0, impl_within_eq, impl_NameOk_eq s (by omega : 20 ≤ k), Option.bind_some]
  by_cases h1 : a = 1
  · rw [if_pos h1, if_pos h1]
    cases inR b 0 65535 <;> simp
  · rw [if_neg h1, if_neg h1]
    by_cases h2 : a = 2
    · rw [if_pos h2, if_pos (show a = 2 ∨ a = 3 from Or.inl h2)]
      by_cases h4 : b = 0
      · simp [h4]
      · simp [h4]
    · by_cases h3 : a = 3
      · rw [if_neg h2, if_pos (Or.inr h3), h3]
        by_cases h4 : b = 0
        · simp [h4]
        · simp [h4]
      · have e : (a == 3) = false := by simpa using h3
        rw [if_neg h2, if_neg (show ¬ (a = 2 ∨ a = 3) by omega), e]
        simp only [Bool.false_eq_true, if_false]
        cases inR a 4 17
        · simp
        · by_cases h4 : b = 0
          · simp [h4]
          · simp [h4]

def nd_ (x : S83) : Nd := (x.f0, x.f1, x.f2)
theorem spec_ExprOk_l0 (l : List S83) (hl : l.length ≤ 1048576) : ∀ (n k i : Nat) (d : Int), i + n = l.length → n + 40 ≤ k → 0 ≤ d → d ≤ 2 * i → spec_ExprOk.l0 k l d (i : Int) = some (decide ((l.length : Int) ≤ 30) && exprGo ((l.drop i).map nd_) d) := by
  intro n
  induction n with
  | zero =>
    intro k i d hi hk h0 h1
    obtain ⟨k, rfl⟩ : ∃ m, k = m + 1 := ⟨k - 1, by omega⟩
    simp only [spec_ExprOk.l0]
    rw [if_neg (by omega), List.drop_eq_nil_of_le (by omega)]
    by_cases h : (l.length : Int) ≤ 30
    · rw [if_pos h, decide_eq_true h]
      rfl
    · rw [if_neg h, decide_eq_false h]
      rfl
  | succ n ih =>
    intro k i d hi hk h0 h1
    obtain ⟨k, rfl⟩ : ∃ m, k = m + 1 := ⟨k - 1, by omega⟩
    simp only [spec_ExprOk.l0]
    rw [if_pos (by omega), if_pos (by omega), drop_at z83 l i (by omega)]
    have hrd : rd_T83 l (i : Int) = l.getD i z83 := by unfold rd_T83; rw [Int.toNat_natCast]
    rw [hrd]
    generalize l.getD i z83 = x
    simp only [List.map_cons, exprGo, nd_]
    rw [spec_l2Node_eq _ _ _ (by omega : 30 ≤ k), spec_l2Takes_eq]
    simp only [Option.bind_some]
    have ht := takes_in x.f0
    by_cases c1 : nodeOk (x.f0, x.f1, x.f2) = true
    · rw [if_pos c1, c1]
      by_cases c2 : takes x.f0 > d
      · rw [if_pos c2, decide_eq_false (show ¬ takes x.f0 ≤ d by omega)]
        simp
      · rw [if_neg c2, decide_eq_true (show takes x.f0 ≤ d by omega), w64 (n := d - takes x.f0) (by omega) (by omega), w64 (n := d - takes x.f0 + 1) (by omega) (by omega), up1 (by omega : i < l.length) (by omega)]
        have := ih k (i + 1) (d - takes x.f0 + 1) (by omega) (by omega) (by omega) (by omega)
        rw [this]
        simp
    · rw [if_neg c1]
      simp [c1]
theorem spec_ExprOk_eq (l : List S83) (hl : l.length ≤ 1048576) {k : Nat} (hk : l.length + 40 ≤ k) : spec_ExprOk.f k l = some (exprOk (l.map nd_)) := by
  unfold spec_ExprOk.f exprOk
  have := spec_ExprOk_l0 l hl l.length k 0 0 (by omega) (by omega) (by omega) (by omega)
  rw [show ((0 : Nat) : Int) = 0 from rfl] at this
  rw [this]
  simp

--NEEDS spec_ExprOk
theorem impl_ExprOk_l0 (l : List S83) (hl : l.length ≤ 30) : ∀ (n k i : Nat) (d : Int), i + n = l.length → n + 40 ≤ k → 0 ≤ d → d ≤ i → impl_ExprOk.l0 k d l (l.length : Int) (i : Int) = some (exprGo ((l.drop i).map nd_) d) := by
  intro n
  induction n with
  | zero =>
    intro k i d hi hk h0 h1
    obtain ⟨k, rfl⟩ : ∃ m, k = m + 1 := ⟨k - 1, by omega⟩
    simp only [impl_ExprOk.l0]
    rw [if_neg (by omega), List.drop_eq_nil_of_le (by omega)]
    rfl
  | succ n ih =>
    intro k i d hi hk h0 h1
    obtain ⟨k, rfl⟩ : ∃ m, k = m + 1 := ⟨k - 1, by omega⟩
    simp only [impl_ExprOk.l0]
    rw [if_pos (by omega), if_pos (by omega), if_pos (by omega), drop_at z83 l i (by omega)]
    have hrd : rd_T83 l (i : Int) = l.getD i z83 := by unfold rd_T83; rw [Int.toNat_natCast]
    rw [hrd]
    generalize l.getD i z83 = x
    simp only [List.map_cons, exprGo, nd_]
    rw [impl_isNode_eq _ _ _ (by omega : 30 ≤ k), up1 (by omega : i < l.length) (by omega)]
    simp only [Option.bind_some]
    by_cases c1 : nodeOk (x.f0, x.f1, x.f2) = true
    · have hk1 := nodeOk_kind c1
      rw [if_pos c1, c1]
      simp only at hk1
      by_cases c2 : x.f0 ≤ 3
      · have ht : takes x.f0 = 0 := by unfold takes; rw [inR_pos (by omega) (by omega)]; rfl
        rw [if_pos c2, ht, w64 (n := d + 1) (by omega) (by omega), ih k (i + 1) (d + 1) (by omega) (by omega) (by omega) (by omega), decide_eq_true (show (0 : Int) ≤ d by omega), show d - 0 + 1 = d + 1 from by omega]
        simp
      · by_cases c3 : x.f0 ≤ 7
        · have ht : takes x.f0 = 1 := by unfold takes; rw [inR_neg (by omega), inR_pos (by omega) (by omega)]; rfl
          rw [if_neg c2, if_pos c3, ht]
          by_cases c4 : d < 1
          · rw [if_pos c4, decide_eq_false (show ¬ (1 : Int) ≤ d by omega)]
            simp
          · rw [if_neg c4, decide_eq_true (show (1 : Int) ≤ d by omega), ih k (i + 1) d (by omega) (by omega) (by omega) (by omega), show d - 1 + 1 = d from by omega]
            simp
        · have ht : takes x.f0 = 2 := by unfold takes; rw [inR_neg (by omega), inR_neg (by omega), inR_pos (by omega) (by omega)]; rfl
          rw [if_neg c2, if_neg c3, ht]
          by_cases c4 : d < 2
          · rw [if_pos c4, decide_eq_false (show ¬ (2 : Int) ≤ d by omega)]
            simp
          · rw [if_neg c4, decide_eq_true (show (2 : Int) ≤ d by omega), w64 (n := d - 1) (by omega) (by omega), ih k (i + 1) (d - 1) (by omega) (by omega) (by omega) (by omega), show d - 2 + 1 = d - 1 from by omega]
            simp
    · rw [if_neg c1]
      simp [c1]
theorem impl_ExprOk_eq (l : List S83) {k : Nat} (hk : 80 ≤ k) : impl_ExprOk.f k l = some (exprOk (l.map nd_)) := by
  unfold impl_ExprOk.f exprOk
  by_cases h : (l.length : Int) > 30
  · rw [if_pos h, decide_eq_false (show ¬ ((l.map nd_).length : Int) ≤ 30 by rw [List.length_map]; omega)]
    rfl
  · rw [if_neg h, decide_eq_true (show ((l.map nd_).length : Int) ≤ 30 by rw [List.length_map]; omega)]
    have := impl_ExprOk_l0 l (by omega) l.length k 0 0 (by omega) (by omega) (by omega) (by omega)
    rw [show ((0 : Nat) : Int) = 0 from rfl] at this
    rw [this]
    simp

open Go.Proofs.Ytnchhhafdkpmaaa.Kin in
theorem FnExactExprOk (l : List S81) (h : l.length ≤ maxLen ∧ ∀ x ∈ l, okT81 x) : ∃ k, laws_FnExactExprOk.f k l = some true := by
  refine ⟨2000000, ?_⟩
  unfold laws_FnExactExprOk.f
  obtain ⟨t, ht, hle, hlen⟩ := laws_szENodeS_some l h.1 (fun x hx => (h.2 x hx).2.2) (k := 2000000) (left := 1048576) (by decide) (by decide) (by decide)
  rw [ht]
  simp only [Option.bind_some]
  by_cases hc : t < 0
  · rw [if_pos hc]
  · rw [if_neg hc]
    have hl := hlen (by omega)
    have hm : (l.map nodeI).length ≤ 1048576 := by simpa using hl
    rw [laws_toENodeS_eq l hl (by decide)]
    simp only [Option.bind_some]
    rw [spec_ExprOk_eq _ hm (by simp; omega), impl_ExprOk_eq _ (by decide)]
    simp only [Option.bind_some]
    rw [laws_eqENodeS_same _ hm (by decide)]
    simp

end Go.Proofs.Ytnchhhafdkpmaaa.Pure
