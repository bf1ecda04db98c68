/-
The law FnExactExprText, told as a plain function of the nodes, answers true for every input.
-/
import Derived.Test.YtffmpmgnkhlmdaaDoorPFnExactExprTextx6
import Derived.Test.YtffmpmgnkhlmdaaDoorAidA
import Derived.Test.YtffmpmgnkhlmdaaDoorAidB
import Derived.Test.YtffmpmgnkhlmdaaDoorAidC
import Derived.Test.YtffmpmgnkhlmdaaDoorAidH
import Derived.Test.YtffmpmgnkhlmdaaDoorAidJ
import Derived.Test.YtffmpmgnkhlmdaaDoorKinFnExactExprText
namespace Go.Proofs.YtffmpmgnkhlmdaaDoor.Pure
open Go.RowKit Go.Proofs.YtffmpmgnkhlmdaaDoor.Aid Go.Proofs.YtffmpmgnkhlmdaaDoor.PFnExactExprText Go.Proofs.YtffmpmgnkhlmdaaDoorW.PrintWords Go.Proofs.YtffmpmgnkhlmdaaDoorW.PrintLast Go.Proofs.YtffmpmgnkhlmdaaDoorW.PrintMore
set_option linter.unusedVariables false
set_option linter.unusedSimpArgs false

theorem spec_l1In_eq (a b c : Int) : spec_l1In.f a b c = some (inR a b c) := by
  unfold spec_l1In.f inR
  by_cases h : a ≥ b
  · rw [if_pos h, decide_eq_true (show b ≤ a from h)]
    rfl
  · rw [if_neg h, decide_eq_false (show ¬ b ≤ a from h)]
    rfl

theorem impl_within_eq (a b c : Int) : impl_within.f a b c = some (inR a b c) := by
  unfold impl_within.f inR
  by_cases h : a ≥ b
  · rw [if_pos h, decide_eq_true (show b ≤ a from h)]
    rfl
  · rw [if_neg h, decide_eq_false (show ¬ b ≤ a from h)]
    rfl

theorem impl_isWord_eq (a : Int) : impl_isWord.f a = some (inR a 0 65535) := by
  unfold impl_isWord.f
  rw [impl_within_eq]
  rfl

theorem spec_l1Letter_eq (c : Int) : spec_l1Letter.f c = some (isLet c) := by
  unfold spec_l1Letter.f isLet inR
  by_cases h1 : c ≥ 97
  · by_cases h2 : c ≤ 122
    · simp [h1, h2]
    · by_cases h3 : c = 95
      · simp [h3]
      · simp [h1, h2, h3]
  · by_cases h3 : c = 95
    · simp [h3]
    · simp [h1, h3]

theorem impl_isDigit_eq (c : Int) : impl_isDigit.f c = some (inR c 48 57) := by
  unfold impl_isDigit.f inR
  by_cases h : c ≥ 48
  · rw [if_pos h, decide_eq_true (show 48 ≤ c from h)]
    rfl
  · rw [if_neg h, decide_eq_false (show ¬ 48 ≤ c from h)]
    rfl

theorem impl_isSmall_eq (c : Int) : impl_isSmall.f c = some (inR c 97 122) := by
  unfold impl_isSmall.f inR
  by_cases h : c ≥ 97
  · rw [if_pos h, decide_eq_true (show 97 ≤ c from h)]
    rfl
  · rw [if_neg h, decide_eq_false (show ¬ 97 ≤ c from h)]
    rfl

theorem spec_NameOk_l0 (s : ByteArray) (hs : s.size ≤ 140737488351232) : ∀ (n k i : Nat), i + n = s.size → n < k → spec_NameOk.l0 k s (i : Int) = some (allB isNam s n i) := by
  intro n
  induction n with
  | zero =>
    intro k i hi hk
    obtain ⟨k, rfl⟩ : ∃ m, k = m + 1 := ⟨k - 1, by omega⟩
    simp only [spec_NameOk.l0]
    rw [if_neg (by omega)]
    rfl
  | succ n ih =>
    intro k i hi hk
    obtain ⟨k, rfl⟩ : ∃ m, k = m + 1 := ⟨k - 1, by omega⟩
    have hn := ih k (i + 1) (by omega) (by omega)
    have hw : wrap64 ((i : Int) + 1) = ((i + 1 : Nat) : Int) := by rw [w64 (by omega) (by omega)]; omega
    simp only [spec_NameOk.l0]
    rw [if_pos (by omega), if_pos (by omega), spec_l1Letter_eq, hw, hn]
    simp only [Option.bind_some, allB, isNam, inR]
    by_cases h1 : isLet (bt s i) = true
    · simp [h1]
    · by_cases h2 : bt s i ≥ 48
      · by_cases h3 : bt s i ≤ 57
        · simp [h1, h2, h3]
        · simp [h1, h2, h3]
      · simp [h1, h2]
theorem spec_NameOk_eq (s : ByteArray) {k : Nat} (hk : 20 ≤ k) : spec_NameOk.f k s = some (nameOk s) := by
  unfold spec_NameOk.f nameOk
  obtain ⟨k, rfl⟩ : ∃ m, k = m + 1 := ⟨k - 1, by omega⟩
  simp only [spec_NameOk.j0]
  by_cases h1 : (s.size : Int) < 1
  · rw [if_pos h1, inR_neg (by omega)]
    rfl
  · by_cases h2 : (s.size : Int) > 16
    · rw [if_neg h1, if_pos h2, inR_neg (by omega)]
      rfl
    · have hl := spec_NameOk_l0 s (by omega) s.size k 0 (by omega) (by omega)
      rw [if_neg h1, if_neg h2, inR_pos (by omega) (by omega), if_pos (by omega), spec_l1Letter_eq]
      simp only [Option.bind_some, Bool.true_and]
      rw [show ((0 : Nat) : Int) = 0 from rfl] at hl
      rw [hl]
      obtain ⟨n, hn⟩ : ∃ n, s.size = n + 1 := ⟨s.size - 1, by omega⟩
      by_cases h3 : isLet (bt s 0) = true
      · rw [h3, isLet_dig h3]
        simp
      · have h3' : isLet (bt s 0) = false := by simpa using h3
        rw [h3', hn]
        simp only [Bool.not_false, if_true, allB]
        rw [show bt s ((0 : Nat) : Int) = bt s 0 from rfl]
        unfold isNam
        rw [h3']
        cases inR (bt s 0) 48 57 <;> simp

theorem impl_NameOk_l0 (s : ByteArray) (hs : s.size ≤ 140737488351232) : ∀ (n k i : Nat), i + n = s.size → n < k → impl_NameOk.l0 k s (s.size : Int) (i : Int) = some (allB isNam s n i) := by
  intro n
  induction n with
  | zero =>
    intro k i hi hk
    obtain ⟨k, rfl⟩ : ∃ m, k = m + 1 := ⟨k - 1, by omega⟩
    simp only [impl_NameOk.l0]
    rw [if_neg (by omega)]
    rfl
  | succ n ih =>
    intro k i hi hk
    obtain ⟨k, rfl⟩ : ∃ m, k = m + 1 := ⟨k - 1, by omega⟩
    have hn := ih k (i + 1) (by omega) (by omega)
    have hw : wrap64 ((i : Int) + 1) = ((i + 1 : Nat) : Int) := by rw [w64 (by omega) (by omega)]; omega
    simp only [impl_NameOk.l0]
    rw [if_pos (by omega), if_pos (by omega), if_pos (by omega), impl_isSmall_eq, impl_isDigit_eq, hw, hn]
    simp only [Option.bind_some, allB, isNam, isLet]
    by_cases h1 : inR (bt s i) 97 122 = true
    · simp [h1]
    · by_cases h2 : inR (bt s i) 48 57 = true
      · simp [h1, h2]
      · by_cases h3 : bt s i = 95
        · simp [h1, h2, h3]
        · by_cases h4 : bt s i = 46
          · simp [h1, h2, h3, h4]
          · simp [h1, h2, h3, h4]
theorem impl_NameOk_eq (s : ByteArray) {k : Nat} (hk : 20 ≤ k) : impl_NameOk.f k s = some (nameOk s) := by
  unfold impl_NameOk.f nameOk
  obtain ⟨k, rfl⟩ : ∃ m, k = m + 1 := ⟨k - 1, by omega⟩
  simp only [impl_NameOk.j0, impl_within_eq, Option.bind_some]
  by_cases h1 : 1 ≤ (s.size : Int) ∧ (s.size : Int) ≤ 16
  · have hl := impl_NameOk_l0 s (by omega) s.size k 0 (by omega) (by omega)
    rw [inR_pos h1.1 h1.2, if_pos rfl, if_pos (by omega), impl_isDigit_eq]
    simp only [Option.bind_some, Bool.true_and]
    rw [show ((0 : Nat) : Int) = 0 from rfl] at hl
    rw [hl]
    cases inR (bt s 0) 48 57 <;> simp
  · rw [inR_neg h1]
    rfl

theorem laws_szENodeS_l0 (l : List S52) (hl : l.length ≤ 1048576) (hn : ∀ x ∈ l, x.f2.size ≤ maxLen) : ∀ (n k i : Nat) (left : Int), i + n = l.length → n < k → 0 ≤ left → left ≤ 1048576 → ∃ t, laws_szENodeS.l0 k l left (i : Int) = some t ∧ t ≤ left := by
  intro n
  induction n with
  | zero =>
    intro k i left hi hk h0 h1
    obtain ⟨k, rfl⟩ : ∃ m, k = m + 1 := ⟨k - 1, by omega⟩
    refine ⟨left, ?_, Int.le_refl _⟩
    simp only [laws_szENodeS.l0]
    rw [if_neg (by omega)]
  | succ n ih =>
    intro k i left hi hk h0 h1
    obtain ⟨k, rfl⟩ : ∃ m, k = m + 1 := ⟨k - 1, by omega⟩
    simp only [laws_szENodeS.l0]
    rw [if_pos (by omega), if_pos (by omega), up1 (by omega : i < l.length) (by omega)]
    have hx : (rd_T52 l (i : Int)).f2.size ≤ maxLen := hn _ (by unfold rd_T52; exact getD_mem _ _ _ (by simp; omega))
    unfold maxLen at hx
    unfold laws_szENode.f
    generalize (rd_T52 l (i : Int)).f2.size = z at hx ⊢
    rw [w64 (by omega) (by omega)]
    by_cases hc : left - (z : Int) < 0
    · rw [if_pos hc]
      exact ⟨-1, by simp, by omega⟩
    · rw [if_neg hc]
      simp only [Option.bind_some]
      rw [if_neg hc]
      obtain ⟨t, ht, hle⟩ := ih k (i + 1) (left - z) (by omega) (by omega) (by omega) (by omega)
      exact ⟨t, ht, by omega⟩
theorem laws_szENodeS_some (l : List S52) (hl : l.length ≤ maxLen) (hn : ∀ x ∈ l, x.f2.size ≤ maxLen) {k : Nat} {left : Int} (h0 : 0 ≤ left) (h1 : left ≤ 1048576) (hk : 1048577 ≤ k) :
    ∃ t, laws_szENodeS.f k l left = some t ∧ t ≤ left ∧ (0 ≤ t → l.length ≤ 1048576) := by
  unfold maxLen at hl
  unfold laws_szENodeS.f
  rw [w64 (by omega) (by omega)]
  by_cases hc : left - (l.length : Int) < 0
  · rw [if_pos hc]
    exact ⟨-1, rfl, by omega, by omega⟩
  · rw [if_neg hc]
    obtain ⟨t, ht, hle⟩ := laws_szENodeS_l0 l (by omega) hn l.length k 0 (left - l.length) (by omega) (by omega) (by omega) (by omega)
    exact ⟨t, ht, by omega, fun _ => by omega⟩

def nodeI (x : S52) : S54 := ⟨x.f0, x.f1, x.f2⟩
def nd (x : S54) : Nd := (x.f0, x.f1, x.f2)
theorem laws_toENodeS_l0 (l : List S52) (hl : l.length ≤ 1048576) : ∀ (n k i : Nat) (y : List S54), i + n = l.length → n < k → y.length = l.length → y.take i = (l.map nodeI).take i → laws_toENodeS.l0 k l y (i : Int) = some (l.map nodeI) := by
  intro n
  induction n with
  | zero =>
    intro k i y hi hk hy ht
    obtain ⟨k, rfl⟩ : ∃ m, k = m + 1 := ⟨k - 1, by omega⟩
    simp only [laws_toENodeS.l0]
    rw [if_neg (by omega)]
    obtain rfl : i = l.length := by omega
    rw [fill_end nodeI l y hy ht]
  | succ n ih =>
    intro k i y hi hk hy ht
    obtain ⟨k, rfl⟩ : ∃ m, k = m + 1 := ⟨k - 1, by omega⟩
    simp only [laws_toENodeS.l0, laws_toENode.f, Option.bind_some]
    rw [if_pos (by omega), if_pos (by omega), if_pos (by omega), up1 (by omega : i < l.length) (by omega)]
    obtain ⟨h1, h2⟩ := fill_step z52 nodeI l y i (by omega) hy ht
    exact ih k (i + 1) _ (by omega) (by omega) h1 h2
theorem laws_toENodeS_eq (l : List S52) (hl : l.length ≤ 1048576) {k : Nat} (hk : 1048577 ≤ k) : laws_toENodeS.f k l = some (l.map nodeI) := by
  unfold laws_toENodeS.f
  rw [if_pos (by omega), if_pos (by omega)]
  exact laws_toENodeS_l0 l hl l.length k 0 _ (by omega) (by omega) (by simp) (by simp)

theorem laws_eqENodeS_l0 (l : List S54) (hl : l.length ≤ 1048576) : ∀ (n k i : Nat), i + n = l.length → n < k → laws_eqENodeS.l0 k l l (i : Int) = some true := by
  intro n
  induction n with
  | zero =>
    intro k i hi hk
    obtain ⟨k, rfl⟩ : ∃ m, k = m + 1 := ⟨k - 1, by omega⟩
    simp only [laws_eqENodeS.l0]
    rw [if_neg (by omega)]
  | succ n ih =>
    intro k i hi hk
    obtain ⟨k, rfl⟩ : ∃ m, k = m + 1 := ⟨k - 1, by omega⟩
    simp only [laws_eqENodeS.l0, laws_eqENode.f, if_true, Option.bind_some]
    rw [if_pos (by omega), if_pos (by omega), if_pos (by omega), up1 (by omega : i < l.length) (by omega)]
    exact ih k (i + 1) (by omega) (by omega)
theorem laws_eqENodeS_same (l : List S54) (hl : l.length ≤ 1048576) {k : Nat} (hk : 1048577 ≤ k) : laws_eqENodeS.f k l l = some true := by
  unfold laws_eqENodeS.f
  rw [if_pos rfl]
  exact laws_eqENodeS_l0 l hl l.length k 0 (by omega) (by omega)

theorem spec_l2Takes_eq (a : Int) : spec_l2Takes.f a = some (takes a) := by
  unfold spec_l2Takes.f takes
  simp only [spec_l1In_eq, Option.bind_some]
  split
  · rfl
  · split
    · rfl
    · split <;> rfl

theorem spec_l2Node_eq (a b : Int) (s : ByteArray) {k : Nat} (hk : 30 ≤ k) : spec_l2Node.f k a b s = some (nodeOk (a, b, s)) := by
  obtain ⟨k, rfl⟩ : ∃ m, k = m + 1 := ⟨k - 1, by omega⟩
  unfold spec_l2Node.f nodeOk
  simp only [spec_l1In_eq, spec_l2Node.j0, spec_l2Takes_eq, spec_NameOk_eq s (by omega : 20 ≤ k), Option.bind_some]
  by_cases h1 : a = 1
  · rw [if_pos h1, if_pos h1]
    cases inR b 0 65535 <;> simp
  · rw [if_neg h1, if_neg h1]
    by_cases h2 : a = 2
    · rw [if_pos h2, if_pos (show a = 2 ∨ a = 3 from Or.inl h2), h2]
      by_cases h4 : b = 0
      · simp [h4]
      · simp [h4]
    · by_cases h3 : a = 3
      · rw [if_neg h2, if_pos (Or.inr h3), h3]
        by_cases h4 : b = 0
        · simp [h4]
        · simp [h4]
      · have e : (a == 3) = false := by simpa using h3
        rw [if_neg h2, if_neg (show ¬ (a = 2 ∨ a = 3) by omega), e]
        simp only [Bool.false_eq_true, if_false]
        by_cases h4 : b = 0
        · by_cases h5 : s.toList = []
          · rw [if_pos h4, if_pos h5, h4, h5]
            simp [takes, inR]
            by_cases h6 : 4 ≤ a ∧ a ≤ 17
            · by_cases h7 : a ≤ 7
              · rw [if_neg (by omega), if_pos (by omega)]
                simp
                omega
              · rw [if_neg (by omega), if_neg (by omega), if_pos (by omega)]
                simp
                omega
            · rw [if_neg (by omega), if_neg (by omega), if_neg (by omega)]
              simp
              omega
          · simp [h4, h5]
        · simp [h4]

theorem impl_isNode_eq (a b : Int) (s : ByteArray) {k : Nat} (hk : 30 ≤ k) : impl_isNode.f k a b s = some (nodeOk (a, b, s)) := by
  obtain ⟨k, rfl⟩ : ∃ m, k = m + 1 := ⟨k - 1, by omega⟩
  unfold impl_isNode.f nodeOk
  simp only [impl_isWord_eq, impl_isNode.j0, impl_within_eq, impl_NameOk_eq s (by omega : 20 ≤ k), Option.bind_some]
  by_cases h1 : a = 1
  · rw [if_pos h1, if_pos h1]
    cases inR b 0 65535 <;> simp
  · rw [if_neg h1, if_neg h1]
    by_cases h2 : a = 2
    · rw [if_pos h2, if_pos (show a = 2 ∨ a = 3 from Or.inl h2)]
      by_cases h4 : b = 0
      · simp [h4]
      · simp [h4]
    · by_cases h3 : a = 3
      · rw [if_neg h2, if_pos (Or.inr h3), h3]
        by_cases h4 : b = 0
        · simp [h4]
        · simp [h4]
      · have e : (a == 3) = false := by simpa using h3
        rw [if_neg h2, if_neg (show ¬ (a = 2 ∨ a = 3) by omega), e]
        simp only [Bool.false_eq_true, if_false]
        cases inR a 4 17
        · simp
        · by_cases h4 : b = 0
          · simp [h4]
          · simp [h4]

def nd_ (x : S54) : Nd := (x.f0, x.f1, x.f2)
theorem spec_ExprOk_l0 (l : List S54) (hl : l.length ≤ 1048576) : ∀ (n k i : Nat) (d : Int), i + n = l.length → n + 40 ≤ k → 0 ≤ d → d ≤ 2 * i → spec_ExprOk.l0 k l d (i : Int) = some (decide ((l.length : Int) ≤ 30) && exprGo ((l.drop i).map nd_) d) := by
  intro n
  induction n with
  | zero =>
    intro k i d hi hk h0 h1
    obtain ⟨k, rfl⟩ : ∃ m, k = m + 1 := ⟨k - 1, by omega⟩
    simp only [spec_ExprOk.l0]
    rw [if_neg (by omega), List.drop_eq_nil_of_le (by omega)]
    by_cases h : (l.length : Int) ≤ 30
    · rw [if_pos h, decide_eq_true h]
      rfl
    · rw [if_neg h, decide_eq_false h]
      rfl
  | succ n ih =>
    intro k i d hi hk h0 h1
    obtain ⟨k, rfl⟩ : ∃ m, k = m + 1 := ⟨k - 1, by omega⟩
    simp only [spec_ExprOk.l0]
    rw [if_pos (by omega), if_pos (by omega), drop_at z54 l i (by omega)]
    have hrd : rd_T54 l (i : Int) = l.getD i z54 := by unfold rd_T54; rw [Int.toNat_natCast]
    rw [hrd]
    generalize l.getD i z54 = x
    simp only [List.map_cons, exprGo, nd_]
    rw [spec_l2Node_eq _ _ _ (by omega : 30 ≤ k), spec_l2Takes_eq]
    simp only [Option.bind_some]
    have ht := takes_in x.f0
    by_cases c1 : nodeOk (x.f0, x.f1, x.f2) = true
    · rw [if_pos c1, c1]
      by_cases c2 : takes x.f0 > d
      · rw [if_pos c2, decide_eq_false (show ¬ takes x.f0 ≤ d by omega)]
        simp
      · rw [if_neg c2, decide_eq_true (show takes x.f0 ≤ d by omega), w64 (n := d - takes x.f0) (by omega) (by omega), w64 (n := d - takes x.f0 + 1) (by omega) (by omega), up1 (by omega : i < l.length) (by omega)]
        have := ih k (i + 1) (d - takes x.f0 + 1) (by omega) (by omega) (by omega) (by omega)
        rw [this]
        simp
    · rw [if_neg c1]
      simp [c1]
theorem spec_ExprOk_eq (l : List S54) (hl : l.length ≤ 1048576) {k : Nat} (hk : l.length + 40 ≤ k) : spec_ExprOk.f k l = some (exprOk (l.map nd_)) := by
  unfold spec_ExprOk.f exprOk
  have := spec_ExprOk_l0 l hl l.length k 0 0 (by omega) (by omega) (by omega) (by omega)
  rw [show ((0 : Nat) : Int) = 0 from rfl] at this
  rw [this]
  simp

--NEEDS spec_ExprOk
theorem impl_ExprOk_l0 (l : List S54) (hl : l.length ≤ 30) : ∀ (n k i : Nat) (d : Int), i + n = l.length → n + 40 ≤ k → 0 ≤ d → d ≤ i → impl_ExprOk.l0 k d l (l.length : Int) (i : Int) = some (exprGo ((l.drop i).map nd_) d) := by
  intro n
  induction n with
  | zero =>
    intro k i d hi hk h0 h1
    obtain ⟨k, rfl⟩ : ∃ m, k = m + 1 := ⟨k - 1, by omega⟩
    simp only [impl_ExprOk.l0]
    rw [if_neg (by omega), List.drop_eq_nil_of_le (by omega)]
    rfl
  | succ n ih =>
    intro k i d hi hk h0 h1
    obtain ⟨k, rfl⟩ : ∃ m, k = m + 1 := ⟨k - 1, by omega⟩
    simp only [impl_ExprOk.l0]
    rw [if_pos (by omega), if_pos (by omega), if_pos (by omega), drop_at z54 l i (by omega)]
    have hrd : rd_T54 l (i : Int) = l.getD i z54 := by unfold rd_T54; rw [Int.toNat_natCast]
    rw [hrd]
    generalize l.getD i z54 = x
    simp only [List.map_cons, exprGo, nd_]
    rw [impl_isNode_eq _ _ _ (by omega : 30 ≤ k), up1 (by omega : i < l.length) (by omega)]
    simp only [Option.bind_some]
    by_cases c1 : nodeOk (x.f0, x.f1, x.f2) = true
    · have hk1 := nodeOk_kind c1
      rw [if_pos c1, c1]
      simp only at hk1
      by_cases c2 : x.f0 ≤ 3
      · have ht : takes x.f0 = 0 := by unfold takes; rw [inR_pos (by omega) (by omega)]; rfl
        rw [if_pos c2, ht, w64 (n := d + 1) (by omega) (by omega), ih k (i + 1) (d + 1) (by omega) (by omega) (by omega) (by omega), decide_eq_true (show (0 : Int) ≤ d by omega), show d - 0 + 1 = d + 1 from by omega]
        simp
      · by_cases c3 : x.f0 ≤ 7
        · have ht : takes x.f0 = 1 := by unfold takes; rw [inR_neg (by omega), inR_pos (by omega) (by omega)]; rfl
          rw [if_neg c2, if_pos c3, ht]
          by_cases c4 : d < 1
          · rw [if_pos c4, decide_eq_false (show ¬ (1 : Int) ≤ d by omega)]
            simp
          · rw [if_neg c4, decide_eq_true (show (1 : Int) ≤ d by omega), ih k (i + 1) d (by omega) (by omega) (by omega) (by omega), show d - 1 + 1 = d from by omega]
            simp
        · have ht : takes x.f0 = 2 := by unfold takes; rw [inR_neg (by omega), inR_neg (by omega), inR_pos (by omega) (by omega)]; rfl
          rw [if_neg c2, if_neg c3, ht]
          by_cases c4 : d < 2
          · rw [if_pos c4, decide_eq_false (show ¬ (2 : Int) ≤ d by omega)]
            simp
          · rw [if_neg c4, decide_eq_true (show (2 : Int) ≤ d by omega), w64 (n := d - 1) (by omega) (by omega), ih k (i + 1) (d - 1) (by omega) (by omega) (by omega) (by omega), show d - 2 + 1 = d - 1 from by omega]
            simp
    · rw [if_neg c1]
      simp [c1]
theorem impl_ExprOk_eq (l : List S54) {k : Nat} (hk : 80 ≤ k) : impl_ExprOk.f k l = some (exprOk (l.map nd_)) := by
  unfold impl_ExprOk.f exprOk
  by_cases h : (l.length : Int) > 30
  · rw [if_pos h, decide_eq_false (show ¬ ((l.map nd_).length : Int) ≤ 30 by rw [List.length_map]; omega)]
    rfl
  · rw [if_neg h, decide_eq_true (show ((l.map nd_).length : Int) ≤ 30 by rw [List.length_map]; omega)]
    have := impl_ExprOk_l0 l (by omega) l.length k 0 0 (by omega) (by omega) (by omega) (by omega)
    rw [show ((0 : Nat) : Int) = 0 from rfl] at this
    rw [this]
    simp

theorem dig_nums {x : Nat} (h : x < 10) : strOfNums [(wrap64 (48 + (x : Int))) % 256] = ⟨[UInt8.ofNat (48 + x)].toArray⟩ := by
  unfold strOfNums
  rw [w64 (by omega) (by omega)]
  simp only [List.map_cons, List.map_nil]
  rw [show ((48 + (x : Int)) % 256).toNat = 48 + x by omega]
theorem dec_l0 : ∀ (m k x : Nat) (s : List UInt8), x < 10 ^ (m + 1) → m < k → m ≤ 4 → s.length + m ≤ 1000 → spec_l1Dec.l0 k (x : Int) ⟨s.toArray⟩ = some ⟨(Go.Lib.decDigits x ++ s).toArray⟩ := by
  have small : ∀ (k x : Nat) (s : List UInt8), x < 10 → 0 < k → s.length ≤ 1000 → spec_l1Dec.l0 k (x : Int) ⟨s.toArray⟩ = some ⟨(Go.Lib.decDigits x ++ s).toArray⟩ := by
    intro k x s hx hk hs
    obtain ⟨k, rfl⟩ : ∃ z, k = z + 1 := ⟨k - 1, by omega⟩
    rw [spec_l1Dec.l0, if_neg (by omega)]
    simp only [Option.bind_some]
    rw [dig_nums hx, if_pos (by rw [bytes_size, bytes_size]; simp; omega), bytes_append, Go.Lib.decDigits, dif_pos hx]
  intro m
  induction m with
  | zero => intro k x s hx hk _ hs; exact small k x s (by simpa using hx) hk (by omega)
  | succ m ih =>
    intro k x s hx hk hm hs
    by_cases h10 : x < 10
    · exact small k x s h10 (by omega) (by omega)
    · obtain ⟨k, rfl⟩ : ∃ z, k = z + 1 := ⟨k - 1, by omega⟩
      have hbig : x < 100000 := by
        have h4 : m = 0 ∨ m = 1 ∨ m = 2 ∨ m = 3 := by omega
        have : 10 ^ (m + 1 + 1) ≤ 100000 := by rcases h4 with rfl | rfl | rfl | rfl <;> decide
        omega
      have hd : x / 10 < 10 ^ (m + 1) := by
        rw [Nat.pow_succ, Nat.mul_comm] at hx
        exact Nat.div_lt_of_lt_mul hx
      rw [spec_l1Dec.l0, if_pos (by omega)]
      simp only [Option.bind_some]
      have e1 : Int.tmod (x : Int) 10 = ((x % 10 : Nat) : Int) := by rw [Int.tmod_eq_emod_of_nonneg (by omega)]; omega
      have e2 : wrap64 (Int.tdiv (x : Int) 10) = ((x / 10 : Nat) : Int) := by rw [Int.tdiv_eq_ediv_of_nonneg (by omega), w64 (by omega) (by omega)]; omega
      rw [e1, e2, dig_nums (by omega), if_pos (by rw [bytes_size, bytes_size]; simp; omega), bytes_append, ih k (x / 10) _ hd (by omega) (by omega) (by simp; omega)]
      conv => rhs; rw [Go.Lib.decDigits, dif_neg h10]
      simp
theorem spec_l1Dec_eq (n : Int) (h : -1000 < n ∧ n < 1000) {k : Nat} (hk : 20 ≤ k) : spec_l1Dec.f k n = some ⟨(Go.Lib.itoa n).toArray⟩ := by
  obtain ⟨k, rfl⟩ : ∃ z, k = z + 2 := ⟨k - 2, by omega⟩
  have pos : ∀ (k x : Nat), x < 1000 → 10 ≤ k → spec_l1Dec.f (k + 1) (x : Int) = some ⟨(Go.Lib.decDigits x).toArray⟩ := by
    intro k x hx hk
    rw [spec_l1Dec.f, if_neg (by omega)]
    have := dec_l0 2 k x [] (by omega) (by omega) (by decide) (by simp)
    rw [List.append_nil] at this
    exact this
  unfold Go.Lib.itoa
  by_cases h0 : n < 0
  · rw [if_pos h0, spec_l1Dec.f, if_pos h0, w64 (by omega) (by omega)]
    have hn : -n = ((n.natAbs : Nat) : Int) := by omega
    rw [hn, pos k n.natAbs (by omega) (by omega)]
    simp only [Option.bind_some]
    have hsz : (⟨(Go.Lib.decDigits n.natAbs).toArray⟩ : ByteArray).size ≤ 1000 := by
      have h1 : n.natAbs < 1000 := by omega
      have : ∀ x, x < 1000 → (Go.Lib.decDigits x).length ≤ 3 := by
        intro x hx
        rw [Go.Lib.decDigits]
        split
        · simp
        · rw [Go.Lib.decDigits]
          split
          · simp
          · rw [Go.Lib.decDigits, dif_pos (by omega)]
            simp
      rw [bytes_size]
      have := this _ h1
      omega
    rw [if_pos (by omega), show (⟨#[45]⟩ : ByteArray) = ⟨[45].toArray⟩ from rfl, bytes_append]
    rfl
  · rw [if_neg h0]
    obtain ⟨x, rfl⟩ : ∃ x : Nat, n = (x : Int) := ⟨n.toNat, by omega⟩
    rw [Int.toNat_natCast]
    exact pos (k + 1) x (by omega) (by omega)
theorem spec_l1Dec_pos (x : Nat) (h : x < 100000) {k : Nat} (hk : 20 ≤ k) : spec_l1Dec.f k (x : Int) = some ⟨(Go.Lib.itoa (x : Int)).toArray⟩ := by
  obtain ⟨k, rfl⟩ : ∃ z, k = z + 1 := ⟨k - 1, by omega⟩
  rw [spec_l1Dec.f, if_neg (by omega)]
  have := dec_l0 4 k x [] (by omega) (by omega) (by decide) (by simp)
  rw [List.append_nil] at this
  unfold Go.Lib.itoa
  rw [if_neg (by omega), Int.toNat_natCast]
  exact this

/-- The words of the ops, from kind 4 on. -/
def opW : List (List UInt8) := [[110, 101, 103], [110, 111, 116], [104, 105, 103, 104], [108, 111, 119], [43], [45], [42], [47], [37], [38], [94], [124], [60, 60], [62, 62]]
/-- The text of a node. -/
def nodeT3 (κ n : Int) (s : ByteArray) : List UInt8 := if κ = 1 then Go.Lib.itoa n else if κ = 2 then s.data.toList else if κ = 3 then 35 :: s.data.toList else opW.getD (κ - 4).toNat []
def nodeT (x : Nd) : List UInt8 := nodeT3 x.1 x.2.1 x.2.2
theorem dec5 (x : Nat) (hx : x < 100000) : (Go.Lib.decDigits x).length ≤ 5 := by
  have h : ∀ (m x : Nat), x < 10 ^ (m + 1) → (Go.Lib.decDigits x).length ≤ m + 1 := by
    intro m
    induction m with
    | zero =>
      intro x hx
      rw [Go.Lib.decDigits, dif_pos (by simpa using hx)]
      simp
    | succ m ih =>
      intro x hx
      rw [Go.Lib.decDigits]
      split
      · simp
      · have := ih (x / 10) (by
          rw [Nat.pow_succ, Nat.mul_comm] at hx
          exact Nat.div_lt_of_lt_mul hx)
        simp only [List.length_append, List.length_singleton]
        omega
  exact h 4 x (by omega)
theorem opW_cases {κ : Int} (h : 4 ≤ κ ∧ κ ≤ 17) : κ = 4 ∨ κ = 5 ∨ κ = 6 ∨ κ = 7 ∨ κ = 8 ∨ κ = 9 ∨ κ = 10 ∨ κ = 11 ∨ κ = 12 ∨ κ = 13 ∨ κ = 14 ∨ κ = 15 ∨ κ = 16 ∨ κ = 17 := by omega
theorem nodeOk_in {x : Nd} (h : nodeOk x = true) : (x.1 = 1 ∧ 0 ≤ x.2.1 ∧ x.2.1 ≤ 65535) ∨ ((x.1 = 2 ∨ x.1 = 3) ∧ x.2.2.size ≤ 16) ∨ (4 ≤ x.1 ∧ x.1 ≤ 17) := by
  unfold nodeOk at h
  by_cases h1 : x.1 = 1
  · rw [if_pos h1, Bool.and_eq_true, inR_iff] at h
    exact .inl ⟨h1, h.1⟩
  · by_cases h2 : x.1 = 2 ∨ x.1 = 3
    · rw [if_neg h1, if_pos h2, Bool.and_eq_true] at h
      have := h.2
      unfold nameOk at this
      rw [Bool.and_eq_true, inR_iff] at this
      exact .inr (.inl ⟨h2, by omega⟩)
    · rw [if_neg h1, if_neg h2, Bool.and_eq_true, inR_iff] at h
      exact .inr (.inr h.1)
theorem nodeT_len {x : Nd} (h : nodeOk x = true) : (nodeT x).length ≤ 17 := by
  unfold nodeT nodeT3
  rcases nodeOk_in h with ⟨h1, h2, h3⟩ | ⟨h1, h2⟩ | h1
  · rw [if_pos h1]
    unfold Go.Lib.itoa
    rw [if_neg (by omega)]
    have := dec5 x.2.1.toNat (by omega)
    omega
  · have hl : x.2.2.data.toList.length = x.2.2.size := by rw [Array.length_toList]; rfl
    rcases h1 with h1 | h1
    · rw [if_neg (by omega), if_pos h1]
      omega
    · rw [if_neg (by omega), if_neg (by omega), if_pos h1, List.length_cons]
      omega
  · rw [if_neg (by omega), if_neg (by omega), if_neg (by omega)]
    rcases opW_cases h1 with e | e | e | e | e | e | e | e | e | e | e | e | e | e <;> rw [e] <;> decide
theorem exprGo_all : ∀ (l : List Nd) (d : Int), exprGo l d = true → ∀ x ∈ l, nodeOk x = true
  | [], _, _ => by simp
  | x :: r, d, h => by
    rw [exprGo, Bool.and_eq_true, Bool.and_eq_true] at h
    intro y hy
    rcases List.mem_cons.1 hy with rfl | hy
    · exact h.1
    · exact exprGo_all r _ h.2.2 y hy
theorem mk_append (a : ByteArray) (l : List UInt8) : (⟨(a.data.toList ++ l).toArray⟩ : ByteArray) = a ++ ⟨l.toArray⟩ := by
  refine ByteArray.ext (Array.toList_inj.1 ?_)
  simp [ByteArray.data_append, Array.toList_append]
theorem rd_words {κ : Int} (h : 4 ≤ κ ∧ κ ≤ 17) : ∃ W, spec_l2Words.f = some W ∧ W.length = 18 ∧ rdOf ByteArray.empty W κ = ⟨(opW.getD (κ - 4).toNat []).toArray⟩ := by
  refine ⟨_, rfl, rfl, ?_⟩
  rcases opW_cases h with e | e | e | e | e | e | e | e | e | e | e | e | e | e <;> rw [e] <;> rfl
theorem spec_ExprText_j1 (l : List S54) (hl : l.length ≤ 30) (i : Nat) (hi : i < l.length) (acc : ByteArray) (ha : acc.size ≤ 1000) (hx : nodeOk (nd_ (l.getD i z54)) = true) {k : Nat} (hk : 30 ≤ k) :
    spec_ExprText.j1 (k + 1) l acc (i : Int) = spec_ExprText.l0 k l (acc ++ ⟨(nodeT (nd_ (l.getD i z54))).toArray⟩) ((i + 1 : Nat) : Int) := by
  have hrd : rd_T54 l (i : Int) = l.getD i z54 := by unfold rd_T54; rw [Int.toNat_natCast]
  simp only [spec_ExprText.j1]
  rw [if_pos (by omega), if_pos (by omega), hrd, up1 (by omega : i < l.length) (by omega)]
  have hT := nodeT_len hx
  have hin := nodeOk_in hx
  generalize l.getD i z54 = x at hT hin
  rw [show nodeT (nd_ x) = nodeT3 x.f0 x.f1 x.f2 from rfl] at hT ⊢
  replace hin : (x.f0 = 1 ∧ 0 ≤ x.f1 ∧ x.f1 ≤ 65535) ∨ ((x.f0 = 2 ∨ x.f0 = 3) ∧ x.f2.size ≤ 16) ∨ (4 ≤ x.f0 ∧ x.f0 ≤ 17) := hin
  unfold nodeT3 at hT ⊢
  rcases hin with ⟨h1, h2, h3⟩ | ⟨h1, h2⟩ | h1
  · rw [if_pos h1] at hT ⊢
    rw [if_pos h1]
    obtain ⟨m, hm⟩ : ∃ m : Nat, x.f1 = (m : Int) := ⟨x.f1.toNat, by omega⟩
    rw [hm] at hT ⊢
    rw [spec_l1Dec_pos m (by omega) (by omega)]
    simp only [Option.bind_some]
    rw [if_pos (by rw [bytes_size (Go.Lib.itoa (m : Int))]; omega)]
  · have hd : (⟨x.f2.data.toList.toArray⟩ : ByteArray) = x.f2 := rfl
    rcases h1 with h1 | h1
    · rw [if_neg (by omega), if_pos h1, if_pos (by omega), if_neg (by omega), if_pos h1, hd]
    · have hz : (acc ++ (⟨#[35]⟩ : ByteArray)).size = acc.size + 1 := by rw [ByteArray.size_append]; rfl
      rw [if_neg (by omega), if_neg (by omega), if_pos h1, if_pos (by omega), if_pos (by omega), if_neg (by omega), if_neg (by omega), if_pos h1]
      refine congrArg (fun z => spec_ExprText.l0 k l z _) ?_
      refine ByteArray.ext (Array.toList_inj.1 ?_)
      simp [ByteArray.data_append, Array.toList_append]
  · rw [if_neg (by omega), if_neg (by omega), if_neg (by omega)] at hT
    obtain ⟨W, hW, hWl, hr⟩ := rd_words h1
    rw [if_neg (by omega), if_neg (by omega), if_neg (by omega), hW, if_neg (by omega), if_neg (by omega), if_neg (by omega)]
    simp only [Option.bind_some]
    rw [hr, if_pos (by omega), if_pos (by omega), if_pos (by rw [bytes_size (opW.getD (x.f0 - 4).toNat [])]; omega)]
theorem spec_ExprText_l0 (l : List S54) (hl : l.length ≤ 30) (hok : ∀ x ∈ l, nodeOk (nd_ x) = true) : ∀ (n k i : Nat) (acc : ByteArray), i + n = l.length → 1 ≤ i → acc.size ≤ 20 * i → 2 * n + 40 < k → spec_ExprText.l0 k l acc (i : Int) = some ⟨(acc.data.toList ++ Go.Lib.joinTail [32] (((l.drop i).map nd_).map nodeT)).toArray⟩ := by
  intro n
  induction n with
  | zero =>
    intro k i acc hi h1 ha hk
    obtain ⟨k, rfl⟩ : ∃ m, k = m + 1 := ⟨k - 1, by omega⟩
    simp only [spec_ExprText.l0]
    rw [if_neg (by omega), List.drop_eq_nil_of_le (by omega)]
    simp [Go.Lib.joinTail]
  | succ n ih =>
    intro k i acc hi h1 ha hk
    obtain ⟨k, rfl⟩ : ∃ m, k = m + 2 := ⟨k - 2, by omega⟩
    have hx := hok _ (getD_mem z54 l i (by omega))
    have hz : (acc ++ (⟨#[32]⟩ : ByteArray)).size = acc.size + 1 := by rw [ByteArray.size_append]; rfl
    have hT := nodeT_len hx
    rw [spec_ExprText.l0, if_pos (by omega), if_pos (by omega), if_pos (by omega), spec_ExprText_j1 l hl i (by omega) _ (by omega) hx (by omega)]
    rw [ih k (i + 1) _ (by omega) (by omega) (by rw [ByteArray.size_append, hz, bytes_size (nodeT (nd_ (l.getD i z54)))]; omega) (by omega), drop_at z54 l i (by omega), List.map_cons, List.map_cons, jtail_cons]
    simp [ByteArray.data_append, Array.toList_append]
/-- The text of an expression. -/
def exprT (l : List Nd) : ByteArray := if exprOk l = true then ⟨(Go.Lib.join (l.map nodeT) [32]).toArray⟩ else ⟨#[]⟩
theorem exprOk_parts {l : List Nd} (h : exprOk l = true) : l.length ≤ 30 ∧ 1 ≤ l.length ∧ ∀ x ∈ l, nodeOk x = true := by
  unfold exprOk at h
  rw [Bool.and_eq_true, decide_eq_true_eq] at h
  refine ⟨by omega, ?_, exprGo_all l 0 h.2⟩
  cases l with
  | nil => exact absurd h.2 (by decide)
  | cons x r => simp
theorem spec_ExprText_eq (l : List S54) (hl : l.length ≤ 1048576) {k : Nat} (hk : l.length + 200 ≤ k) : spec_ExprText.f k l = some (exprT (l.map nd_)) := by
  unfold spec_ExprText.f exprT
  rw [spec_ExprOk_eq l hl (by omega)]
  simp only [Option.bind_some]
  by_cases h : exprOk (l.map nd_) = true
  · rw [if_pos h, if_pos h]
    obtain ⟨h1, h2, h3⟩ := exprOk_parts h
    rw [List.length_map] at h1 h2
    have hok : ∀ x ∈ l, nodeOk (nd_ x) = true := fun x hx => h3 _ (List.mem_map_of_mem hx)
    obtain ⟨k, rfl⟩ : ∃ m, k = m + 2 := ⟨k - 2, by omega⟩
    have hx := hok _ (getD_mem z54 l 0 (by omega))
    have hT := nodeT_len hx
    have hj := spec_ExprText_j1 l h1 0 (by omega) ⟨#[]⟩ (by show 0 ≤ 1000; omega) hx (k := k) (by omega)
    rw [show ((0 : Nat) : Int) = 0 from rfl] at hj
    rw [spec_ExprText.l0, if_pos (by omega), if_neg (by omega), hj, spec_ExprText_l0 l h1 hok (l.length - 1) k 1 _ (by omega) (by omega) (by rw [ByteArray.size_append, bytes_size (nodeT (nd_ (l.getD 0 z54))), show (⟨#[]⟩ : ByteArray).size = 0 from rfl]; omega) (by omega)]
    have hd := drop_at z54 l 0 (by omega)
    rw [List.drop_zero] at hd
    have hm : (l.map nd_).map nodeT = nodeT (nd_ (l.getD 0 z54)) :: (((l.drop 1).map nd_).map nodeT) := by
      conv => lhs; rw [hd]
      rfl
    rw [hm, Go.Lib.join_cons]
    simp [ByteArray.data_append, Array.toList_append]
  · rw [if_neg h, if_neg h]

theorem opWords_eq : impl_opWords.f = some (opW.map fun l => (⟨l.toArray⟩ : ByteArray)) := by
  have hs : ∀ (s : ByteArray), s.size ≤ 1000 → strings_Split.f s ⟨#[32]⟩ = some ((sp 32 s.data.toList).map fun l => (⟨l.toArray⟩ : ByteArray)) := by
    intro s hz
    unfold strings_Split.f
    rw [if_pos (by omega), if_pos (by show 1 ≤ 1; omega)]
    refine congrArg some (map_data _ _ ?_)
    rw [Go.Lib.splitB_data]
    exact splitK_sp 32 _ _ rfl
  unfold impl_opWords.f
  rw [hs _ (by decide)]
  rfl
theorem impl_exprText_l0 (l : List S54) (hl : l.length ≤ 30) (hok : ∀ x ∈ l, nodeOk (nd_ x) = true) : ∀ (n k i : Nat) (acc : List ByteArray), i + n = l.length → acc.length = i → n < k → impl_exprText.l0 k acc l (l.length : Int) (i : Int) = strings_Join.f (acc ++ (((l.drop i).map nd_).map nodeT).map fun l => (⟨l.toArray⟩ : ByteArray)) ⟨#[32]⟩ := by
  have hb0 : ∀ o : Option ByteArray, (o.bind fun t => some t) = o := fun o => by cases o <;> rfl
  intro n
  induction n with
  | zero =>
    intro k i acc hi ha hk
    obtain ⟨k, rfl⟩ : ∃ m, k = m + 1 := ⟨k - 1, by omega⟩
    simp only [impl_exprText.l0]
    rw [if_neg (by omega), List.drop_eq_nil_of_le (by omega), hb0]
    simp
  | succ n ih =>
    intro k i acc hi ha hk
    obtain ⟨k, rfl⟩ : ∃ m, k = m + 1 := ⟨k - 1, by omega⟩
    have hx := hok _ (getD_mem z54 l i (by omega))
    have hrd : rd_T54 l (i : Int) = l.getD i z54 := by unfold rd_T54; rw [Int.toNat_natCast]
    have hlen : acc.length < 8796093022208 := by omega
    have next : ∀ (t : ByteArray), t = ⟨(nodeT (nd_ (l.getD i z54))).toArray⟩ → impl_exprText.l0 k (acc ++ [t]) l (l.length : Int) ((i + 1 : Nat) : Int) = strings_Join.f (acc ++ (((l.drop i).map nd_).map nodeT).map fun l => (⟨l.toArray⟩ : ByteArray)) ⟨#[32]⟩ := by
      intro t ht
      rw [ih k (i + 1) _ (by omega) (by rw [List.length_append, List.length_singleton]; omega) (by omega), drop_at z54 l i (by omega), ht]
      simp
    simp only [impl_exprText.l0]
    rw [if_pos (by omega), if_pos (by omega), if_pos (by omega), hrd, up1 (by omega : i < l.length) (by omega)]
    have hin := nodeOk_in hx
    generalize l.getD i z54 = x at hin next
    rw [show nodeT (nd_ x) = nodeT3 x.f0 x.f1 x.f2 from rfl] at next
    replace hin : (x.f0 = 1 ∧ 0 ≤ x.f1 ∧ x.f1 ≤ 65535) ∨ ((x.f0 = 2 ∨ x.f0 = 3) ∧ x.f2.size ≤ 16) ∨ (4 ≤ x.f0 ∧ x.f0 ≤ 17) := hin
    unfold nodeT3 at next
    rcases hin with ⟨h1, h2, h3⟩ | ⟨h1, h2⟩ | h1
    · rw [if_pos h1] at next ⊢
      unfold impl_decimal.f strconv_FormatInt.f
      rw [if_pos rfl, if_pos (by omega), if_pos (by omega)]
      simp only [Option.bind_some]
      rw [if_pos hlen]
      exact next _ rfl
    · have hd : (⟨x.f2.data.toList.toArray⟩ : ByteArray) = x.f2 := rfl
      rcases h1 with h1 | h1
      · rw [if_neg (by omega), if_pos h1, if_pos hlen]
        rw [if_neg (by omega), if_pos h1] at next
        exact next _ rfl
      · rw [if_neg (by omega), if_neg (by omega), if_pos h1, if_pos (by omega), if_pos hlen]
        rw [if_neg (by omega), if_neg (by omega), if_pos h1] at next
        refine next _ ?_
        refine ByteArray.ext (Array.toList_inj.1 ?_)
        simp [ByteArray.data_append, Array.toList_append]
    · rw [if_neg (by omega), if_neg (by omega), if_neg (by omega), opWords_eq]
      rw [if_neg (by omega), if_neg (by omega), if_neg (by omega)] at next
      have hw : wrap64 (x.f0 - 4) = x.f0 - 4 := w64 (by omega) (by omega)
      simp only [Option.bind_some]
      have hwl : ((opW.map fun l => (⟨l.toArray⟩ : ByteArray)).length : Int) = 14 := rfl
      rw [hw, hwl, if_pos (by omega), if_pos (by omega), if_pos hlen]
      refine next _ ?_
      rcases opW_cases h1 with e | e | e | e | e | e | e | e | e | e | e | e | e | e <;> rw [e] <;> rfl
theorem join_len_le (c : UInt8) (m : Nat) : ∀ xs : List (List UInt8), (∀ x ∈ xs, x.length ≤ m) → (Go.Lib.join xs [c]).length ≤ (m + 1) * xs.length
  | [], _ => by simp [Go.Lib.join_nil]
  | [x], h => by
    have := h x List.mem_cons_self
    rw [Go.Lib.join_one]
    simp
    omega
  | x :: y :: r, h => by
    have h1 := h x List.mem_cons_self
    have h2 := join_len_le c m (y :: r) (fun z hz => h z (List.mem_cons_of_mem _ hz))
    rw [join_cons2, List.length_append, List.length_append, List.length_singleton]
    rw [List.length_cons (a := x), Nat.mul_succ]
    omega
theorem impl_ExprText_eq (l : List S54) {k : Nat} (hk : 200 ≤ k) : impl_ExprText.f k l = some (exprT (l.map nd_)) := by
  unfold impl_ExprText.f exprT
  rw [impl_ExprOk_eq l (by omega)]
  simp only [Option.bind_some]
  by_cases h : exprOk (l.map nd_) = true
  · rw [if_pos h, if_pos h]
    obtain ⟨h1, h2, h3⟩ := exprOk_parts h
    have h1' := h1
    rw [List.length_map] at h1 h2
    have hok : ∀ x ∈ l, nodeOk (nd_ x) = true := fun x hx => h3 _ (List.mem_map_of_mem hx)
    have hj := impl_exprText_l0 l h1 hok l.length k 0 [] (by omega) rfl (by omega)
    rw [show ((0 : Nat) : Int) = 0 from rfl, List.drop_zero, List.nil_append] at hj
    unfold impl_exprText.f
    rw [hj]
    have hlen := join_len_le 32 17 ((l.map nd_).map nodeT) (by
      intro x hx
      obtain ⟨y, hy, rfl⟩ := List.mem_map.1 hx
      exact nodeT_len (h3 y hy))
    rw [List.length_map, List.length_map] at hlen
    have hd : ((((l.map nd_).map nodeT).map fun l => (⟨l.toArray⟩ : ByteArray)).map (·.data.toList)) = (l.map nd_).map nodeT := by
      rw [List.map_map]
      conv => rhs; rw [← List.map_id ((l.map nd_).map nodeT)]
      apply List.map_congr_left
      intro x _
      rfl
    have e32 : (⟨#[32]⟩ : ByteArray).data.toList = [32] := rfl
    unfold strings_Join.f
    rw [hd, e32, if_pos (by simp only [List.length_map]; omega), if_pos (by omega)]
    rfl
  · rw [if_neg h, if_neg h]

open Go.Proofs.YtffmpmgnkhlmdaaDoor.Kin in
theorem FnExactExprText (l : List S52) (h : l.length ≤ maxLen ∧ ∀ x ∈ l, okT52 x) : ∃ k, laws_FnExactExprText.f k l = some true := by
  refine ⟨2000000, ?_⟩
  unfold laws_FnExactExprText.f
  obtain ⟨t, ht, hle, hlen⟩ := laws_szENodeS_some l h.1 (fun x hx => (h.2 x hx).2.2) (k := 2000000) (left := 1048576) (by decide) (by decide) (by decide)
  rw [ht]
  simp only [Option.bind_some]
  by_cases hc : t < 0
  · rw [if_pos hc]
  · rw [if_neg hc]
    have hl := hlen (by omega)
    have hm : (l.map nodeI).length ≤ 1048576 := by simpa using hl
    rw [laws_toENodeS_eq l hl (by decide)]
    simp only [Option.bind_some]
    rw [spec_ExprText_eq _ hm (by simp; omega), impl_ExprText_eq _ (by decide)]
    simp only [Option.bind_some, if_true]
    rw [laws_eqENodeS_same _ hm (by decide)]
    simp

end Go.Proofs.YtffmpmgnkhlmdaaDoor.Pure
