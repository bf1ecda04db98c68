/-
The law FnExactReadExpr, told as a plain function of the text, answers true for every input.
-/
import Derived.Test.YtmiebnpmckjidaaDoorPFnExactReadExprx8
import Derived.Test.YtmiebnpmckjidaaDoorAidA
import Derived.Test.YtmiebnpmckjidaaDoorAidB
import Derived.Test.YtmiebnpmckjidaaDoorAidC
import Derived.Test.YtmiebnpmckjidaaDoorAidH
import Derived.Test.YtmiebnpmckjidaaDoorAidL
import Derived.Test.YtmiebnpmckjidaaDoorAidJ
import Derived.Test.YtmiebnpmckjidaaDoorAidM
import Derived.Test.YtmiebnpmckjidaaDoorAidN
namespace Go.Proofs.YtmiebnpmckjidaaDoor.Pure
open Go.RowKit Go.Proofs.YtmiebnpmckjidaaDoor.Aid Go.Proofs.YtmiebnpmckjidaaDoor.PFnExactReadExpr Go.Proofs.YtmiebnpmckjidaaDoorW.PrintWords Go.Proofs.YtmiebnpmckjidaaDoorW.PrintLast Go.Proofs.YtmiebnpmckjidaaDoorW.PrintMore
set_option linter.unusedVariables false
set_option linter.unusedSimpArgs false

theorem spec_l1In_eq (a b c : Int) : spec_l1In.f a b c = some (inR a b c) := by
  unfold spec_l1In.f inR
  by_cases h : a ≥ b
  · rw [if_pos h, decide_eq_true (show b ≤ a from h)]
    rfl
  · rw [if_neg h, decide_eq_false (show ¬ b ≤ a from h)]
    rfl

theorem impl_within_eq (a b c : Int) : impl_within.f a b c = some (inR a b c) := by
  unfold impl_within.f inR
  by_cases h : a ≥ b
  · rw [if_pos h, decide_eq_true (show b ≤ a from h)]
    rfl
  · rw [if_neg h, decide_eq_false (show ¬ b ≤ a from h)]
    rfl

theorem impl_isWord_eq (a : Int) : impl_isWord.f a = some (inR a 0 65535) := by
  unfold impl_isWord.f
  rw [impl_within_eq]
  rfl

theorem spec_l1Letter_eq (c : Int) : spec_l1Letter.f c = some (isLet c) := by
  unfold spec_l1Letter.f isLet inR
  by_cases h1 : c ≥ 97
  · by_cases h2 : c ≤ 122
    · simp [h1, h2]
    · by_cases h3 : c = 95
      · simp [h3]
      · simp [h1, h2, h3]
  · by_cases h3 : c = 95
    · simp [h3]
    · simp [h1, h3]

theorem impl_isDigit_eq (c : Int) : impl_isDigit.f c = some (inR c 48 57) := by
  unfold impl_isDigit.f inR
  by_cases h : c ≥ 48
  · rw [if_pos h, decide_eq_true (show 48 ≤ c from h)]
    rfl
  · rw [if_neg h, decide_eq_false (show ¬ 48 ≤ c from h)]
    rfl

theorem impl_isSmall_eq (c : Int) : impl_isSmall.f c = some (inR c 97 122) := by
  unfold impl_isSmall.f inR
  by_cases h : c ≥ 97
  · rw [if_pos h, decide_eq_true (show 97 ≤ c from h)]
    rfl
  · rw [if_neg h, decide_eq_false (show ¬ 97 ≤ c from h)]
    rfl

theorem spec_NameOk_l0 (s : ByteArray) (hs : s.size ≤ 140737488351232) : ∀ (n k i : Nat), i + n = s.size → n < k → spec_NameOk.l0 k s (i : Int) = some (allB isNam s n i) := by
  intro n
  induction n with
  | zero =>
    intro k i hi hk
    obtain ⟨k, rfl⟩ : ∃ m, k = m + 1 := ⟨k - 1, by omega⟩
    simp only [spec_NameOk.l0]
    rw [if_neg (by omega)]
    rfl
  | succ n ih =>
    intro k i hi hk
    obtain ⟨k, rfl⟩ : ∃ m, k = m + 1 := ⟨k - 1, by omega⟩
    have hn := ih k (i + 1) (by omega) (by omega)
    have hw : wrap64 ((i : Int) + 1) = ((i + 1 : Nat) : Int) := by rw [w64 (by omega) (by omega)]; omega
    simp only [spec_NameOk.l0]
    rw [if_pos (by omega), if_pos (by omega), spec_l1Letter_eq, hw, hn]
    simp only [Option.bind_some, allB, isNam, inR]
    by_cases h1 : isLet (bt s i) = true
    · simp [h1]
    · by_cases h2 : bt s i ≥ 48
      · by_cases h3 : bt s i ≤ 57
        · simp [h1, h2, h3]
        · simp [h1, h2, h3]
      · simp [h1, h2]
theorem spec_NameOk_eq (s : ByteArray) {k : Nat} (hk : 20 ≤ k) : spec_NameOk.f k s = some (nameOk s) := by
  unfold spec_NameOk.f nameOk
  obtain ⟨k, rfl⟩ : ∃ m, k = m + 1 := ⟨k - 1, by omega⟩
  simp only [spec_NameOk.j0]
  by_cases h1 : (s.size : Int) < 1
  · rw [if_pos h1, inR_neg (by omega)]
    rfl
  · by_cases h2 : (s.size : Int) > 16
    · rw [if_neg h1, if_pos h2, inR_neg (by omega)]
      rfl
    · have hl := spec_NameOk_l0 s (by omega) s.size k 0 (by omega) (by omega)
      rw [if_neg h1, if_neg h2, inR_pos (by omega) (by omega), if_pos (by omega), spec_l1Letter_eq]
      simp only [Option.bind_some, Bool.true_and]
      rw [show ((0 : Nat) : Int) = 0 from rfl] at hl
      rw [hl]
      obtain ⟨n, hn⟩ : ∃ n, s.size = n + 1 := ⟨s.size - 1, by omega⟩
      by_cases h3 : isLet (bt s 0) = true
      · rw [h3, isLet_dig h3]
        simp
      · have h3' : isLet (bt s 0) = false := by simpa using h3
        rw [h3', hn]
        simp only [Bool.not_false, if_true, allB]
        rw [show bt s ((0 : Nat) : Int) = bt s 0 from rfl]
        unfold isNam
        rw [h3']
        cases inR (bt s 0) 48 57 <;> simp

theorem impl_NameOk_l0 (s : ByteArray) (hs : s.size ≤ 140737488351232) : ∀ (n k i : Nat), i + n = s.size → n < k → impl_NameOk.l0 k s (s.size : Int) (i : Int) = some (allB isNam s n i) := by
  intro n
  induction n with
  | zero =>
    intro k i hi hk
    obtain ⟨k, rfl⟩ : ∃ m, k = m + 1 := ⟨k - 1, by omega⟩
    simp only [impl_NameOk.l0]
    rw [if_neg (by omega)]
    rfl
  | succ n ih =>
    intro k i hi hk
    obtain ⟨k, rfl⟩ : ∃ m, k = m + 1 := ⟨k - 1, by omega⟩
    have hn := ih k (i + 1) (by omega) (by omega)
    have hw : wrap64 ((i : Int) + 1) = ((i + 1 : Nat) : Int) := by rw [w64 (by omega) (by omega)]; omega
    simp only [impl_NameOk.l0]
    rw [if_pos (by omega), if_pos (by omega), if_pos (by omega), impl_isSmall_eq, impl_isDigit_eq, hw, hn]
    simp only [Option.bind_some, allB, isNam, isLet]
    by_cases h1 : inR (bt s i) 97 122 = true
    · simp [h1]
    · by_cases h2 : inR (bt s i) 48 57 = true
      · simp [h1, h2]
      · by_cases h3 : bt s i = 95
        · simp [h1, h2, h3]
        · by_cases h4 : bt s i = 46
          · simp [h1, h2, h3, h4]
          · simp [h1, h2, h3, h4]
theorem impl_NameOk_eq (s : ByteArray) {k : Nat} (hk : 20 ≤ k) : impl_NameOk.f k s = some (nameOk s) := by
  unfold impl_NameOk.f nameOk
  obtain ⟨k, rfl⟩ : ∃ m, k = m + 1 := ⟨k - 1, by omega⟩
  simp only [impl_NameOk.j0, impl_within_eq, Option.bind_some]
  by_cases h1 : 1 ≤ (s.size : Int) ∧ (s.size : Int) ≤ 16
  · have hl := impl_NameOk_l0 s (by omega) s.size k 0 (by omega) (by omega)
    rw [inR_pos h1.1 h1.2, if_pos rfl, if_pos (by omega), impl_isDigit_eq]
    simp only [Option.bind_some, Bool.true_and]
    rw [show ((0 : Nat) : Int) = 0 from rfl] at hl
    rw [hl]
    cases inR (bt s 0) 48 57 <;> simp
  · rw [inR_neg h1]
    rfl

theorem laws_eqENodeS_l0 (l : List S77) (hl : l.length ≤ 1048576) : ∀ (n k i : Nat), i + n = l.length → n < k → laws_eqENodeS.l0 k l l (i : Int) = some true := by
  intro n
  induction n with
  | zero =>
    intro k i hi hk
    obtain ⟨k, rfl⟩ : ∃ m, k = m + 1 := ⟨k - 1, by omega⟩
    simp only [laws_eqENodeS.l0]
    rw [if_neg (by omega)]
  | succ n ih =>
    intro k i hi hk
    obtain ⟨k, rfl⟩ : ∃ m, k = m + 1 := ⟨k - 1, by omega⟩
    simp only [laws_eqENodeS.l0, laws_eqENode.f, if_true, Option.bind_some]
    rw [if_pos (by omega), if_pos (by omega), if_pos (by omega), up1 (by omega : i < l.length) (by omega)]
    exact ih k (i + 1) (by omega) (by omega)
theorem laws_eqENodeS_same (l : List S77) (hl : l.length ≤ 1048576) {k : Nat} (hk : 1048577 ≤ k) : laws_eqENodeS.f k l l = some true := by
  unfold laws_eqENodeS.f
  rw [if_pos rfl]
  exact laws_eqENodeS_l0 l hl l.length k 0 (by omega) (by omega)

theorem spec_l2Takes_eq (a : Int) : spec_l2Takes.f a = some (takes a) := by
  unfold spec_l2Takes.f takes
  simp only [spec_l1In_eq, Option.bind_some]
  split
  · rfl
  · split
    · rfl
    · split <;> rfl

theorem spec_l2Node_eq (a b : Int) (s : ByteArray) {k : Nat} (hk : 30 ≤ k) : spec_l2Node.f k a b s = some (nodeOk (a, b, s)) := by
  obtain ⟨k, rfl⟩ : ∃ m, k = m + 1 := ⟨k - 1, by omega⟩
  unfold spec_l2Node.f nodeOk
  simp only [spec_l1In_eq, spec_l2Node.j0, spec_l2Takes_eq, spec_NameOk_eq s (by omega : 20 ≤ k), Option.bind_some]
  by_cases h1 : a = 1
  · rw [if_pos h1, if_pos h1]
    cases inR b 0 65535 <;> simp
  · rw [if_neg h1, if_neg h1]
    by_cases h2 : a = 2
    · rw [if_pos h2, if_pos (show a = 2 ∨ a = 3 from Or.inl h2), h2]
      by_cases h4 : b = 0
      · simp [h4]
      · simp [h4]
    · by_cases h3 : a = 3
      · rw [if_neg h2, if_pos (Or.inr h3), h3]
        by_cases h4 : b = 0
        · simp [h4]
        · simp [h4]
      · have e : (a == 3) = false := by simpa using h3
        rw [if_neg h2, if_neg (show ¬ (a = 2 ∨ a = 3) by omega), e]
        simp only [Bool.false_eq_true, if_false]
        by_cases h4 : b = 0
        · by_cases h5 : s.toList = []
          · rw [if_pos h4, if_pos h5, h4, h5]
            simp [takes, inR]
            by_cases h6 : 4 ≤ a ∧ a ≤ 17
            · by_cases h7 : a ≤ 7
              · rw [if_neg (by omega), if_pos (by omega)]
                simp
                omega
              · rw [if_neg (by omega), if_neg (by omega), if_pos (by omega)]
                simp
                omega
            · rw [if_neg (by omega), if_neg (by omega), if_neg (by omega)]
              simp
              omega
          · simp [h4, h5]
        · simp [h4]

theorem impl_isNode_eq (a b : Int) (s : ByteArray) {k : Nat} (hk : 30 ≤ k) : impl_isNode.f k a b s = some (nodeOk (a, b, s)) := by
  obtain ⟨k, rfl⟩ : ∃ m, k = m + 1 := ⟨k - 1, by omega⟩
  unfold impl_isNode.f nodeOk
  simp only [impl_isWord_eq, impl_isNode.j0, impl_within_eq, impl_NameOk_eq s (by omega : 20 ≤ k), Option.bind_some]
  by_cases h1 : a = 1
  · rw [if_pos h1, if_pos h1]
    cases inR b 0 65535 <;> simp
  · rw [if_neg h1, if_neg h1]
    by_cases h2 : a = 2
    · rw [if_pos h2, if_pos (show a = 2 ∨ a = 3 from Or.inl h2)]
      by_cases h4 : b = 0
      · simp [h4]
      · simp [h4]
    · by_cases h3 : a = 3
      · rw [if_neg h2, if_pos (Or.inr h3), h3]
        by_cases h4 : b = 0
        · simp [h4]
        · simp [h4]
      · have e : (a == 3) = false := by simpa using h3
        rw [if_neg h2, if_neg (show ¬ (a = 2 ∨ a = 3) by omega), e]
        simp only [Bool.false_eq_true, if_false]
        cases inR a 4 17
        · simp
        · by_cases h4 : b = 0
          · simp [h4]
          · simp [h4]

def nd_ (x : S77) : Nd := (x.f0, x.f1, x.f2)
theorem spec_ExprOk_l0 (l : List S77) (hl : l.length ≤ 1048576) : ∀ (n k i : Nat) (d : Int), i + n = l.length → n + 40 ≤ k → 0 ≤ d → d ≤ 2 * i → spec_ExprOk.l0 k l d (i : Int) = some (decide ((l.length : Int) ≤ 30) && exprGo ((l.drop i).map nd_) d) := by
  intro n
  induction n with
  | zero =>
    intro k i d hi hk h0 h1
    obtain ⟨k, rfl⟩ : ∃ m, k = m + 1 := ⟨k - 1, by omega⟩
    simp only [spec_ExprOk.l0]
    rw [if_neg (by omega), List.drop_eq_nil_of_le (by omega)]
    by_cases h : (l.length : Int) ≤ 30
    · rw [if_pos h, decide_eq_true h]
      rfl
    · rw [if_neg h, decide_eq_false h]
      rfl
  | succ n ih =>
    intro k i d hi hk h0 h1
    obtain ⟨k, rfl⟩ : ∃ m, k = m + 1 := ⟨k - 1, by omega⟩
    simp only [spec_ExprOk.l0]
    rw [if_pos (by omega), if_pos (by omega), drop_at z77 l i (by omega)]
    have hrd : rd_T77 l (i : Int) = l.getD i z77 := by unfold rd_T77; rw [Int.toNat_natCast]
    rw [hrd]
    generalize l.getD i z77 = x
    simp only [List.map_cons, exprGo, nd_]
    rw [spec_l2Node_eq _ _ _ (by omega : 30 ≤ k), spec_l2Takes_eq]
    simp only [Option.bind_some]
    have ht := takes_in x.f0
    by_cases c1 : nodeOk (x.f0, x.f1, x.f2) = true
    · rw [if_pos c1, c1]
      by_cases c2 : takes x.f0 > d
      · rw [if_pos c2, decide_eq_false (show ¬ takes x.f0 ≤ d by omega)]
        simp
      · rw [if_neg c2, decide_eq_true (show takes x.f0 ≤ d by omega), w64 (n := d - takes x.f0) (by omega) (by omega), w64 (n := d - takes x.f0 + 1) (by omega) (by omega), up1 (by omega : i < l.length) (by omega)]
        have := ih k (i + 1) (d - takes x.f0 + 1) (by omega) (by omega) (by omega) (by omega)
        rw [this]
        simp
    · rw [if_neg c1]
      simp [c1]
theorem spec_ExprOk_eq (l : List S77) (hl : l.length ≤ 1048576) {k : Nat} (hk : l.length + 40 ≤ k) : spec_ExprOk.f k l = some (exprOk (l.map nd_)) := by
  unfold spec_ExprOk.f exprOk
  have := spec_ExprOk_l0 l hl l.length k 0 0 (by omega) (by omega) (by omega) (by omega)
  rw [show ((0 : Nat) : Int) = 0 from rfl] at this
  rw [this]
  simp

--NEEDS spec_ExprOk
theorem impl_ExprOk_l0 (l : List S77) (hl : l.length ≤ 30) : ∀ (n k i : Nat) (d : Int), i + n = l.length → n + 40 ≤ k → 0 ≤ d → d ≤ i → impl_ExprOk.l0 k d l (l.length : Int) (i : Int) = some (exprGo ((l.drop i).map nd_) d) := by
  intro n
  induction n with
  | zero =>
    intro k i d hi hk h0 h1
    obtain ⟨k, rfl⟩ : ∃ m, k = m + 1 := ⟨k - 1, by omega⟩
    simp only [impl_ExprOk.l0]
    rw [if_neg (by omega), List.drop_eq_nil_of_le (by omega)]
    rfl
  | succ n ih =>
    intro k i d hi hk h0 h1
    obtain ⟨k, rfl⟩ : ∃ m, k = m + 1 := ⟨k - 1, by omega⟩
    simp only [impl_ExprOk.l0]
    rw [if_pos (by omega), if_pos (by omega), if_pos (by omega), drop_at z77 l i (by omega)]
    have hrd : rd_T77 l (i : Int) = l.getD i z77 := by unfold rd_T77; rw [Int.toNat_natCast]
    rw [hrd]
    generalize l.getD i z77 = x
    simp only [List.map_cons, exprGo, nd_]
    rw [impl_isNode_eq _ _ _ (by omega : 30 ≤ k), up1 (by omega : i < l.length) (by omega)]
    simp only [Option.bind_some]
    by_cases c1 : nodeOk (x.f0, x.f1, x.f2) = true
    · have hk1 := nodeOk_kind c1
      rw [if_pos c1, c1]
      simp only at hk1
      by_cases c2 : x.f0 ≤ 3
      · have ht : takes x.f0 = 0 := by unfold takes; rw [inR_pos (by omega) (by omega)]; rfl
        rw [if_pos c2, ht, w64 (n := d + 1) (by omega) (by omega), ih k (i + 1) (d + 1) (by omega) (by omega) (by omega) (by omega), decide_eq_true (show (0 : Int) ≤ d by omega), show d - 0 + 1 = d + 1 from by omega]
        simp
      · by_cases c3 : x.f0 ≤ 7
        · have ht : takes x.f0 = 1 := by unfold takes; rw [inR_neg (by omega), inR_pos (by omega) (by omega)]; rfl
          rw [if_neg c2, if_pos c3, ht]
          by_cases c4 : d < 1
          · rw [if_pos c4, decide_eq_false (show ¬ (1 : Int) ≤ d by omega)]
            simp
          · rw [if_neg c4, decide_eq_true (show (1 : Int) ≤ d by omega), ih k (i + 1) d (by omega) (by omega) (by omega) (by omega), show d - 1 + 1 = d from by omega]
            simp
        · have ht : takes x.f0 = 2 := by unfold takes; rw [inR_neg (by omega), inR_neg (by omega), inR_pos (by omega) (by omega)]; rfl
          rw [if_neg c2, if_neg c3, ht]
          by_cases c4 : d < 2
          · rw [if_pos c4, decide_eq_false (show ¬ (2 : Int) ≤ d by omega)]
            simp
          · rw [if_neg c4, decide_eq_true (show (2 : Int) ≤ d by omega), w64 (n := d - 1) (by omega) (by omega), ih k (i + 1) (d - 1) (by omega) (by omega) (by omega) (by omega), show d - 2 + 1 = d - 1 from by omega]
            simp
    · rw [if_neg c1]
      simp [c1]
theorem impl_ExprOk_eq (l : List S77) {k : Nat} (hk : 80 ≤ k) : impl_ExprOk.f k l = some (exprOk (l.map nd_)) := by
  unfold impl_ExprOk.f exprOk
  by_cases h : (l.length : Int) > 30
  · rw [if_pos h, decide_eq_false (show ¬ ((l.map nd_).length : Int) ≤ 30 by rw [List.length_map]; omega)]
    rfl
  · rw [if_neg h, decide_eq_true (show ((l.map nd_).length : Int) ≤ 30 by rw [List.length_map]; omega)]
    have := impl_ExprOk_l0 l (by omega) l.length k 0 0 (by omega) (by omega) (by omega) (by omega)
    rw [show ((0 : Nat) : Int) = 0 from rfl] at this
    rw [this]
    simp

theorem spec_l1Digit_eq {k : Nat} (hk : 1 ≤ k) {c : Int} (h0 : 0 ≤ c) (h1 : c ≤ 255) : spec_l1Digit.f k c = some (dig c) := by
  obtain ⟨k, rfl⟩ : ∃ m, k = m + 1 := ⟨k - 1, by omega⟩
  unfold spec_l1Digit.f dig
  simp only [spec_l1Digit.j0]
  by_cases a1 : 48 ≤ c ∧ c ≤ 57
  · rw [if_pos a1.1, decide_eq_true a1.2, if_pos rfl, inR_pos a1.1 a1.2, if_pos rfl]
    congr 1
    omega
  · rw [inR_neg a1]
    have e : (if c ≥ 48 then (if decide (c ≤ 57) = true then some ((c - 48) % 256) else if c ≥ 65 then if c ≤ 70 then some ((c - 65) % 256 + 10) else some 99 else some 99) else if false = true then some ((c - 48) % 256) else if c ≥ 65 then if c ≤ 70 then some ((c - 65) % 256 + 10) else some 99 else some 99) = (if c ≥ 65 then if c ≤ 70 then some ((c - 65) % 256 + 10) else some 99 else some 99) := by
      by_cases b1 : c ≥ 48
      · rw [if_pos b1, decide_eq_false (by omega)]
        rfl
      · rw [if_neg b1]
        rfl
    rw [e]
    by_cases a2 : 65 ≤ c ∧ c ≤ 70
    · rw [if_pos a2.1, if_pos a2.2, inR_pos a2.1 a2.2]
      simp only [Bool.false_eq_true, if_false, if_true]
      congr 1
      omega
    · rw [inR_neg a2]
      simp only [Bool.false_eq_true, if_false]
      by_cases b2 : c ≥ 65
      · rw [if_pos b2, if_neg (by omega)]
      · rw [if_neg b2]

theorem spec_l1Base_l0 (s : ByteArray) (hs : s.size ≤ 1048576) (base : Int) (hb : 0 ≤ base ∧ base ≤ 16) : ∀ (n k i : Nat) (acc : Int), i + n = s.size → n + 5 ≤ k → 0 ≤ acc → acc ≤ 65535 →
    spec_l1Base.l0 k s base acc (i : Int) = some (match baseGo base s n i acc with | none => (0, false) | some v => (v, s.toList != ([] : List UInt8))) := by
  intro n
  induction n with
  | zero =>
    intro k i acc hi hk h0 h1
    obtain ⟨k, rfl⟩ : ∃ m, k = m + 1 := ⟨k - 1, by omega⟩
    simp only [spec_l1Base.l0, baseGo]
    rw [if_neg (by omega)]
  | succ n ih =>
    intro k i acc hi hk h0 h1
    obtain ⟨k, rfl⟩ : ∃ m, k = m + 1 := ⟨k - 1, by omega⟩
    have hd := dig_nonneg (c := bt s (i : Int))
    have hm : 0 ≤ acc * base := Int.mul_nonneg h0 hb.1
    have hM : acc * base ≤ 65535 * 16 := Int.mul_le_mul h1 hb.2 hb.1 (by decide)
    simp only [spec_l1Base.l0, baseGo]
    rw [if_pos (by omega), if_pos (by omega), spec_l1Digit_eq (by omega) (bt_nonneg _ _) (bt_le _ _), w64 (n := acc * base) (by omega) (by omega), up1 (by omega : i < s.size) (by omega)]
    simp only [Option.bind_some]
    rw [w64 (n := acc * base + dig (bt s (i : Int))) (by omega) (by omega)]
    by_cases c1 : dig (bt s (i : Int)) ≥ base
    · rw [if_pos c1, if_pos c1]
    · rw [if_neg c1, if_neg c1]
      by_cases c2 : acc * base + dig (bt s (i : Int)) > 65535
      · rw [if_pos c2, if_pos c2]
      · rw [if_neg c2, if_neg c2]
        exact ih k (i + 1) _ (by omega) (by omega) (by omega) (by omega)
theorem spec_l1Base_eq (s : ByteArray) (hs : s.size ≤ 1048576) {base : Int} (hb : 0 ≤ base ∧ base ≤ 16) {k : Nat} (hk : s.size + 5 ≤ k) : spec_l1Base.f k s base = some (told (baseOf base s)) := by
  unfold spec_l1Base.f baseOf
  have h := spec_l1Base_l0 s hs base hb s.size k 0 0 (by omega) (by omega) (by omega) (by omega)
  rw [show ((0 : Nat) : Int) = 0 from rfl] at h
  rw [h]
  by_cases hz : s.size = 0
  · rw [if_pos hz, size_zero.2 hz, hz]
    rfl
  · rw [if_neg hz]
    have hne : (s.toList != ([] : List UInt8)) = true := by
      rw [bne_iff_ne]
      exact fun h => hz (size_zero.1 h)
    cases baseGo base s s.size 0 0 with
    | none => rfl
    | some v => simp [told, hne]

theorem spec_ReadNum_eq (s : ByteArray) {k : Nat} (hk : 40 ≤ k) : spec_ReadNum.f k s = some (told (numOf s)) := by
  obtain ⟨k, rfl⟩ : ∃ m, k = m + 1 := ⟨k - 1, by omega⟩
  unfold spec_ReadNum.f numOf
  simp only [spec_ReadNum.j0]
  by_cases h1 : (s.size : Int) > 18
  · rw [if_pos h1, if_pos h1]
    rfl
  · rw [if_neg h1, if_neg h1]
    by_cases h2 : s.size = 0
    · rw [if_pos h2, size_zero.2 h2]
      rfl
    · have hne : (s.toList == ([] : List UInt8)) = false := by
        rw [beq_eq_false_iff_ne]
        exact fun h => h2 (size_zero.1 h)
      have hx : (s.extract 1 s.size).size ≤ 18 := by simp; omega
      rw [hne, if_neg h2, if_neg (by simp), if_pos (by omega)]
      have p1 : (1 ≤ (s.size : Int)) = True := eq_true (by omega)
      simp only [p1, if_true]
      rw [spec_l1Base_eq _ (by omega) (by decide : (0 : Int) ≤ 16 ∧ (16 : Int) ≤ 16) (by omega), spec_l1Base_eq _ (by omega) (by decide : (0 : Int) ≤ 2 ∧ (2 : Int) ≤ 16) (by omega), spec_l1Base_eq _ (by omega) (by decide : (0 : Int) ≤ 10 ∧ (10 : Int) ≤ 16) (by omega)]
      simp only [Option.bind_some, Prod.eta]
      split
      · rfl
      · split <;> rfl

theorem laws_markText_l0 : ∀ (n : Nat) (x : Int) (acc : ByteArray), 0 ≤ x → x < 2 ^ n → x ≤ 4611686018427387904 → acc.size + n ≤ 1000 → ∃ v, ∀ k, n < k → laws_markText.l0 k x acc = some v := by
  intro n
  induction n with
  | zero =>
    intro x acc h0 h1 h2 h3
    refine ⟨(⟨#[109]⟩ : ByteArray) ++ acc, fun k hk => ?_⟩
    obtain ⟨k, rfl⟩ : ∃ m, k = m + 1 := ⟨k - 1, by omega⟩
    simp only [laws_markText.l0]
    rw [if_neg (by omega), if_pos (by omega)]
  | succ n ih =>
    intro x acc h0 h1 h2 h3
    by_cases hx : x > 0
    · have hp : (2 : Int) ^ (n + 1) = 2 ^ n * 2 := Int.pow_succ 2 n
      have hs : (strOfNums [(wrap64 (48 + (Int.tmod x 10))) % 256]).size = 1 := rfl
      have hd : Int.tdiv x 10 = x / 10 := Int.tdiv_eq_ediv_of_nonneg h0
      have hlt : x / 10 < 2 ^ n := by omega
      obtain ⟨v, hv⟩ := ih (x / 10) ((strOfNums [(wrap64 (48 + (Int.tmod x 10))) % 256]) ++ acc) (by omega) hlt (by omega) (by rw [ByteArray.size_append, hs]; omega)
      refine ⟨v, fun k hk => ?_⟩
      obtain ⟨k, rfl⟩ : ∃ m, k = m + 1 := ⟨k - 1, by omega⟩
      simp only [laws_markText.l0, Option.bind_some]
      rw [if_pos hx, if_pos (by rw [hs]; omega), hd, w64 (by omega) (by omega)]
      exact hv k (by omega)
    · refine ⟨(⟨#[109]⟩ : ByteArray) ++ acc, fun k hk => ?_⟩
      obtain ⟨k, rfl⟩ : ∃ m, k = m + 1 := ⟨k - 1, by omega⟩
      simp only [laws_markText.l0]
      rw [if_neg hx, if_pos (by omega)]
theorem laws_markText_all : ∃ T : Int → ByteArray, ∀ x, 0 ≤ x → x ≤ 4611686018427387904 → ∀ k, 70 ≤ k → laws_markText.f k x = some (T x) := by
  have h : ∀ x : Int, ∃ v, 0 ≤ x → x ≤ 4611686018427387904 → ∀ k, 70 ≤ k → laws_markText.f k x = some v := by
    intro x
    by_cases hx : 0 ≤ x ∧ x ≤ 4611686018427387904
    · unfold laws_markText.f
      by_cases h0 : x ≤ 0
      · exact ⟨_, fun _ _ k hk => by rw [if_pos h0]⟩
      · obtain ⟨v, hv⟩ := laws_markText_l0 63 x ⟨#[]⟩ hx.1 (by omega) hx.2 (by decide)
        exact ⟨v, fun _ _ k hk => by rw [if_neg h0]; exact hv k (by omega)⟩
    · exact ⟨ByteArray.empty, fun a b => absurd ⟨a, b⟩ hx⟩
  exact ⟨fun x => Classical.choose (h x), fun x => Classical.choose_spec (h x)⟩

--NEEDS laws_markText
theorem laws_markHeld_l0 {T : Int → ByteArray} (hT : ∀ x, 0 ≤ x → x ≤ 4611686018427387904 → ∀ k, 70 ≤ k → laws_markText.f k x = some (T x)) :
    ∀ (n k i : Nat) (m : Int) (y : List S77), i + n = y.length → y.length ≤ 1048576 → n + 80 ≤ k → 0 ≤ m → m ≤ 3 * i + 1000000 →
    ∃ z, laws_markENodeS.l0 k y m (i : Int) = some (m + 3 * n, z) ∧ z.length = y.length ∧ (∀ j, j < i → z.getD j z77 = y.getD j z77) ∧ ∀ j, i ≤ j → j < y.length → z.getD j z77 = ⟨m + 3 * ((j : Int) - i), m + 3 * ((j : Int) - i) + 1, T (m + 3 * ((j : Int) - i) + 2)⟩ := by
  intro n
  induction n with
  | zero =>
    intro k i m y hi hl hk h0 h1
    obtain ⟨k, rfl⟩ : ∃ m, k = m + 1 := ⟨k - 1, by omega⟩
    refine ⟨y, ?_, rfl, fun _ _ => rfl, fun j h2 h3 => by omega⟩
    simp only [laws_markENodeS.l0]
    rw [if_neg (by omega)]
    simp
  | succ n ih =>
    intro k i m y hi hl hk h0 h1
    obtain ⟨k, rfl⟩ : ∃ m, k = m + 1 := ⟨k - 1, by omega⟩
    have hs : ∀ (q : List S77) (v : S77), i < q.length → rd_T77 (q.set i v) (i : Int) = v := by
      intro q v hq
      unfold rd_T77
      rw [Int.toNat_natCast, List.getD_eq_getElem?_getD, List.getElem?_set_self hq]
      rfl
    have hstep : laws_markENodeS.l0 (k + 1) y m (i : Int) = laws_markENodeS.l0 k (y.set i ⟨m, m + 1, T (m + 2)⟩) (m + 3) ((i + 1 : Nat) : Int) := by
      simp only [laws_markENodeS.l0, Option.bind_some, Int.toNat_natCast]
      rw [if_pos (by omega), if_pos (by omega), w64 (n := m + 1) (by omega) (by omega), w64 (n := m + 1 + 1) (by omega) (by omega), hT (m + 1 + 1) (by omega) (by omega) k (by omega), w64 (n := m + 1 + 1 + 1) (by omega) (by omega), up1 (by omega : i < y.length) (by omega)]
      simp only [Option.bind_some, List.set_set]
      rw [hs _ _ (by omega), hs _ _ (by omega), show m + 1 + 1 = m + 2 by omega, show m + 2 + 1 = m + 3 by omega]
    obtain ⟨z, hz, h3, h4, h5⟩ := ih k (i + 1) (m + 3) (y.set i ⟨m, m + 1, T (m + 2)⟩) (by simp; omega) (by simpa using hl) (by omega) (by omega) (by omega)
    refine ⟨z, ?_, by simpa using h3, fun j hj => ?_, fun j hj hj2 => ?_⟩
    · rw [hstep, hz]
      congr 2
      omega
    · rw [h4 j (by omega), List.getD_eq_getElem?_getD, List.getD_eq_getElem?_getD, List.getElem?_set_ne (by omega)]
    · by_cases e : j = i
      · rw [e, h4 i (by omega), List.getD_eq_getElem?_getD, List.getElem?_set_self (by omega)]
        simp
      · rw [h5 j (by omega) (by simpa using hj2)]
        have : m + 3 + 3 * ((j : Int) - ((i + 1 : Nat) : Int)) = m + 3 * ((j : Int) - i) := by omega
        rw [this]
theorem laws_heldENodeS_l0 {T : Int → ByteArray} (hT : ∀ x, 0 ≤ x → x ≤ 4611686018427387904 → ∀ k, 70 ≤ k → laws_markText.f k x = some (T x)) :
    ∀ (n k i : Nat) (m : Int) (z : List S77), i + n = z.length → z.length ≤ 1048576 → n + 80 ≤ k → 0 ≤ m → m ≤ 3 * i + 1000000 →
    (∀ j, i ≤ j → j < z.length → z.getD j z77 = ⟨m + 3 * ((j : Int) - i), m + 3 * ((j : Int) - i) + 1, T (m + 3 * ((j : Int) - i) + 2)⟩) → laws_heldENodeS.l0 k z m (i : Int) = some (m + 3 * n) := by
  intro n
  induction n with
  | zero =>
    intro k i m z hi hl hk h0 h1 h2
    obtain ⟨k, rfl⟩ : ∃ m, k = m + 1 := ⟨k - 1, by omega⟩
    simp only [laws_heldENodeS.l0]
    rw [if_neg (by omega)]
    simp
  | succ n ih =>
    intro k i m z hi hl hk h0 h1 h2
    obtain ⟨k, rfl⟩ : ∃ m, k = m + 1 := ⟨k - 1, by omega⟩
    have hr : rd_T77 z (i : Int) = ⟨m, m + 1, T (m + 1 + 1)⟩ := by
      unfold rd_T77
      rw [Int.toNat_natCast, h2 i (Nat.le_refl _) (by omega)]
      have : m + 3 * ((i : Int) - i) = m := by omega
      rw [this, show m + 2 = m + 1 + 1 by omega]
    simp only [laws_heldENodeS.l0]
    rw [if_pos (by omega), if_pos (by omega), hr]
    simp only [if_true]
    rw [w64 (n := m + 1) (by omega) (by omega), if_pos rfl, w64 (n := m + 1 + 1) (by omega) (by omega), hT (m + 1 + 1) (by omega) (by omega) k (by omega), w64 (n := m + 1 + 1 + 1) (by omega) (by omega), up1 (by omega : i < z.length) (by omega)]
    simp only [Option.bind_some, if_true]
    rw [ih k (i + 1) (m + 1 + 1 + 1) z (by omega) hl (by omega) (by omega) (by omega) (fun j hj hj2 => by
      rw [h2 j (by omega) hj2]
      have : m + 1 + 1 + 1 + 3 * ((j : Int) - ((i + 1 : Nat) : Int)) = m + 3 * ((j : Int) - i) := by omega
      rw [this])]
    congr 1
    omega
theorem laws_markHeldN (l : List S77) (hl : l.length ≤ 1048576) {k : Nat} (hk : l.length + 80 ≤ k) : ∃ z, laws_markENodeS.f k l 1 = some (1 + 3 * (l.length : Int), z) ∧ z.length = l.length ∧ ∀ k', l.length + 80 ≤ k' → laws_heldENodeS.f k' z 1 = some (1 + 3 * (l.length : Int)) := by
  obtain ⟨T, hT⟩ := laws_markText_all
  obtain ⟨z, h1, h2, _, h3⟩ := laws_markHeld_l0 hT l.length k 0 1 l (by omega) hl (by omega) (by omega) (by omega)
  refine ⟨z, h1, h2, fun k' hk' => ?_⟩
  have := laws_heldENodeS_l0 hT z.length k' 0 1 z (by omega) (by omega) (by omega) (by omega) (by omega) (fun j hj hj2 => h3 j hj (by omega))
  rw [h2] at this
  exact this

theorem dig_nums {x : Nat} (h : x < 10) : strOfNums [(wrap64 (48 + (x : Int))) % 256] = ⟨[UInt8.ofNat (48 + x)].toArray⟩ := by
  unfold strOfNums
  rw [w64 (by omega) (by omega)]
  simp only [List.map_cons, List.map_nil]
  rw [show ((48 + (x : Int)) % 256).toNat = 48 + x by omega]
theorem dec_l0 : ∀ (m k x : Nat) (s : List UInt8), x < 10 ^ (m + 1) → m < k → m ≤ 4 → s.length + m ≤ 1000 → spec_l1Dec.l0 k (x : Int) ⟨s.toArray⟩ = some ⟨(Go.Lib.decDigits x ++ s).toArray⟩ := by
  have small : ∀ (k x : Nat) (s : List UInt8), x < 10 → 0 < k → s.length ≤ 1000 → spec_l1Dec.l0 k (x : Int) ⟨s.toArray⟩ = some ⟨(Go.Lib.decDigits x ++ s).toArray⟩ := by
    intro k x s hx hk hs
    obtain ⟨k, rfl⟩ : ∃ z, k = z + 1 := ⟨k - 1, by omega⟩
    rw [spec_l1Dec.l0, if_neg (by omega)]
    simp only [Option.bind_some]
    rw [dig_nums hx, if_pos (by rw [bytes_size, bytes_size]; simp; omega), bytes_append, Go.Lib.decDigits, dif_pos hx]
  intro m
  induction m with
  | zero => intro k x s hx hk _ hs; exact small k x s (by simpa using hx) hk (by omega)
  | succ m ih =>
    intro k x s hx hk hm hs
    by_cases h10 : x < 10
    · exact small k x s h10 (by omega) (by omega)
    · obtain ⟨k, rfl⟩ : ∃ z, k = z + 1 := ⟨k - 1, by omega⟩
      have hbig : x < 100000 := by
        have h4 : m = 0 ∨ m = 1 ∨ m = 2 ∨ m = 3 := by omega
        have : 10 ^ (m + 1 + 1) ≤ 100000 := by rcases h4 with rfl | rfl | rfl | rfl <;> decide
        omega
      have hd : x / 10 < 10 ^ (m + 1) := by
        rw [Nat.pow_succ, Nat.mul_comm] at hx
        exact Nat.div_lt_of_lt_mul hx
      rw [spec_l1Dec.l0, if_pos (by omega)]
      simp only [Option.bind_some]
      have e1 : Int.tmod (x : Int) 10 = ((x % 10 : Nat) : Int) := by rw [Int.tmod_eq_emod_of_nonneg (by omega)]; omega
      have e2 : wrap64 (Int.tdiv (x : Int) 10) = ((x / 10 : Nat) : Int) := by rw [Int.tdiv_eq_ediv_of_nonneg (by omega), w64 (by omega) (by omega)]; omega
      rw [e1, e2, dig_nums (by omega), if_pos (by rw [bytes_size, bytes_size]; simp; omega), bytes_append, ih k (x / 10) _ hd (by omega) (by omega) (by simp; omega)]
      conv => rhs; rw [Go.Lib.decDigits, dif_neg h10]
      simp
theorem spec_l1Dec_pos (x : Nat) (h : x < 100000) {k : Nat} (hk : 20 ≤ k) : spec_l1Dec.f k (x : Int) = some ⟨(Go.Lib.itoa (x : Int)).toArray⟩ := by
  obtain ⟨k, rfl⟩ : ∃ z, k = z + 1 := ⟨k - 1, by omega⟩
  rw [spec_l1Dec.f, if_neg (by omega)]
  have := dec_l0 4 k x [] (by omega) (by omega) (by decide) (by simp)
  rw [List.append_nil] at this
  unfold Go.Lib.itoa
  rw [if_neg (by omega), Int.toNat_natCast]
  exact this

theorem index_one_at (c : UInt8) (a b : List UInt8) (h : c ∉ a) : Go.Lib.index (a ++ c :: b) [c] = (a.length : Nat) := by
  rcases cut_at c (a ++ c :: b) with ⟨_, hn⟩ | ⟨a', b', e, hn, hi⟩
  · exact absurd (by simp) hn
  · have h1 := (sp_hit (b := b) h).1
    have h2 := (sp_hit (b := b') hn).1
    rw [e, h2] at h1
    rw [hi, h1]
/-- A text cut at the first byte c. -/
def cutP (s : ByteArray) (c : UInt8) : ByteArray × ByteArray × Bool := (⟨(Go.Lib.cut s.data.toList [c]).1.toArray⟩, ⟨(Go.Lib.cut s.data.toList [c]).2.1.toArray⟩, (Go.Lib.cut s.data.toList [c]).2.2)
theorem cut_miss (c : UInt8) (l : List UInt8) (h : c ∉ l) : Go.Lib.cut l [c] = (l, [], false) := by
  rcases cut_at c l with ⟨hi, _⟩ | ⟨a, b, e, _, _⟩
  · unfold Go.Lib.cut
    rw [hi, if_neg (by decide)]
  · rw [e] at h
    exact absurd (by simp) h
theorem cut_hit (c : UInt8) (a b : List UInt8) (h : c ∉ a) : Go.Lib.cut (a ++ c :: b) [c] = (a, b, true) := by
  unfold Go.Lib.cut
  rw [index_one_at c a b h, if_pos (by omega), Int.toNat_natCast]
  simp
theorem ext_list (s : ByteArray) (i : Nat) : (s.extract 0 i).data.toList = s.data.toList.take i ∧ (s.extract i s.size).data.toList = s.data.toList.drop i := ⟨Go.Lib.extract_from_zero s i, by
  rw [ByteArray.data_extract, Array.toList_extract, List.extract]
  exact List.take_of_length_le (by rw [List.length_drop, len_list]; exact Nat.le_refl _)⟩
theorem ba_list {s : ByteArray} {l : List UInt8} (h : s.data.toList = l) : s = ⟨l.toArray⟩ := by
  rw [← h]
theorem spec_l1Cut_l0 (s : ByteArray) (hs : s.size ≤ 140737488351232) (c : UInt8) : ∀ (n k i : Nat), i + n = s.size → n < k → c ∉ s.data.toList.take i → spec_l1Cut.l0 k s (c.toNat : Int) (i : Int) = some (cutP s c) := by
  intro n
  induction n with
  | zero =>
    intro k i hi hk hc
    obtain ⟨k, rfl⟩ : ∃ m, k = m + 1 := ⟨k - 1, by omega⟩
    simp only [spec_l1Cut.l0]
    rw [List.take_of_length_le (by rw [len_list]; omega)] at hc
    rw [if_neg (by omega)]
    unfold cutP
    rw [cut_miss c _ hc]
  | succ n ih =>
    intro k i hi hk hc
    obtain ⟨k, rfl⟩ : ∃ m, k = m + 1 := ⟨k - 1, by omega⟩
    have hw : wrap64 ((i : Int) + 1) = ((i + 1 : Nat) : Int) := by rw [w64 (by omega) (by omega)]; omega
    obtain ⟨x, hx, bx⟩ := bt_drop s i (by omega)
    have ht : s.data.toList.take (i + 1) = s.data.toList.take i ++ [x] := by
      have h2 : s.data.toList[i]? = some x := by
        have := congrArg List.head? hx
        simpa [List.head?_drop] using this
      rw [List.take_add_one, h2]
      rfl
    simp only [spec_l1Cut.l0]
    rw [if_pos (by omega), if_pos (by omega), hw, bx]
    by_cases h : x = c
    · subst h
      have hl : s.data.toList = s.data.toList.take i ++ x :: s.data.toList.drop (i + 1) := by
        rw [← hx]
        exact (List.take_append_drop i _).symm
      have hcut : Go.Lib.cut s.data.toList [x] = (s.data.toList.take i, s.data.toList.drop (i + 1), true) := by
        conv => lhs; rw [hl]
        exact cut_hit x _ _ hc
      rw [if_pos rfl, if_pos (by omega), if_pos (by omega), if_pos (by omega)]
      unfold cutP
      rw [hcut, Int.toNat_natCast, Int.toNat_natCast, ba_list (ext_list s i).1, ba_list (ext_list s (i + 1)).2]
    · have hne : ¬ ((x.toNat : Int) = (c.toNat : Int)) := by
        intro e
        exact h (UInt8.toNat_inj.1 (by omega))
      rw [if_neg hne]
      refine ih k (i + 1) (by omega) (by omega) ?_
      rw [ht]
      simp only [List.mem_append, List.mem_singleton, not_or]
      exact ⟨hc, fun e => h e.symm⟩
theorem spec_l1Cut_eq (s : ByteArray) (hs : s.size ≤ 140737488351232) (c : UInt8) {k : Nat} (hk : s.size < k) : spec_l1Cut.f k s (c.toNat : Int) = some (cutP s c) := spec_l1Cut_l0 s hs c s.size k 0 (by omega) hk (by simp)
theorem cutP_size (s : ByteArray) (c : UInt8) : (cutP s c).1.size ≤ s.size ∧ (cutP s c).2.1.size ≤ s.size ∧ ((cutP s c).2.2 = true → (cutP s c).2.1.size < s.size) := by
  have hl := len_list s
  unfold cutP
  rcases cut_at c s.data.toList with ⟨_, hn⟩ | ⟨a, b, e, hn, _⟩
  · rw [cut_miss c _ hn]
    exact ⟨Nat.le_of_eq hl, Nat.zero_le _, fun h => by cases h⟩
  · have hlen := congrArg List.length e
    rw [e, cut_hit c a b hn]
    simp only [List.length_append, List.length_cons] at hlen
    refine ⟨?_, ?_, fun _ => ?_⟩
    · show a.length ≤ _
      omega
    · show b.length ≤ _
      omega
    · show b.length < _
      omega

/-- The words of the ops, from kind 4 on. -/
def opW : List (List UInt8) := [[110, 101, 103], [110, 111, 116], [104, 105, 103, 104], [108, 111, 119], [43], [45], [42], [47], [37], [38], [94], [124], [60, 60], [62, 62]]
/-- The text of a node. -/
def nodeT3 (κ n : Int) (s : ByteArray) : List UInt8 := if κ = 1 then Go.Lib.itoa n else if κ = 2 then s.data.toList else if κ = 3 then 35 :: s.data.toList else opW.getD (κ - 4).toNat []
def nodeT (x : Nd) : List UInt8 := nodeT3 x.1 x.2.1 x.2.2
theorem dec5 (x : Nat) (hx : x < 100000) : (Go.Lib.decDigits x).length ≤ 5 := by
  have h : ∀ (m x : Nat), x < 10 ^ (m + 1) → (Go.Lib.decDigits x).length ≤ m + 1 := by
    intro m
    induction m with
    | zero =>
      intro x hx
      rw [Go.Lib.decDigits, dif_pos (by simpa using hx)]
      simp
    | succ m ih =>
      intro x hx
      rw [Go.Lib.decDigits]
      split
      · simp
      · have := ih (x / 10) (by
          rw [Nat.pow_succ, Nat.mul_comm] at hx
          exact Nat.div_lt_of_lt_mul hx)
        simp only [List.length_append, List.length_singleton]
        omega
  exact h 4 x (by omega)
theorem opW_cases {κ : Int} (h : 4 ≤ κ ∧ κ ≤ 17) : κ = 4 ∨ κ = 5 ∨ κ = 6 ∨ κ = 7 ∨ κ = 8 ∨ κ = 9 ∨ κ = 10 ∨ κ = 11 ∨ κ = 12 ∨ κ = 13 ∨ κ = 14 ∨ κ = 15 ∨ κ = 16 ∨ κ = 17 := by omega
theorem nodeOk_in {x : Nd} (h : nodeOk x = true) : (x.1 = 1 ∧ 0 ≤ x.2.1 ∧ x.2.1 ≤ 65535) ∨ ((x.1 = 2 ∨ x.1 = 3) ∧ x.2.2.size ≤ 16) ∨ (4 ≤ x.1 ∧ x.1 ≤ 17) := by
  unfold nodeOk at h
  by_cases h1 : x.1 = 1
  · rw [if_pos h1, Bool.and_eq_true, inR_iff] at h
    exact .inl ⟨h1, h.1⟩
  · by_cases h2 : x.1 = 2 ∨ x.1 = 3
    · rw [if_neg h1, if_pos h2, Bool.and_eq_true] at h
      have := h.2
      unfold nameOk at this
      rw [Bool.and_eq_true, inR_iff] at this
      exact .inr (.inl ⟨h2, by omega⟩)
    · rw [if_neg h1, if_neg h2, Bool.and_eq_true, inR_iff] at h
      exact .inr (.inr h.1)
theorem nodeT_len {x : Nd} (h : nodeOk x = true) : (nodeT x).length ≤ 17 := by
  unfold nodeT nodeT3
  rcases nodeOk_in h with ⟨h1, h2, h3⟩ | ⟨h1, h2⟩ | h1
  · rw [if_pos h1]
    unfold Go.Lib.itoa
    rw [if_neg (by omega)]
    have := dec5 x.2.1.toNat (by omega)
    omega
  · have hl : x.2.2.data.toList.length = x.2.2.size := by rw [Array.length_toList]; rfl
    rcases h1 with h1 | h1
    · rw [if_neg (by omega), if_pos h1]
      omega
    · rw [if_neg (by omega), if_neg (by omega), if_pos h1, List.length_cons]
      omega
  · rw [if_neg (by omega), if_neg (by omega), if_neg (by omega)]
    rcases opW_cases h1 with e | e | e | e | e | e | e | e | e | e | e | e | e | e <;> rw [e] <;> decide
theorem exprGo_all : ∀ (l : List Nd) (d : Int), exprGo l d = true → ∀ x ∈ l, nodeOk x = true
  | [], _, _ => by simp
  | x :: r, d, h => by
    rw [exprGo, Bool.and_eq_true, Bool.and_eq_true] at h
    intro y hy
    rcases List.mem_cons.1 hy with rfl | hy
    · exact h.1
    · exact exprGo_all r _ h.2.2 y hy
theorem rd_words {κ : Int} (h : 4 ≤ κ ∧ κ ≤ 17) : ∃ W, spec_l2Words.f = some W ∧ W.length = 18 ∧ rdOf ByteArray.empty W κ = ⟨(opW.getD (κ - 4).toNat []).toArray⟩ := by
  refine ⟨_, rfl, rfl, ?_⟩
  rcases opW_cases h with e | e | e | e | e | e | e | e | e | e | e | e | e | e <;> rw [e] <;> rfl
theorem spec_ExprText_j1 (l : List S77) (hl : l.length ≤ 30) (i : Nat) (hi : i < l.length) (acc : ByteArray) (ha : acc.size ≤ 1000) (hx : nodeOk (nd_ (l.getD i z77)) = true) {k : Nat} (hk : 30 ≤ k) :
    spec_ExprText.j1 (k + 1) l acc (i : Int) = spec_ExprText.l0 k l (acc ++ ⟨(nodeT (nd_ (l.getD i z77))).toArray⟩) ((i + 1 : Nat) : Int) := by
  have hrd : rd_T77 l (i : Int) = l.getD i z77 := by unfold rd_T77; rw [Int.toNat_natCast]
  simp only [spec_ExprText.j1]
  rw [if_pos (by omega), if_pos (by omega), hrd, up1 (by omega : i < l.length) (by omega)]
  have hT := nodeT_len hx
  have hin := nodeOk_in hx
  generalize l.getD i z77 = x at hT hin
  rw [show nodeT (nd_ x) = nodeT3 x.f0 x.f1 x.f2 from rfl] at hT ⊢
  replace hin : (x.f0 = 1 ∧ 0 ≤ x.f1 ∧ x.f1 ≤ 65535) ∨ ((x.f0 = 2 ∨ x.f0 = 3) ∧ x.f2.size ≤ 16) ∨ (4 ≤ x.f0 ∧ x.f0 ≤ 17) := hin
  unfold nodeT3 at hT ⊢
  rcases hin with ⟨h1, h2, h3⟩ | ⟨h1, h2⟩ | h1
  · rw [if_pos h1] at hT ⊢
    rw [if_pos h1]
    obtain ⟨m, hm⟩ : ∃ m : Nat, x.f1 = (m : Int) := ⟨x.f1.toNat, by omega⟩
    rw [hm] at hT ⊢
    rw [spec_l1Dec_pos m (by omega) (by omega)]
    simp only [Option.bind_some]
    rw [if_pos (by rw [bytes_size (Go.Lib.itoa (m : Int))]; omega)]
  · have hd : (⟨x.f2.data.toList.toArray⟩ : ByteArray) = x.f2 := rfl
    rcases h1 with h1 | h1
    · rw [if_neg (by omega), if_pos h1, if_pos (by omega), if_neg (by omega), if_pos h1, hd]
    · have hz : (acc ++ (⟨#[35]⟩ : ByteArray)).size = acc.size + 1 := by rw [ByteArray.size_append]; rfl
      rw [if_neg (by omega), if_neg (by omega), if_pos h1, if_pos (by omega), if_pos (by omega), if_neg (by omega), if_neg (by omega), if_pos h1]
      refine congrArg (fun z => spec_ExprText.l0 k l z _) ?_
      refine ByteArray.ext (Array.toList_inj.1 ?_)
      simp [ByteArray.data_append, Array.toList_append]
  · rw [if_neg (by omega), if_neg (by omega), if_neg (by omega)] at hT
    obtain ⟨W, hW, hWl, hr⟩ := rd_words h1
    rw [if_neg (by omega), if_neg (by omega), if_neg (by omega), hW, if_neg (by omega), if_neg (by omega), if_neg (by omega)]
    simp only [Option.bind_some]
    rw [hr, if_pos (by omega), if_pos (by omega), if_pos (by rw [bytes_size (opW.getD (x.f0 - 4).toNat [])]; omega)]
theorem spec_ExprText_l0 (l : List S77) (hl : l.length ≤ 30) (hok : ∀ x ∈ l, nodeOk (nd_ x) = true) : ∀ (n k i : Nat) (acc : ByteArray), i + n = l.length → 1 ≤ i → acc.size ≤ 20 * i → 2 * n + 40 < k → spec_ExprText.l0 k l acc (i : Int) = some ⟨(acc.data.toList ++ Go.Lib.joinTail [32] (((l.drop i).map nd_).map nodeT)).toArray⟩ := by
  intro n
  induction n with
  | zero =>
    intro k i acc hi h1 ha hk
    obtain ⟨k, rfl⟩ : ∃ m, k = m + 1 := ⟨k - 1, by omega⟩
    simp only [spec_ExprText.l0]
    rw [if_neg (by omega), List.drop_eq_nil_of_le (by omega)]
    simp [Go.Lib.joinTail]
  | succ n ih =>
    intro k i acc hi h1 ha hk
    obtain ⟨k, rfl⟩ : ∃ m, k = m + 2 := ⟨k - 2, by omega⟩
    have hx := hok _ (getD_mem z77 l i (by omega))
    have hz : (acc ++ (⟨#[32]⟩ : ByteArray)).size = acc.size + 1 := by rw [ByteArray.size_append]; rfl
    have hT := nodeT_len hx
    rw [spec_ExprText.l0, if_pos (by omega), if_pos (by omega), if_pos (by omega), spec_ExprText_j1 l hl i (by omega) _ (by omega) hx (by omega)]
    rw [ih k (i + 1) _ (by omega) (by omega) (by rw [ByteArray.size_append, hz, bytes_size (nodeT (nd_ (l.getD i z77)))]; omega) (by omega), drop_at z77 l i (by omega), List.map_cons, List.map_cons, jtail_cons]
    simp [ByteArray.data_append, Array.toList_append]
/-- The text of an expression. -/
def exprT (l : List Nd) : ByteArray := if exprOk l = true then ⟨(Go.Lib.join (l.map nodeT) [32]).toArray⟩ else ⟨#[]⟩
theorem exprOk_parts {l : List Nd} (h : exprOk l = true) : l.length ≤ 30 ∧ 1 ≤ l.length ∧ ∀ x ∈ l, nodeOk x = true := by
  unfold exprOk at h
  rw [Bool.and_eq_true, decide_eq_true_eq] at h
  refine ⟨by omega, ?_, exprGo_all l 0 h.2⟩
  cases l with
  | nil => exact absurd h.2 (by decide)
  | cons x r => simp
theorem spec_ExprText_eq (l : List S77) (hl : l.length ≤ 1048576) {k : Nat} (hk : l.length + 200 ≤ k) : spec_ExprText.f k l = some (exprT (l.map nd_)) := by
  unfold spec_ExprText.f exprT
  rw [spec_ExprOk_eq l hl (by omega)]
  simp only [Option.bind_some]
  by_cases h : exprOk (l.map nd_) = true
  · rw [if_pos h, if_pos h]
    obtain ⟨h1, h2, h3⟩ := exprOk_parts h
    rw [List.length_map] at h1 h2
    have hok : ∀ x ∈ l, nodeOk (nd_ x) = true := fun x hx => h3 _ (List.mem_map_of_mem hx)
    obtain ⟨k, rfl⟩ : ∃ m, k = m + 2 := ⟨k - 2, by omega⟩
    have hx := hok _ (getD_mem z77 l 0 (by omega))
    have hT := nodeT_len hx
    have hj := spec_ExprText_j1 l h1 0 (by omega) ⟨#[]⟩ (by show 0 ≤ 1000; omega) hx (k := k) (by omega)
    rw [show ((0 : Nat) : Int) = 0 from rfl] at hj
    rw [spec_ExprText.l0, if_pos (by omega), if_neg (by omega), hj, spec_ExprText_l0 l h1 hok (l.length - 1) k 1 _ (by omega) (by omega) (by rw [ByteArray.size_append, bytes_size (nodeT (nd_ (l.getD 0 z77))), show (⟨#[]⟩ : ByteArray).size = 0 from rfl]; omega) (by omega)]
    have hd := drop_at z77 l 0 (by omega)
    rw [List.drop_zero] at hd
    have hm : (l.map nd_).map nodeT = nodeT (nd_ (l.getD 0 z77)) :: (((l.drop 1).map nd_).map nodeT) := by
      conv => lhs; rw [hd]
      rfl
    rw [hm, Go.Lib.join_cons]
    simp [ByteArray.data_append, Array.toList_append]
  · rw [if_neg h, if_neg h]

theorem opWords_eq : impl_opWords.f = some (opW.map fun l => (⟨l.toArray⟩ : ByteArray)) := by
  have hs : ∀ (s : ByteArray), s.size ≤ 1000 → strings_Split.f s ⟨#[32]⟩ = some ((sp 32 s.data.toList).map fun l => (⟨l.toArray⟩ : ByteArray)) := by
    intro s hz
    unfold strings_Split.f
    rw [if_pos (by omega), if_pos (by show 1 ≤ 1; omega)]
    refine congrArg some (map_data _ _ ?_)
    rw [Go.Lib.splitB_data]
    exact splitK_sp 32 _ _ rfl
  unfold impl_opWords.f
  rw [hs _ (by decide)]
  rfl
theorem impl_exprText_l0 (l : List S77) (hl : l.length ≤ 30) (hok : ∀ x ∈ l, nodeOk (nd_ x) = true) : ∀ (n k i : Nat) (acc : List ByteArray), i + n = l.length → acc.length = i → n < k → impl_exprText.l0 k acc l (l.length : Int) (i : Int) = strings_Join.f (acc ++ (((l.drop i).map nd_).map nodeT).map fun l => (⟨l.toArray⟩ : ByteArray)) ⟨#[32]⟩ := by
  have hb0 : ∀ o : Option ByteArray, (o.bind fun t => some t) = o := fun o => by cases o <;> rfl
  intro n
  induction n with
  | zero =>
    intro k i acc hi ha hk
    obtain ⟨k, rfl⟩ : ∃ m, k = m + 1 := ⟨k - 1, by omega⟩
    simp only [impl_exprText.l0]
    rw [if_neg (by omega), List.drop_eq_nil_of_le (by omega), hb0]
    simp
  | succ n ih =>
    intro k i acc hi ha hk
    obtain ⟨k, rfl⟩ : ∃ m, k = m + 1 := ⟨k - 1, by omega⟩
    have hx := hok _ (getD_mem z77 l i (by omega))
    have hrd : rd_T77 l (i : Int) = l.getD i z77 := by unfold rd_T77; rw [Int.toNat_natCast]
    have hlen : acc.length < 8796093022208 := by omega
    have next : ∀ (t : ByteArray), t = ⟨(nodeT (nd_ (l.getD i z77))).toArray⟩ → impl_exprText.l0 k (acc ++ [t]) l (l.length : Int) ((i + 1 : Nat) : Int) = strings_Join.f (acc ++ (((l.drop i).map nd_).map nodeT).map fun l => (⟨l.toArray⟩ : ByteArray)) ⟨#[32]⟩ := by
      intro t ht
      rw [ih k (i + 1) _ (by omega) (by rw [List.length_append, List.length_singleton]; omega) (by omega), drop_at z77 l i (by omega), ht]
      simp
    simp only [impl_exprText.l0]
    rw [if_pos (by omega), if_pos (by omega), if_pos (by omega), hrd, up1 (by omega : i < l.length) (by omega)]
    have hin := nodeOk_in hx
    generalize l.getD i z77 = x at hin next
    rw [show nodeT (nd_ x) = nodeT3 x.f0 x.f1 x.f2 from rfl] at next
    replace hin : (x.f0 = 1 ∧ 0 ≤ x.f1 ∧ x.f1 ≤ 65535) ∨ ((x.f0 = 2 ∨ x.f0 = 3) ∧ x.f2.size ≤ 16) ∨ (4 ≤ x.f0 ∧ x.f0 ≤ 17) := hin
    unfold nodeT3 at next
    rcases hin with ⟨h1, h2, h3⟩ | ⟨h1, h2⟩ | h1
    · rw [if_pos h1] at next ⊢
      unfold impl_decimal.f strconv_FormatInt.f
      rw [if_pos rfl, if_pos (by omega), if_pos (by omega)]
      simp only [Option.bind_some]
      rw [if_pos hlen]
      exact next _ rfl
    · have hd : (⟨x.f2.data.toList.toArray⟩ : ByteArray) = x.f2 := rfl
      rcases h1 with h1 | h1
      · rw [if_neg (by omega), if_pos h1, if_pos hlen]
        rw [if_neg (by omega), if_pos h1] at next
        exact next _ rfl
      · rw [if_neg (by omega), if_neg (by omega), if_pos h1, if_pos (by omega), if_pos hlen]
        rw [if_neg (by omega), if_neg (by omega), if_pos h1] at next
        refine next _ ?_
        refine ByteArray.ext (Array.toList_inj.1 ?_)
        simp [ByteArray.data_append, Array.toList_append]
    · rw [if_neg (by omega), if_neg (by omega), if_neg (by omega), opWords_eq]
      rw [if_neg (by omega), if_neg (by omega), if_neg (by omega)] at next
      have hw : wrap64 (x.f0 - 4) = x.f0 - 4 := w64 (by omega) (by omega)
      simp only [Option.bind_some]
      have hwl : ((opW.map fun l => (⟨l.toArray⟩ : ByteArray)).length : Int) = 14 := rfl
      rw [hw, hwl, if_pos (by omega), if_pos (by omega), if_pos hlen]
      refine next _ ?_
      rcases opW_cases h1 with e | e | e | e | e | e | e | e | e | e | e | e | e | e <;> rw [e] <;> rfl
theorem join_len_le (c : UInt8) (m : Nat) : ∀ xs : List (List UInt8), (∀ x ∈ xs, x.length ≤ m) → (Go.Lib.join xs [c]).length ≤ (m + 1) * xs.length
  | [], _ => by simp [Go.Lib.join_nil]
  | [x], h => by
    have := h x List.mem_cons_self
    rw [Go.Lib.join_one]
    simp
    omega
  | x :: y :: r, h => by
    have h1 := h x List.mem_cons_self
    have h2 := join_len_le c m (y :: r) (fun z hz => h z (List.mem_cons_of_mem _ hz))
    rw [join_cons2, List.length_append, List.length_append, List.length_singleton]
    rw [List.length_cons (a := x), Nat.mul_succ]
    omega
theorem impl_exprText_eq (l : List S77) (h : exprOk (l.map nd_) = true) {k : Nat} (hk : 40 ≤ k) : impl_exprText.f k l = some (exprT (l.map nd_)) := by
  unfold exprT
  rw [if_pos h]
  obtain ⟨h1, h2, h3⟩ := exprOk_parts h
  have h1' := h1
  rw [List.length_map] at h1 h2
  have hok : ∀ x ∈ l, nodeOk (nd_ x) = true := fun x hx => h3 _ (List.mem_map_of_mem hx)
  have hj := impl_exprText_l0 l h1 hok l.length k 0 [] (by omega) rfl (by omega)
  rw [show ((0 : Nat) : Int) = 0 from rfl, List.drop_zero, List.nil_append] at hj
  unfold impl_exprText.f
  rw [hj]
  have hlen := join_len_le 32 17 ((l.map nd_).map nodeT) (by
    intro x hx
    obtain ⟨y, hy, rfl⟩ := List.mem_map.1 hx
    exact nodeT_len (h3 y hy))
  rw [List.length_map, List.length_map] at hlen
  have hd : ((((l.map nd_).map nodeT).map fun l => (⟨l.toArray⟩ : ByteArray)).map (·.data.toList)) = (l.map nd_).map nodeT := by
    rw [List.map_map]
    conv => rhs; rw [← List.map_id ((l.map nd_).map nodeT)]
    apply List.map_congr_left
    intro x _
    rfl
  have e32 : (⟨#[32]⟩ : ByteArray).data.toList = [32] := rfl
  unfold strings_Join.f
  rw [hd, e32, if_pos (by simp only [List.length_map]; omega), if_pos (by omega)]

theorem allB_mem (p : Int → Bool) (s : ByteArray) : ∀ n i, i + n = s.size → allB p s n i = true → ∀ c ∈ s.data.toList.drop i, p (c.toNat : Int) = true
  | 0, i, hi, _, c, hc => by
    rw [drop_end s i (by omega)] at hc
    cases hc
  | n + 1, i, hi, h, c, hc => by
    obtain ⟨x, h1, h2⟩ := bt_drop s i (by omega)
    rw [allB, Bool.and_eq_true, h2] at h
    rw [h1] at hc
    rcases List.mem_cons.1 hc with rfl | hc
    · exact h.1
    · exact allB_mem p s n (i + 1) (by omega) h.2 c hc
theorem name_bytes {s : ByteArray} (h : nameOk s = true) : (∀ c ∈ s.data.toList, isNam (c.toNat : Int) = true) ∧ ∃ x r, s.data.toList = x :: r ∧ bt s 0 = (x.toNat : Int) ∧ isLet (x.toNat : Int) = true := by
  unfold nameOk at h
  rw [Bool.and_eq_true, Bool.and_eq_true, inR_iff] at h
  obtain ⟨h0, h1, h2⟩ := h
  have hm := allB_mem isNam s s.size 0 (by omega) h2
  rw [List.drop_zero] at hm
  refine ⟨hm, ?_⟩
  obtain ⟨x, hx, bx⟩ := bt_drop s 0 (by omega)
  rw [List.drop_zero] at hx
  have bx' : bt s 0 = (x.toNat : Int) := bx
  refine ⟨x, _, hx, bx', ?_⟩
  have := hm x (by rw [hx]; exact List.mem_cons_self)
  unfold isNam at this
  rw [bx'] at h1
  simp only [Bool.not_eq_true'] at h1
  rw [h1, Bool.or_false] at this
  exact this
theorem let_range {c : Int} (h : isLet c = true) : (97 ≤ c ∧ c ≤ 122) ∨ c = 95 ∨ c = 46 := by
  unfold isLet at h
  rw [Bool.or_eq_true, Bool.or_eq_true, inR_iff, beq_iff_eq, beq_iff_eq] at h
  exact h
theorem nam_range {c : Int} (h : isNam c = true) : (97 ≤ c ∧ c ≤ 122) ∨ c = 95 ∨ c = 46 ∨ (48 ≤ c ∧ c ≤ 57) := by
  unfold isNam at h
  rw [Bool.or_eq_true, inR_iff] at h
  rcases h with h | h
  · rcases let_range h with h | h | h <;> simp [h]
  · exact .inr (.inr (.inr h))
def opGo : List (List UInt8) → Nat → List UInt8 → Option Nat
  | [], _, _ => none
  | x :: r, j, l => if x = l then some j else opGo r (j + 1) l
def opIdx (l : List UInt8) : Option Nat := opGo opW 0 l
theorem opGo_mem : ∀ (ws : List (List UInt8)) (j : Nat) (l : List UInt8) (i : Nat), opGo ws j l = some i → l ∈ ws
  | [], _, _, _, h => by cases h
  | x :: r, j, l, i, h => by
    rw [opGo] at h
    split at h
    · rename_i e
      rw [e]
      exact List.mem_cons_self
    · exact List.mem_cons_of_mem _ (opGo_mem r (j + 1) l i h)
theorem opGo_at : ∀ (ws : List (List UInt8)) (j : Nat) (l : List UInt8) (i : Nat), opGo ws j l = some i → j ≤ i ∧ i < j + ws.length ∧ ws.getD (i - j) [] = l
  | [], _, _, _, h => by cases h
  | x :: r, j, l, i, h => by
    rw [opGo] at h
    split at h
    · rename_i e
      obtain rfl := Option.some.inj h
      exact ⟨Nat.le_refl _, by simp, by simp [e]⟩
    · obtain ⟨h1, h2, h3⟩ := opGo_at r (j + 1) l i h
      refine ⟨by omega, by simp; omega, ?_⟩
      rw [show i - j = (i - (j + 1)) + 1 by omega, List.getD_cons_succ]
      exact h3
theorem opIdx_head {l : List UInt8} {j : Nat} (h : opIdx l = some j) : ∃ x r, l = x :: r ∧ x.toNat ≠ 35 ∧ ¬ (48 ≤ x.toNat ∧ x.toNat ≤ 57) := by
  have hm := opGo_mem _ _ _ _ h
  have hall : ∀ y ∈ opW, ∃ x r, y = x :: r ∧ x.toNat ≠ 35 ∧ ¬ (48 ≤ x.toNat ∧ x.toNat ≤ 57) := by
    intro y hy
    simp only [opW, List.mem_cons, List.not_mem_nil, or_false] at hy
    rcases hy with rfl | rfl | rfl | rfl | rfl | rfl | rfl | rfl | rfl | rfl | rfl | rfl | rfl | rfl <;> exact ⟨_, _, rfl, by decide, by decide⟩
  exact hall l hm
def hashB (w : ByteArray) : Bool := decide (w.size ≠ 0) && decide (bt w 0 = 35)
/-- The node that a word is, as the reference reads it. -/
def readS (w : ByteArray) : Nd := match opIdx w.data.toList with
  | some j => (4 + (j : Int), 0, ⟨#[]⟩)
  | none => match numOf w with
    | some n => (1, n, ⟨#[]⟩)
    | none => if hashB w = true then (3, 0, w.extract 1 w.size) else (2, 0, w)
theorem words_at (i : Nat) (h4 : 4 ≤ i) (h : i < 18) : ∃ W, spec_l2Words.f = some W ∧ W.length = 18 ∧ (rdOf ByteArray.empty W (i : Int)) = ⟨(opW.getD (i - 4) []).toArray⟩ := by
  refine ⟨_, rfl, rfl, ?_⟩
  have : i = 4 ∨ i = 5 ∨ i = 6 ∨ i = 7 ∨ i = 8 ∨ i = 9 ∨ i = 10 ∨ i = 11 ∨ i = 12 ∨ i = 13 ∨ i = 14 ∨ i = 15 ∨ i = 16 ∨ i = 17 := by omega
  rcases this with e | e | e | e | e | e | e | e | e | e | e | e | e | e <;> rw [e] <;> rfl
theorem list_eq_iff (w : ByteArray) (l : List UInt8) : ((⟨l.toArray⟩ : ByteArray).toList = w.toList) ↔ l = w.data.toList := by
  constructor
  · intro h
    have := toList_inj h
    rw [← this]
  · intro h
    rw [h]
theorem spec_l2Word_l0 (w : ByteArray) (hw : w.size ≤ 1048576) (W : List ByteArray) (hW : spec_l2Words.f = some W) : ∀ (n k i : Nat), i + n = 18 → 4 ≤ i → n + 41 ≤ k → spec_l2Word.l0 k w W (i : Int) = some (match opGo (opW.drop (i - 4)) (i - 4) w.data.toList with
    | some j => (4 + (j : Int), 0, ⟨#[]⟩)
    | none => match numOf w with
      | some n => (1, n, ⟨#[]⟩)
      | none => if hashB w = true then (3, 0, w.extract 1 w.size) else (2, 0, w)) := by
  intro n
  induction n with
  | zero =>
    intro k i hi h4 hk
    obtain ⟨k, rfl⟩ : ∃ m, k = m + 1 := ⟨k - 1, by omega⟩
    obtain rfl : i = 18 := by omega
    have hd : opW.drop (18 - 4) = [] := rfl
    simp only [spec_l2Word.l0]
    rw [if_neg (by omega), spec_ReadNum_eq w (by omega), hd]
    simp only [Option.bind_some, opGo, told]
    cases hn : numOf w with
    | some v => simp
    | none =>
      simp only [Option.isSome_none, Bool.false_eq_true, if_false]
      unfold hashB
      by_cases h0 : w.size = 0
      · rw [if_pos (size_zero.2 h0)]
        simp [h0]
      · rw [if_neg (fun h => h0 (size_zero.1 h)), if_pos (by omega)]
        by_cases h1 : bt w 0 = 35
        · rw [if_pos h1, if_pos (by omega), decide_eq_true h0, decide_eq_true h1]
          rfl
        · rw [if_neg h1, decide_eq_false h1]
          simp
  | succ n ih =>
    intro k i hi h4 hk
    obtain ⟨k, rfl⟩ : ∃ m, k = m + 1 := ⟨k - 1, by omega⟩
    obtain ⟨W', hW', hl, hr⟩ := words_at i h4 (by omega)
    obtain rfl : W = W' := Option.some.inj (hW.symm.trans hW')
    have hd : opW.drop (i - 4) = opW.getD (i - 4) [] :: opW.drop (i - 4 + 1) := drop_at [] opW (i - 4) (by show i - 4 < 14; omega)
    simp only [spec_l2Word.l0]
    rw [if_pos (by omega), if_pos (by omega), if_pos (by omega), hr, hd, opGo]
    by_cases c : opW.getD (i - 4) [] = w.data.toList
    · rw [if_pos ((list_eq_iff w _).2 c), if_pos c]
      simp
      omega
    · rw [if_neg (fun h => c ((list_eq_iff w _).1 h)), if_neg c]
      have hw1 : wrap64 ((i : Int) + 1) = ((i + 1 : Nat) : Int) := by rw [w64 (by omega) (by omega)]; omega
      rw [hw1, ih k (i + 1) (by omega) (by omega) (by omega), show i + 1 - 4 = i - 4 + 1 by omega]
theorem spec_l2Word_eq (w : ByteArray) (hw : w.size ≤ 1048576) {k : Nat} (hk : 60 ≤ k) : spec_l2Word.f k w = some (readS w) := by
  unfold spec_l2Word.f
  obtain ⟨W, hW, _, _⟩ := words_at 4 (by omega) (by omega)
  rw [hW]
  simp only [Option.bind_some]
  exact spec_l2Word_l0 w hw W hW 14 k 4 (by omega) (by omega) (by omega)
/-- A node as the list's element. -/
def mkN (x : Nd) : S77 := ⟨x.1, x.2.1, x.2.2⟩
theorem map_nd_mkN (l : List Nd) : (l.map mkN).map nd_ = l := by
  rw [List.map_map]
  conv => rhs; rw [← List.map_id l]
  rfl
def ofL (l : List UInt8) : ByteArray := ⟨l.toArray⟩
/-- What the reference reads: at most 31 words. -/
def rdSpec (s : ByteArray) : List S77 × Bool :=
  if (exprT (((sp 32 s.data.toList).take 31).map fun w => readS (ofL w))).toList = s.toList ∧ s.toList ≠ [] then (((sp 32 s.data.toList).take 31).map (fun w => mkN (readS (ofL w))), true) else ([], false)
theorem sp_cut (c : UInt8) (l : List UInt8) : sp c l = (Go.Lib.cut l [c]).1 :: (if (Go.Lib.cut l [c]).2.2 = true then sp c (Go.Lib.cut l [c]).2.1 else []) := by
  by_cases h : c ∈ l
  · obtain ⟨a, b, rfl, ha⟩ := List.eq_append_cons_of_mem h
    rw [cut_hit c a b ha]
    obtain ⟨h1, h2⟩ := sp_hit (b := b) ha
    rw [sp, h1, h2]
    rfl
  · rw [cut_miss c l h]
    obtain ⟨h1, h2⟩ := sp_miss h
    rw [sp, h1, h2]
    rfl
theorem spec_ReadExpr_fin (s : ByteArray) (out : List Nd) (hl : out.length ≤ 40) {k : Nat} (hk : 1000 ≤ k) (b : ByteArray) : spec_ReadExpr.j1 (k + 1) s (out.map mkN) b false = some (if (exprT out).toList = s.toList ∧ s.toList ≠ [] then (out.map mkN, true) else ([], false)) := by
  rw [spec_ReadExpr.j1, if_neg (by decide), spec_ExprText_eq _ (by rw [List.length_map]; omega) (by rw [List.length_map]; omega), map_nd_mkN]
  by_cases h0 : s.toList = []
  · rw [if_pos h0, if_neg (fun h => h.2 h0)]
  · rw [if_neg h0]
    simp only [Option.bind_some]
    by_cases h1 : (exprT out).toList = s.toList
    · rw [if_pos h1, if_pos ⟨h1, h0⟩]
    · rw [if_neg h1, if_neg (fun h => h1 h.1)]
theorem spec_ReadExpr_l0 (s : ByteArray) : ∀ (n k : Nat) (out : List Nd) (b : ByteArray), out.length + n = 31 → b.size ≤ 1048576 → 2 * n + 1050000 ≤ k →
    spec_ReadExpr.l0 k s (out.map mkN) b true = some (if (exprT (out ++ ((sp 32 b.data.toList).take n).map fun w => readS (ofL w))).toList = s.toList ∧ s.toList ≠ [] then ((out ++ ((sp 32 b.data.toList).take n).map fun w => readS (ofL w)).map mkN, true) else ([], false)) := by
  intro n
  induction n with
  | zero =>
    intro k out b hi hb hk
    obtain ⟨k, rfl⟩ : ∃ m, k = m + 2 := ⟨k - 2, by omega⟩
    rw [spec_ReadExpr.l0, if_pos rfl, List.length_map, decide_eq_false (by omega), spec_ReadExpr_fin s out (by omega) (by omega)]
    simp
  | succ n ih =>
    intro k out b hi hb hk
    obtain ⟨k, rfl⟩ : ∃ m, k = m + 2 := ⟨k - 2, by omega⟩
    rw [spec_ReadExpr.l0, if_pos rfl, List.length_map, decide_eq_true (by omega), spec_ReadExpr.j1, if_pos rfl]
    have hcut := spec_l1Cut_eq b (by omega) 32 (k := k) (by omega)
    rw [show ((32 : UInt8).toNat : Int) = 32 from rfl] at hcut
    have hz := cutP_size b 32
    rw [hcut]
    simp only [Option.bind_some]
    rw [spec_l2Word_eq _ (by omega) (by omega)]
    simp only [Option.bind_some]
    rw [List.length_map, if_pos (by omega)]
    have e1 : out.map mkN ++ [(⟨(readS (cutP b 32).1).1, (readS (cutP b 32).1).2.1, (readS (cutP b 32).1).2.2⟩ : S77)] = (out ++ [readS (cutP b 32).1]).map mkN := by rw [List.map_append]; rfl
    rw [e1, sp_cut 32 b.data.toList, List.take_succ_cons, List.map_cons]
    have e2 : (cutP b 32).1 = ofL (Go.Lib.cut b.data.toList [32]).1 := rfl
    have e3 : (cutP b 32).2.1.data.toList = (Go.Lib.cut b.data.toList [32]).2.1 := rfl
    have e4 : (cutP b 32).2.2 = (Go.Lib.cut b.data.toList [32]).2.2 := rfl
    cases hc : (cutP b 32).2.2 with
    | true =>
      rw [ih k (out ++ [readS (cutP b 32).1]) (cutP b 32).2.1 (by simp; omega) (by omega) (by omega), e3]
      rw [hc] at e4
      rw [← e4, if_pos rfl, e2, List.append_assoc]
      rfl
    | false =>
      obtain ⟨k, rfl⟩ : ∃ m, k = m + 2 := ⟨k - 2, by omega⟩
      rw [hc] at e4
      rw [spec_ReadExpr.l0, if_neg (by decide), spec_ReadExpr_fin s _ (by simp; omega) (by omega), ← e4, if_neg (show ¬ (false = true) by decide), e2, List.take_nil]
      rfl
theorem spec_ReadExpr_eq (s : ByteArray) (hs : s.size ≤ 1048576) {k : Nat} (hk : 1060000 ≤ k) : spec_ReadExpr.f k s = some (rdSpec s) := by
  unfold spec_ReadExpr.f rdSpec
  have := spec_ReadExpr_l0 s 31 k [] s (by simp) hs (by omega)
  rw [List.nil_append, List.map_nil, List.map_map] at this
  rw [this]
  rfl

def parsed (l : List UInt8) : Option Int := match Go.Lib.parseIntB 64 l with | .ok v => some v | _ => none
theorem parse_f (w : ByteArray) (hw : w.size ≤ 1048576) : ∃ r1 r2, strconv_ParseInt.f w 10 64 = some (r1, r2) ∧ r2.isNone = (parsed w.data.toList).isSome ∧ ∀ v, parsed w.data.toList = some v → r1 = v := by
  unfold strconv_ParseInt.f parsed
  rw [if_pos rfl, if_pos rfl, if_pos (by omega)]
  cases Go.Lib.parseIntB 64 w.data.toList with
  | ok v => exact ⟨v, none, rfl, rfl, fun x h => Option.some.inj h⟩
  | _ => exact ⟨_, _, rfl, rfl, fun x h => by cases h⟩
/-- The node that a word is, as the program reads it. -/
def readI (w : ByteArray) : Nd := if hashB w = true then (3, 0, w.extract 1 w.size) else match opIdx w.data.toList with
  | some j => (4 + (j : Int), 0, ⟨#[]⟩)
  | none => match parsed w.data.toList with
    | some n => (1, n, ⟨#[]⟩)
    | none => (2, 0, w)
theorem hash_list {w : ByteArray} : hashB w = true ↔ ∃ r, w.data.toList = 35 :: r := by
  unfold hashB
  rw [Bool.and_eq_true, decide_eq_true_eq, decide_eq_true_eq]
  constructor
  · rintro ⟨h0, h1⟩
    obtain ⟨x, hx, bx⟩ := bt_drop w 0 (by omega)
    rw [List.drop_zero] at hx
    have bx' : bt w 0 = (x.toNat : Int) := bx
    rw [h1] at bx'
    have : x = 35 := UInt8.toNat_inj.1 (by show x.toNat = 35; omega)
    rw [this] at hx
    exact ⟨_, hx⟩
  · rintro ⟨r, hr⟩
    have hl := len_list w
    rw [hr] at hl
    have h0 : w.size ≠ 0 := by
      rw [List.length_cons] at hl
      omega
    refine ⟨h0, ?_⟩
    obtain ⟨x, hx, bx⟩ := bt_drop w 0 (by omega)
    rw [List.drop_zero, hr] at hx
    have bx' : bt w 0 = (x.toNat : Int) := bx
    rw [bx', ← (List.cons.inj hx).1]
    rfl
theorem cutHash (w : ByteArray) : strings_CutPrefix.f w ⟨#[35]⟩ = some (if hashB w = true then (w.extract 1 w.size, true) else (w, false)) := by
  have h1 : ((⟨#[35]⟩ : ByteArray).size : Int) = 1 := rfl
  unfold strings_CutPrefix.f stringslite_CutPrefix.f stringslite_HasPrefix.f
  rw [h1]
  by_cases h0 : (w.size : Int) ≥ 1
  · rw [if_pos h0, if_pos (by decide), if_pos (by omega)]
    simp only [Option.bind_some]
    obtain ⟨x, hx, bx⟩ := bt_drop w 0 (by omega)
    rw [List.drop_zero] at hx
    have he : ((w.extract 0 (1 : Int).toNat).toList == (⟨#[35]⟩ : ByteArray).toList) = hashB w := by
      apply Bool.eq_iff_iff.2
      rw [beq_iff_eq, hash_list]
      have hl := (ext_list w 1).1
      constructor
      · intro h
        have := toList_inj h
        have h2 : (w.extract 0 1).data.toList = [35] := by
          rw [show w.extract 0 1 = w.extract 0 (1 : Int).toNat from rfl, this]
        rw [hl, hx] at h2
        simp only [List.take_succ_cons, List.take_zero, List.cons.injEq, and_true] at h2
        exact ⟨_, by rw [hx, h2]⟩
      · rintro ⟨r, hr⟩
        rw [hr, List.take_succ_cons, List.take_zero] at hl
        rw [show (1 : Int).toNat = 1 from rfl, ba_list hl]
    rw [he]
    by_cases c : hashB w = true
    · rw [if_pos c, if_pos c, if_pos (by decide), if_pos (by omega)]
      rfl
    · rw [if_neg c, if_neg c]
      rfl
  · rw [if_neg h0]
    have : hashB w = false := by
      unfold hashB
      rw [decide_eq_false (by omega : ¬ w.size ≠ 0)]
      rfl
    simp only [Option.bind_some, this]
    rfl
theorem index_op (w : ByteArray) : ∀ (n k i : Nat), i + n = 14 → n < k → slices_Index_string_string.l0 k (opW.map ofL) w 14 (i : Int) = some (match opGo (opW.drop i) i w.data.toList with | some j => (j : Int) | none => -1) := by
  intro n
  induction n with
  | zero =>
    intro k i hi hk
    obtain ⟨k, rfl⟩ : ∃ m, k = m + 1 := ⟨k - 1, by omega⟩
    obtain rfl : i = 14 := by omega
    simp only [slices_Index_string_string.l0]
    rw [if_neg (by omega)]
    rfl
  | succ n ih =>
    intro k i hi hk
    obtain ⟨k, rfl⟩ : ∃ m, k = m + 1 := ⟨k - 1, by omega⟩
    have hlen : ((opW.map ofL).length : Int) = 14 := rfl
    have hrd : rdOf ByteArray.empty (opW.map ofL) (i : Int) = ofL (opW.getD i []) := by
      have : i = 0 ∨ i = 1 ∨ i = 2 ∨ i = 3 ∨ i = 4 ∨ i = 5 ∨ i = 6 ∨ i = 7 ∨ i = 8 ∨ i = 9 ∨ i = 10 ∨ i = 11 ∨ i = 12 ∨ i = 13 := by omega
      rcases this with e | e | e | e | e | e | e | e | e | e | e | e | e | e <;> rw [e] <;> rfl
    have hd : opW.drop i = opW.getD i [] :: opW.drop (i + 1) := drop_at [] opW i (by show i < 14; omega)
    have hw1 : wrap64 ((i : Int) + 1) = ((i + 1 : Nat) : Int) := by rw [w64 (by omega) (by omega)]; omega
    simp only [slices_Index_string_string.l0]
    rw [if_pos (by omega), if_pos (by omega), hlen, if_pos (by omega), hrd, hd, opGo, hw1]
    by_cases c : opW.getD i [] = w.data.toList
    · rw [if_pos (show w.toList = (ofL (opW.getD i [])).toList from ((list_eq_iff w _).2 c).symm), if_pos c]
    · rw [if_neg (show ¬ w.toList = (ofL (opW.getD i [])).toList from fun h => c ((list_eq_iff w _).1 h.symm)), if_neg c, ih k (i + 1) (by omega) (by omega)]
theorem index_eq (w : ByteArray) {k : Nat} (hk : 20 ≤ k) : slices_Index_string_string.f k (opW.map ofL) w = some (match opIdx w.data.toList with | some j => (j : Int) | none => -1) := by
  unfold slices_Index_string_string.f
  exact index_op w 14 k 0 (by omega) (by omega)
def finI (s : ByteArray) (out : List Nd) : List S77 × Bool := if exprOk out = true ∧ (exprT out).toList = s.toList then (out.map mkN, true) else ([], false)
theorem impl_ReadExpr_l0 (s : ByteArray) (ws : List (List UInt8)) (hl : ws.length ≤ 30) (hw : ∀ w ∈ ws, w.length ≤ 1048576) : ∀ (n k i : Nat) (out : List Nd), i + n = ws.length → out.length = i → n + 200 ≤ k →
    impl_ReadExpr.l0 k s (out.map mkN) (ws.map ofL) (ws.length : Int) (i : Int) = some (finI s (out ++ (ws.drop i).map fun w => readI (ofL w))) := by
  intro n
  induction n with
  | zero =>
    intro k i out hi ho hk
    obtain ⟨k, rfl⟩ : ∃ m, k = m + 1 := ⟨k - 1, by omega⟩
    simp only [impl_ReadExpr.l0]
    rw [if_neg (by omega), List.drop_eq_nil_of_le (by omega), List.map_nil, List.append_nil, impl_ExprOk_eq _ (by omega), map_nd_mkN]
    unfold finI
    simp only [Option.bind_some]
    by_cases h : exprOk out = true
    · rw [if_pos h, impl_exprText_eq _ (by rw [map_nd_mkN]; exact h) (by omega), map_nd_mkN]
      simp only [Option.bind_some]
      by_cases h1 : (exprT out).toList = s.toList
      · rw [if_pos h1, if_pos ⟨h, h1⟩]
      · rw [if_neg h1, if_neg (fun q => h1 q.2)]
    · rw [if_neg h, if_neg (fun q => h q.1)]
  | succ n ih =>
    intro k i out hi ho hk
    obtain ⟨k, rfl⟩ : ∃ m, k = m + 1 := ⟨k - 1, by omega⟩
    have hm := hw _ (getD_mem [] ws i (by omega))
    have hrd : rdOf ByteArray.empty (ws.map ofL) (i : Int) = ofL (ws.getD i []) := by
      unfold rdOf
      rw [Int.toNat_natCast, List.getD_eq_getElem?_getD, List.getD_eq_getElem?_getD, List.getElem?_map, List.getElem?_eq_getElem (by omega)]
      rfl
    rw [drop_at [] ws i (by omega), List.map_cons]
    simp only [impl_ReadExpr.l0]
    rw [if_pos (by omega), if_pos (by omega), List.length_map, if_pos (by omega), hrd]
    have hz : (ofL (ws.getD i [])).size ≤ 1048576 := by
      rw [show (ofL (ws.getD i [])).size = (ws.getD i []).length from bytes_size _]
      exact hm
    generalize ofL (ws.getD i []) = w at hz ⊢
    obtain ⟨r1, r2, hp, hp1, hp2⟩ := parse_f w hz
    have hop : impl_opWords.f = some (opW.map ofL) := opWords_eq
    have next : ∀ (x : Nd), x = readI w → impl_ReadExpr.l0 k s (out.map mkN ++ [(⟨x.1, x.2.1, x.2.2⟩ : S77)]) (ws.map ofL) (ws.length : Int) (wrap64 ((i : Int) + 1)) = some (finI s (out ++ (readI w :: (ws.drop (i + 1)).map fun w => readI (ofL w)))) := by
      intro x hx
      have e1 : out.map mkN ++ [(⟨x.1, x.2.1, x.2.2⟩ : S77)] = (out ++ [x]).map mkN := by rw [List.map_append]; rfl
      have hw1 : wrap64 ((i : Int) + 1) = ((i + 1 : Nat) : Int) := by rw [w64 (by omega) (by omega)]; omega
      rw [e1, hw1, ih k (i + 1) (out ++ [x]) (by omega) (by simp; omega) (by omega), List.append_assoc, hx]
      rfl
    rw [cutHash, hp, hop]
    simp only [Option.bind_some, List.length_map]
    rw [index_eq w (by omega)]
    simp only [Option.bind_some]
    by_cases c : hashB w = true
    · rw [if_pos c, if_pos rfl, if_pos (by omega)]
      exact next (3, 0, w.extract 1 w.size) (by unfold readI; rw [if_pos c])
    · rw [if_neg c, if_neg (show ¬ ((w, false) : ByteArray × Bool).2 = true by simp)]
      cases ho2 : opIdx w.data.toList with
      | some j =>
        obtain ⟨_, hj, _⟩ := opGo_at opW 0 _ _ ho2
        have hj' : j < 14 := by simpa [opW] using hj
        simp only
        rw [if_pos (by omega), if_pos (by omega), w64 (by omega) (by omega)]
        exact next (4 + (j : Int), 0, ⟨#[]⟩) (by unfold readI; rw [if_neg c, ho2])
      | none =>
        simp only
        rw [if_neg (by decide)]
        cases hpp : parsed w.data.toList with
        | some v =>
          rw [hp1, hpp]
          simp only [Option.isSome_some, if_true]
          rw [if_pos (by omega), hp2 v hpp]
          exact next (1, v, ⟨#[]⟩) (by unfold readI; rw [if_neg c, ho2]; simp only; rw [hpp])
        | none =>
          rw [hp1, hpp]
          simp only [Option.isSome_none, Bool.false_eq_true, if_false]
          rw [if_pos (by omega)]
          exact next (2, 0, w) (by unfold readI; rw [if_neg c, ho2]; simp only; rw [hpp])
def rdImpl (s : ByteArray) : List S77 × Bool := if (sp 32 s.data.toList).length > 30 then ([], false) else finI s ((sp 32 s.data.toList).map fun w => readI (ofL w))
theorem sp_len (c : UInt8) : ∀ l : List UInt8, ∀ p ∈ sp c l, p.length ≤ l.length := by
  have h1 : ∀ l : List UInt8, (sph c l).length ≤ l.length := by
    intro l
    induction l with
    | nil => simp [sph]
    | cons x r ih =>
      rw [sph]
      split <;> simp <;> omega
  have h2 : ∀ l : List UInt8, ∀ p ∈ spt c l, p.length ≤ l.length := by
    intro l
    induction l with
    | nil => simp [spt]
    | cons x r ih =>
      rw [spt]
      have := h1 r
      split
      · intro p hp
        rcases List.mem_cons.1 hp with rfl | hp
        · simp; omega
        · have := ih p hp
          simp; omega
      · intro p hp
        have := ih p hp
        simp; omega
  intro l p hp
  rcases List.mem_cons.1 hp with rfl | hp
  · exact h1 l
  · exact h2 l p hp
theorem split_sp (s : ByteArray) (hs : s.size ≤ 1048576) : strings_Split.f s ⟨#[32]⟩ = some ((sp 32 s.data.toList).map ofL) := by
  unfold strings_Split.f
  rw [if_pos (by omega), if_pos (by show 1 ≤ 1; omega)]
  refine congrArg some (map_data _ _ ?_)
  rw [Go.Lib.splitB_data]
  exact splitK_sp 32 _ _ rfl
theorem impl_ReadExpr_eq (s : ByteArray) (hs : s.size ≤ 1048576) {k : Nat} (hk : 300 ≤ k) : impl_ReadExpr.f k s = some (rdImpl s) := by
  unfold impl_ReadExpr.f rdImpl
  rw [split_sp s hs]
  simp only [Option.bind_some, List.length_map]
  by_cases h : (sp 32 s.data.toList).length > 30
  · rw [if_pos (by omega), if_pos h]
  · rw [if_neg (by omega), if_neg h]
    have := impl_ReadExpr_l0 s (sp 32 s.data.toList) (by omega) (fun w hw => Nat.le_trans (sp_len 32 _ w hw) (by rw [len_list]; exact hs)) (sp 32 s.data.toList).length k 0 [] (by omega) rfl (by omega)
    rw [List.drop_zero, List.nil_append] at this
    exact this

theorem dec_free (n : Nat) : (32 : UInt8) ∉ Go.Lib.decDigits n := by
  intro h
  have := (dec_fold n).2 32 h
  unfold digitB at this
  exact absurd this.1 (by decide)
theorem nodeT_free {x : Nd} (h : nodeOk x = true) : (32 : UInt8) ∉ nodeT x := by
  unfold nodeT nodeT3
  have hname : ∀ s : ByteArray, nameOk s = true → (32 : UInt8) ∉ s.data.toList := by
    intro s hs hm
    have := nam_range ((name_bytes hs).1 32 hm)
    rw [show ((32 : UInt8).toNat : Int) = 32 from rfl] at this
    omega
  unfold nodeOk at h
  by_cases h1 : x.1 = 1
  · rw [if_pos h1, Bool.and_eq_true, inR_iff] at h
    rw [if_pos h1]
    unfold Go.Lib.itoa
    rw [if_neg (by omega)]
    exact dec_free _
  · by_cases h2 : x.1 = 2 ∨ x.1 = 3
    · rw [if_neg h1, if_pos h2, Bool.and_eq_true] at h
      rcases h2 with h2 | h2
      · rw [if_neg h1, if_pos h2]
        exact hname _ h.2
      · rw [if_neg h1, if_neg (by omega), if_pos h2]
        intro hm
        rcases List.mem_cons.1 hm with hm | hm
        · exact absurd hm (by decide)
        · exact hname _ h.2 hm
    · rw [if_neg h1, if_neg h2, Bool.and_eq_true, inR_iff] at h
      rw [if_neg h1, if_neg (fun e => h2 (.inl e)), if_neg (fun e => h2 (.inr e))]
      rcases opW_cases h.1 with e | e | e | e | e | e | e | e | e | e | e | e | e | e <;> rw [e] <;> decide
theorem nodeOk_form {x : Nd} (h : nodeOk x = true) : (x.1 = 1 ∧ 0 ≤ x.2.1 ∧ x.2.1 ≤ 65535 ∧ x.2.2.size = 0) ∨ ((x.1 = 2 ∨ x.1 = 3) ∧ x.2.1 = 0 ∧ nameOk x.2.2 = true) ∨ (4 ≤ x.1 ∧ x.1 ≤ 17 ∧ x.2.1 = 0 ∧ x.2.2.size = 0) := by
  unfold nodeOk at h
  by_cases h1 : x.1 = 1
  · rw [if_pos h1, Bool.and_eq_true, inR_iff, beq_iff_eq] at h
    exact .inl ⟨h1, h.1.1, h.1.2, size_zero.1 h.2⟩
  · by_cases h2 : x.1 = 2 ∨ x.1 = 3
    · rw [if_neg h1, if_pos h2, Bool.and_eq_true, beq_iff_eq] at h
      exact .inr (.inl ⟨h2, h.1, h.2⟩)
    · rw [if_neg h1, if_neg h2, Bool.and_eq_true, Bool.and_eq_true, inR_iff, beq_iff_eq, beq_iff_eq] at h
      exact .inr (.inr ⟨h.1.1, h.1.2, h.2.1, size_zero.1 h.2.2⟩)
theorem size_nil {s : ByteArray} (h : s.size = 0) : s = ⟨#[]⟩ := by
  have : s.data.toList = [] := List.length_eq_zero_iff.1 (by rw [len_list]; exact h)
  rw [ba_list this]
theorem opIdx_at (j : Nat) (h : j < 14) : opIdx (opW.getD j []) = some j := by
  have : j = 0 ∨ j = 1 ∨ j = 2 ∨ j = 3 ∨ j = 4 ∨ j = 5 ∨ j = 6 ∨ j = 7 ∨ j = 8 ∨ j = 9 ∨ j = 10 ∨ j = 11 ∨ j = 12 ∨ j = 13 := by omega
  rcases this with e | e | e | e | e | e | e | e | e | e | e | e | e | e <;> rw [e] <;> decide
theorem dig_let {c : Int} (h : isLet c = true) : 10 ≤ dig c := by
  have := let_range h
  unfold dig
  rw [inR_neg (by omega), if_neg (by decide), inR_neg (by omega), if_neg (by decide)]
  omega
theorem parsed_dec (n : Nat) (hn : n ≤ 65535) : parsed (Go.Lib.decDigits n) = some (n : Int) := by
  unfold parsed
  rw [parse_dec n (by omega)]
theorem parsed_let (c : UInt8) (r : List UInt8) (h : ¬ digitB c) (h1 : c.toNat ≠ 43) (h2 : c.toNat ≠ 45) : parsed (c :: r) = none := by
  unfold parsed
  have := parse_bad c r h1 h2 h
  cases hp : Go.Lib.parseIntB 64 (c :: r) with
  | ok v => exact absurd hp (this v)
  | _ => rfl
theorem let_bad {c : UInt8} (h : isLet (c.toNat : Int) = true) : ¬ digitB c ∧ c.toNat ≠ 43 ∧ c.toNat ≠ 45 ∧ c.toNat ≠ 35 := by
  have := let_range h
  unfold digitB
  omega
/-- A word that one of the two reads as a right node with the word as its text is read alike by both. -/
theorem read_num (w : ByteArray) (n : Nat) (hn : n ≤ 65535) (hw : w.data.toList = Go.Lib.decDigits n) : readS w = (1, (n : Int), ⟨#[]⟩) ∧ readI w = (1, (n : Int), ⟨#[]⟩) := by
  have hne := dec_ne n
  obtain ⟨c, r, hc⟩ : ∃ c r, Go.Lib.decDigits n = c :: r := by
    cases h : Go.Lib.decDigits n with
    | nil => exact absurd h hne
    | cons c r => exact ⟨c, r, rfl⟩
  have hd := (dec_fold n).2 c (by rw [hc]; exact List.mem_cons_self)
  unfold digitB at hd
  have hop : opIdx w.data.toList = none := by
    cases ho : opIdx w.data.toList with
    | none => rfl
    | some j =>
      obtain ⟨x, r', e, _, h2⟩ := opIdx_head ho
      rw [hw, hc] at e
      rw [← (List.cons.inj e).1] at h2
      exact absurd hd h2
  have hh : hashB w = false := by
    apply Bool.eq_false_iff.2
    intro h
    obtain ⟨r', e⟩ := hash_list.1 h
    rw [hw, hc] at e
    have := (List.cons.inj e).1
    rw [this] at hd
    exact absurd hd.1 (by decide)
  refine ⟨?_, ?_⟩
  · unfold readS
    rw [hop]
    simp only
    rw [numOf_dec n hn w hw]
  · unfold readI
    rw [hh, if_neg (by decide), hop]
    simp only
    rw [hw, parsed_dec n hn]
theorem read_same (w : ByteArray) (x : Nd) (hx : x = readS w ∨ x = readI w) (hok : nodeOk x = true) (hT : nodeT x = w.data.toList) : readS w = x ∧ readI w = x := by
  obtain ⟨κ, n, s⟩ := x
  unfold nodeT nodeT3 at hT
  rcases nodeOk_form hok with ⟨h1, h2, h3, h4⟩ | ⟨h1, h2, h3⟩ | ⟨h1, h2, h3, h4⟩
  · simp only at h1 h2 h3 h4 hT
    subst h1
    rw [if_pos rfl] at hT
    unfold Go.Lib.itoa at hT
    rw [if_neg (by omega)] at hT
    obtain ⟨q1, q2⟩ := read_num w n.toNat (by omega) hT.symm
    rw [q1, q2, size_nil h4, show ((n.toNat : Nat) : Int) = n by omega]
    exact ⟨rfl, rfl⟩
  · simp only at h1 h2 h3 hT
    subst h2
    obtain ⟨hb, c, r, hc, bc, hl⟩ := name_bytes h3
    obtain ⟨b1, b2, b3, b4⟩ := let_bad hl
    rcases h1 with h1 | h1
    · subst h1
      rw [if_neg (by decide), if_pos rfl] at hT
      have hws : w = s := by
        rw [ba_list hT.symm]
      subst hws
      have hh : hashB w = false := by
        apply Bool.eq_false_iff.2
        intro h
        obtain ⟨r', e⟩ := hash_list.1 h
        rw [hc] at e
        have := (List.cons.inj e).1
        rw [this] at b4
        exact absurd rfl b4
      have hop : opIdx w.data.toList = none := by
        cases ho : opIdx w.data.toList with
        | none => rfl
        | some j =>
          rcases hx with hx | hx
          · unfold readS at hx
            rw [ho] at hx
            have := congrArg Prod.fst hx
            simp only at this
            omega
          · unfold readI at hx
            rw [hh, if_neg (by decide), ho] at hx
            have := congrArg Prod.fst hx
            simp only at this
            omega
      have hz : w.size ≠ 0 := by
        have hl2 := len_list w
        rw [hc, List.length_cons] at hl2
        omega
      refine ⟨?_, ?_⟩
      · unfold readS
        rw [hop]
        simp only
        rw [numOf_none w hz (by rw [bc]; have := let_range hl; omega) (by rw [bc]; have := let_range hl; omega) (by rw [bc]; exact dig_let hl)]
        simp only
        rw [hh, if_neg (by decide)]
      · unfold readI
        rw [hh, if_neg (by decide), hop]
        simp only
        rw [hc, parsed_let c r b1 b2 b3]
    · subst h1
      rw [if_neg (by decide), if_neg (by decide), if_pos rfl] at hT
      have hh : hashB w = true := hash_list.2 ⟨_, hT.symm⟩
      have hop : opIdx w.data.toList = none := by
        cases ho : opIdx w.data.toList with
        | none => rfl
        | some j =>
          obtain ⟨y, r', e, h35, _⟩ := opIdx_head ho
          rw [← hT] at e
          rw [← (List.cons.inj e).1] at h35
          exact absurd rfl h35
      have hz := hh
      unfold hashB at hz
      rw [Bool.and_eq_true, decide_eq_true_eq, decide_eq_true_eq] at hz
      have hext : w.extract 1 w.size = s := by
        have := (ext_list w 1).2
        rw [← hT, List.drop_succ_cons, List.drop_zero] at this
        rw [ba_list this]
      refine ⟨?_, ?_⟩
      · unfold readS
        rw [hop]
        simp only
        rw [numOf_none w hz.1 (by rw [hz.2]; decide) (by rw [hz.2]; decide) (by rw [hz.2]; decide)]
        simp only
        rw [hh, if_pos rfl, hext]
      · unfold readI
        rw [hh, if_pos rfl, hext]
  · simp only at h1 h2 h3 h4 hT
    subst h3
    rw [if_neg (by omega), if_neg (by omega), if_neg (by omega)] at hT
    have hop : opIdx w.data.toList = some (κ - 4).toNat := by
      rw [← hT]
      exact opIdx_at _ (by omega)
    have hh : hashB w = false := by
      apply Bool.eq_false_iff.2
      intro h
      obtain ⟨r', e⟩ := hash_list.1 h
      obtain ⟨y, r2, e2, h35, _⟩ := opIdx_head hop
      rw [e] at e2
      rw [← (List.cons.inj e2).1] at h35
      exact absurd rfl h35
    have hk : (4 : Int) + ((κ - 4).toNat : Int) = κ := by omega
    refine ⟨?_, ?_⟩
    · unfold readS
      rw [hop, size_nil h4]
      simp only [hk]
    · unfold readI
      rw [hh, if_neg (by decide), hop, size_nil h4]
      simp only [hk]
theorem texts_words {out : List Nd} {s : ByteArray} {ws : List (List UInt8)} (hok : exprOk out = true) (hw : ws ≠ []) (hf : ∀ p ∈ ws, (32 : UInt8) ∉ p) (hj : Go.Lib.join ws [32] = s.data.toList) (hT : (exprT out).toList = s.toList) : out.map nodeT = ws := by
  obtain ⟨h1, h2, h3⟩ := exprOk_parts hok
  unfold exprT at hT
  rw [if_pos hok] at hT
  have he := (list_eq_iff s _).1 hT
  refine join_inj 32 ?_ hf ?_ hw (he.trans hj.symm)
  · intro p hp
    obtain ⟨x, hx, rfl⟩ := List.mem_map.1 hp
    exact nodeT_free (h3 x hx)
  · intro e
    have := congrArg List.length e
    rw [List.length_map, List.length_nil] at this
    omega
theorem map_same (f g : ByteArray → Nd) (hfg : ∀ w, (nodeOk (f w) = true) → nodeT (f w) = w.data.toList → g w = f w) : ∀ ws : List (List UInt8), (∀ x ∈ ws.map (fun w => f (ofL w)), nodeOk x = true) → (ws.map (fun w => f (ofL w))).map nodeT = ws → ws.map (fun w => g (ofL w)) = ws.map (fun w => f (ofL w))
  | [], _, _ => rfl
  | w :: r, hok, hT => by
    rw [List.map_cons, List.map_cons] at hT
    obtain ⟨t1, t2⟩ := List.cons.inj hT
    rw [List.map_cons, List.map_cons, hfg (ofL w) (hok _ List.mem_cons_self) (by rw [t1]; rfl), map_same f g hfg r (fun x hx => hok x (List.mem_cons_of_mem _ hx)) t2]
theorem nodeT_ne {x : Nd} (h : nodeOk x = true) : nodeT x ≠ [] := by
  unfold nodeT nodeT3
  rcases nodeOk_form h with ⟨h1, h2, h3, h4⟩ | ⟨h1, h2, h3⟩ | ⟨h1, h2, h3, h4⟩
  · rw [if_pos h1]
    unfold Go.Lib.itoa
    rw [if_neg (by omega)]
    exact dec_ne _
  · rcases h1 with h1 | h1
    · obtain ⟨_, c, r, hc, _⟩ := name_bytes h3
      rw [if_neg (by omega), if_pos h1, hc]
      simp
    · rw [if_neg (by omega), if_neg (by omega), if_pos h1]
      simp
  · rw [if_neg (by omega), if_neg (by omega), if_neg (by omega)]
    rcases opW_cases ⟨h1, h2⟩ with e | e | e | e | e | e | e | e | e | e | e | e | e | e <;> rw [e] <;> decide
theorem rd_same (s : ByteArray) : rdImpl s = rdSpec s := by
  have hf := sp_free 32 s.data.toList
  have hj := join_sp 32 s.data.toList
  have hw : sp 32 s.data.toList ≠ [] := by unfold sp; simp
  have hnil : ∀ out : List Nd, exprOk out = false → (exprT out).toList = [] := by
    intro out h
    unfold exprT
    rw [h, if_neg (by decide)]
    exact size_zero.2 rfl
  have hs0 : s.toList = [] → sp 32 s.data.toList = [[]] := by
    intro h
    have h0 := size_zero.1 h
    have : s.data.toList = [] := List.length_eq_zero_iff.1 (by rw [len_list]; exact h0)
    rw [this]
    rfl
  generalize hws : sp 32 s.data.toList = ws at hf hj hw hs0
  have hre : rdImpl s = if ws.length > 30 then ([], false) else if exprOk (ws.map fun w => readI (ofL w)) = true ∧ (exprT (ws.map fun w => readI (ofL w))).toList = s.toList then ((ws.map fun w => readI (ofL w)).map mkN, true) else ([], false) := by
    unfold rdImpl finI
    rw [hws]
  have hrs : rdSpec s = if (exprT ((ws.take 31).map fun w => readS (ofL w))).toList = s.toList ∧ s.toList ≠ [] then ((ws.take 31).map (fun w => mkN (readS (ofL w))), true) else ([], false) := by
    unfold rdSpec
    rw [hws]
  rw [hre, hrs]
  by_cases hlen : ws.length > 30
  · rw [if_pos hlen, if_neg]
    rintro ⟨h1, h2⟩
    by_cases hok : exprOk ((ws.take 31).map fun w => readS (ofL w)) = true
    · have := (exprOk_parts hok).1
      rw [List.length_map, List.length_take] at this
      omega
    · rw [hnil _ (Bool.eq_false_iff.2 hok)] at h1
      exact h2 h1.symm
  · rw [if_neg hlen, List.take_of_length_le (by omega)]
    by_cases hS : (exprT (ws.map fun w => readS (ofL w))).toList = s.toList ∧ s.toList ≠ []
    · have hok : exprOk (ws.map fun w => readS (ofL w)) = true := by
        cases h : exprOk (ws.map fun w => readS (ofL w)) with
        | true => rfl
        | false =>
          have h1 := hS.1
          rw [hnil _ h] at h1
          exact absurd h1.symm hS.2
      have hT := texts_words hok hw hf hj hS.1
      have hm := map_same readS readI (fun w h1 h2 => (read_same w (readS w) (.inl rfl) h1 h2).2) ws (exprOk_parts hok).2.2 hT
      rw [if_pos hS, hm, if_pos ⟨hok, hS.1⟩, List.map_map]
      rfl
    · rw [if_neg hS, if_neg]
      rintro ⟨h1, h2⟩
      have hT := texts_words h1 hw hf hj h2
      have hm := map_same readI readS (fun w h1 h2 => (read_same w (readI w) (.inr rfl) h1 h2).1) ws (exprOk_parts h1).2.2 hT
      refine hS ⟨by rw [hm]; exact h2, fun h0 => ?_⟩
      have h3 := hs0 h0
      have hx := (exprOk_parts h1).2.2
      rw [h3] at hT hx
      exact nodeT_ne (hx _ List.mem_cons_self) (List.cons.inj hT).1
theorem FnExactReadExpr (s : ByteArray) (h : s.size ≤ maxLen) : ∃ k, laws_FnExactReadExpr.f k s = some true := by
  refine ⟨1200003, ?_⟩
  obtain ⟨K, hK⟩ : ∃ K : Nat, K = 1200000 := ⟨_, rfl⟩
  rw [show 1200003 = K + 3 by omega]
  unfold laws_FnExactReadExpr.f
  by_cases hb : (s.size : Int) > 1048576
  · rw [if_pos hb]
  · rw [if_neg hb]
    have hs : s.size ≤ 1048576 := by omega
    have hS := fun k hk => spec_ReadExpr_eq s hs (k := k) hk
    have hI := fun k hk => impl_ReadExpr_eq s hs (k := k) hk
    rw [rd_same] at hI
    have hlen : (rdSpec s).1.length ≤ 31 := by
      unfold rdSpec
      split
      · rw [List.length_map, List.length_take]
        omega
      · simp
    generalize rdSpec s = R at hS hI hlen
    obtain ⟨l, ok⟩ := R
    replace hlen : l.length ≤ 31 := hlen
    have hE := fun k hk => laws_eqENodeS_same l (by omega) (k := k) hk
    obtain ⟨z, m1, n1, g1⟩ := laws_markHeldN l (by omega) (k := K + 2) (by omega)
    rw [hS (K + 3) (by omega), hI (K + 3) (by omega)]
    simp only [Option.bind_some]
    rw [hE (K + 3) (by omega)]
    simp only [Option.bind_some, if_true, bne_self_eq_false]
    rw [laws_FnExactReadExpr.j0, if_neg (by decide), m1]
    simp only [Option.bind_some]
    rw [g1 (K + 2) (by omega)]
    simp only [Option.bind_some]
    rw [if_neg (by omega), if_pos trivial, hI (K + 2) (by omega)]
    simp only [Option.bind_some]
    rw [hE (K + 2) (by omega)]
    simp only [Option.bind_some, if_true, bne_self_eq_false]
    rw [laws_FnExactReadExpr.j1, if_neg (by decide), g1 (K + 1) (by omega)]
    simp only [Option.bind_some]
    rw [if_neg (by omega), if_pos trivial]

end Go.Proofs.YtmiebnpmckjidaaDoor.Pure
