/-
The law FnExactObjectOk, told as a plain function of the object's sections, symbols and asserts, answers true for every input.
-/
import Derived.Test.YtbbngeooodcbcaaPFnExactObjectOkx16
import Derived.Test.YtbbngeooodcbcaaAidA
import Derived.Test.YtbbngeooodcbcaaAidB
import Derived.Test.YtbbngeooodcbcaaAidC
import Derived.Test.YtbbngeooodcbcaaAidL
import Derived.Test.YtbbngeooodcbcaaKinFnExactObjectOk
namespace Go.Proofs.Ytbbngeooodcbcaa.Pure
open Go.RowKit Go.Proofs.Ytbbngeooodcbcaa.Aid Go.Proofs.Ytbbngeooodcbcaa.PFnExactObjectOk Go.Proofs.YtbbngeooodcbcaaW.PrintWords Go.Proofs.YtbbngeooodcbcaaW.PrintLast Go.Proofs.YtbbngeooodcbcaaW.PrintMore
set_option linter.unusedVariables false
set_option linter.unusedSimpArgs false

theorem spec_l1In_eq (a b c : Int) : spec_l1In.f a b c = some (inR a b c) := by
  unfold spec_l1In.f inR
  by_cases h : a ≥ b
  · rw [if_pos h, decide_eq_true (show b ≤ a from h)]
    rfl
  · rw [if_neg h, decide_eq_false (show ¬ b ≤ a from h)]
    rfl

theorem impl_within_eq (a b c : Int) : impl_within.f a b c = some (inR a b c) := by
  unfold impl_within.f inR
  by_cases h : a ≥ b
  · rw [if_pos h, decide_eq_true (show b ≤ a from h)]
    rfl
  · rw [if_neg h, decide_eq_false (show ¬ b ≤ a from h)]
    rfl

theorem impl_isWord_eq (a : Int) : impl_isWord.f a = some (inR a 0 65535) := by
  unfold impl_isWord.f
  rw [impl_within_eq]
  rfl

theorem spec_l1Letter_eq (c : Int) : spec_l1Letter.f c = some (isLet c) := by
  unfold spec_l1Letter.f isLet inR
  by_cases h1 : c ≥ 97
  · by_cases h2 : c ≤ 122
    · simp [h1, h2]
    · by_cases h3 : c = 95
      · simp [h3]
      · simp [h1, h2, h3]
  · by_cases h3 : c = 95
    · simp [h3]
    · simp [h1, h3]

theorem impl_isDigit_eq (c : Int) : impl_isDigit.f c = some (inR c 48 57) := by
  unfold impl_isDigit.f inR
  by_cases h : c ≥ 48
  · rw [if_pos h, decide_eq_true (show 48 ≤ c from h)]
    rfl
  · rw [if_neg h, decide_eq_false (show ¬ 48 ≤ c from h)]
    rfl

theorem impl_isSmall_eq (c : Int) : impl_isSmall.f c = some (inR c 97 122) := by
  unfold impl_isSmall.f inR
  by_cases h : c ≥ 97
  · rw [if_pos h, decide_eq_true (show 97 ≤ c from h)]
    rfl
  · rw [if_neg h, decide_eq_false (show ¬ 97 ≤ c from h)]
    rfl

theorem spec_NameOk_l0 (s : ByteArray) (hs : s.size ≤ 140737488351232) : ∀ (n k i : Nat), i + n = s.size → n < k → spec_NameOk.l0 k s (i : Int) = some (allB isNam s n i) := by
  intro n
  induction n with
  | zero =>
    intro k i hi hk
    obtain ⟨k, rfl⟩ : ∃ m, k = m + 1 := ⟨k - 1, by omega⟩
    simp only [spec_NameOk.l0]
    rw [if_neg (by omega)]
    rfl
  | succ n ih =>
    intro k i hi hk
    obtain ⟨k, rfl⟩ : ∃ m, k = m + 1 := ⟨k - 1, by omega⟩
    have hn := ih k (i + 1) (by omega) (by omega)
    have hw : wrap64 ((i : Int) + 1) = ((i + 1 : Nat) : Int) := by rw [w64 (by omega) (by omega)]; omega
    simp only [spec_NameOk.l0]
    rw [if_pos (by omega), if_pos (by omega), spec_l1Letter_eq, hw, hn]
    simp only [Option.bind_some, allB, isNam, inR]
    by_cases h1 : isLet (bt s i) = true
    · simp [h1]
    · by_cases h2 : bt s i ≥ 48
      · by_cases h3 : bt s i ≤ 57
        · simp [h1, h2, h3]
        · simp [h1, h2, h3]
      · simp [h1, h2]
theorem spec_NameOk_eq (s : ByteArray) {k : Nat} (hk : 20 ≤ k) : spec_NameOk.f k s = some (nameOk s) := by
  unfold spec_NameOk.f nameOk
  obtain ⟨k, rfl⟩ : ∃ m, k = m + 1 := ⟨k - 1, by omega⟩
  simp only [spec_NameOk.j0]
  by_cases h1 : (s.size : Int) < 1
  · rw [if_pos h1, inR_neg (by omega)]
    rfl
  · by_cases h2 : (s.size : Int) > 16
    · rw [if_neg h1, if_pos h2, inR_neg (by omega)]
      rfl
    · have hl := spec_NameOk_l0 s (by omega) s.size k 0 (by omega) (by omega)
      rw [if_neg h1, if_neg h2, inR_pos (by omega) (by omega), if_pos (by omega), spec_l1Letter_eq]
      simp only [Option.bind_some, Bool.true_and]
      rw [show ((0 : Nat) : Int) = 0 from rfl] at hl
      rw [hl]
      obtain ⟨n, hn⟩ : ∃ n, s.size = n + 1 := ⟨s.size - 1, by omega⟩
      by_cases h3 : isLet (bt s 0) = true
      · rw [h3, isLet_dig h3]
        simp
      · have h3' : isLet (bt s 0) = false := by simpa using h3
        rw [h3', hn]
        simp only [Bool.not_false, if_true, allB]
        rw [show bt s ((0 : Nat) : Int) = bt s 0 from rfl]
        unfold isNam
        rw [h3']
        cases inR (bt s 0) 48 57 <;> simp

theorem impl_NameOk_l0 (s : ByteArray) (hs : s.size ≤ 140737488351232) : ∀ (n k i : Nat), i + n = s.size → n < k → impl_NameOk.l0 k s (s.size : Int) (i : Int) = some (allB isNam s n i) := by
  intro n
  induction n with
  | zero =>
    intro k i hi hk
    obtain ⟨k, rfl⟩ : ∃ m, k = m + 1 := ⟨k - 1, by omega⟩
    simp only [impl_NameOk.l0]
    rw [if_neg (by omega)]
    rfl
  | succ n ih =>
    intro k i hi hk
    obtain ⟨k, rfl⟩ : ∃ m, k = m + 1 := ⟨k - 1, by omega⟩
    have hn := ih k (i + 1) (by omega) (by omega)
    have hw : wrap64 ((i : Int) + 1) = ((i + 1 : Nat) : Int) := by rw [w64 (by omega) (by omega)]; omega
    simp only [impl_NameOk.l0]
    rw [if_pos (by omega), if_pos (by omega), if_pos (by omega), impl_isSmall_eq, impl_isDigit_eq, hw, hn]
    simp only [Option.bind_some, allB, isNam, isLet]
    by_cases h1 : inR (bt s i) 97 122 = true
    · simp [h1]
    · by_cases h2 : inR (bt s i) 48 57 = true
      · simp [h1, h2]
      · by_cases h3 : bt s i = 95
        · simp [h1, h2, h3]
        · by_cases h4 : bt s i = 46
          · simp [h1, h2, h3, h4]
          · simp [h1, h2, h3, h4]
theorem impl_NameOk_eq (s : ByteArray) {k : Nat} (hk : 20 ≤ k) : impl_NameOk.f k s = some (nameOk s) := by
  unfold impl_NameOk.f nameOk
  obtain ⟨k, rfl⟩ : ∃ m, k = m + 1 := ⟨k - 1, by omega⟩
  simp only [impl_NameOk.j0, impl_within_eq, Option.bind_some]
  by_cases h1 : 1 ≤ (s.size : Int) ∧ (s.size : Int) ≤ 16
  · have hl := impl_NameOk_l0 s (by omega) s.size k 0 (by omega) (by omega)
    rw [inR_pos h1.1 h1.2, if_pos rfl, if_pos (by omega), impl_isDigit_eq]
    simp only [Option.bind_some, Bool.true_and]
    rw [show ((0 : Nat) : Int) = 0 from rfl] at hl
    rw [hl]
    cases inR (bt s 0) 48 57 <;> simp
  · rw [inR_neg h1]
    rfl

theorem laws_szENodeS_l0 (l : List S90) (hl : l.length ≤ 1048576) (hn : ∀ x ∈ l, x.f2.size ≤ maxLen) : ∀ (n k i : Nat) (left : Int), i + n = l.length → n < k → 0 ≤ left → left ≤ 1048576 → ∃ t, laws_szENodeS.l0 k l left (i : Int) = some t ∧ t ≤ left := by
  intro n
  induction n with
  | zero =>
    intro k i left hi hk h0 h1
    obtain ⟨k, rfl⟩ : ∃ m, k = m + 1 := ⟨k - 1, by omega⟩
    refine ⟨left, ?_, Int.le_refl _⟩
    simp only [laws_szENodeS.l0]
    rw [if_neg (by omega)]
  | succ n ih =>
    intro k i left hi hk h0 h1
    obtain ⟨k, rfl⟩ : ∃ m, k = m + 1 := ⟨k - 1, by omega⟩
    simp only [laws_szENodeS.l0]
    rw [if_pos (by omega), if_pos (by omega), up1 (by omega : i < l.length) (by omega)]
    have hx : (rd_T90 l (i : Int)).f2.size ≤ maxLen := hn _ (by unfold rd_T90; exact getD_mem _ _ _ (by simp; omega))
    unfold maxLen at hx
    unfold laws_szENode.f
    generalize (rd_T90 l (i : Int)).f2.size = z at hx ⊢
    rw [w64 (by omega) (by omega)]
    by_cases hc : left - (z : Int) < 0
    · rw [if_pos hc]
      exact ⟨-1, by simp, by omega⟩
    · rw [if_neg hc]
      simp only [Option.bind_some]
      rw [if_neg hc]
      obtain ⟨t, ht, hle⟩ := ih k (i + 1) (left - z) (by omega) (by omega) (by omega) (by omega)
      exact ⟨t, ht, by omega⟩
theorem laws_szENodeS_some (l : List S90) (hl : l.length ≤ maxLen) (hn : ∀ x ∈ l, x.f2.size ≤ maxLen) {k : Nat} {left : Int} (h0 : 0 ≤ left) (h1 : left ≤ 1048576) (hk : 1048577 ≤ k) :
    ∃ t, laws_szENodeS.f k l left = some t ∧ t ≤ left ∧ (0 ≤ t → l.length ≤ 1048576) := by
  unfold maxLen at hl
  unfold laws_szENodeS.f
  rw [w64 (by omega) (by omega)]
  by_cases hc : left - (l.length : Int) < 0
  · rw [if_pos hc]
    exact ⟨-1, rfl, by omega, by omega⟩
  · rw [if_neg hc]
    obtain ⟨t, ht, hle⟩ := laws_szENodeS_l0 l (by omega) hn l.length k 0 (left - l.length) (by omega) (by omega) (by omega) (by omega)
    exact ⟨t, ht, by omega, fun _ => by omega⟩

def nodeI (x : S90) : S74 := ⟨x.f0, x.f1, x.f2⟩
def nd (x : S74) : Nd := (x.f0, x.f1, x.f2)
theorem laws_toENodeS_l0 (l : List S90) (hl : l.length ≤ 1048576) : ∀ (n k i : Nat) (y : List S74), i + n = l.length → n < k → y.length = l.length → y.take i = (l.map nodeI).take i → laws_toENodeS.l0 k l y (i : Int) = some (l.map nodeI) := by
  intro n
  induction n with
  | zero =>
    intro k i y hi hk hy ht
    obtain ⟨k, rfl⟩ : ∃ m, k = m + 1 := ⟨k - 1, by omega⟩
    simp only [laws_toENodeS.l0]
    rw [if_neg (by omega)]
    obtain rfl : i = l.length := by omega
    rw [fill_end nodeI l y hy ht]
  | succ n ih =>
    intro k i y hi hk hy ht
    obtain ⟨k, rfl⟩ : ∃ m, k = m + 1 := ⟨k - 1, by omega⟩
    simp only [laws_toENodeS.l0, laws_toENode.f, Option.bind_some]
    rw [if_pos (by omega), if_pos (by omega), if_pos (by omega), up1 (by omega : i < l.length) (by omega)]
    obtain ⟨h1, h2⟩ := fill_step z90 nodeI l y i (by omega) hy ht
    exact ih k (i + 1) _ (by omega) (by omega) h1 h2
theorem laws_toENodeS_eq (l : List S90) (hl : l.length ≤ 1048576) {k : Nat} (hk : 1048577 ≤ k) : laws_toENodeS.f k l = some (l.map nodeI) := by
  unfold laws_toENodeS.f
  rw [if_pos (by omega), if_pos (by omega)]
  exact laws_toENodeS_l0 l hl l.length k 0 _ (by omega) (by omega) (by simp) (by simp)

theorem laws_eqENodeS_l0 (l : List S74) (hl : l.length ≤ 1048576) : ∀ (n k i : Nat), i + n = l.length → n < k → laws_eqENodeS.l0 k l l (i : Int) = some true := by
  intro n
  induction n with
  | zero =>
    intro k i hi hk
    obtain ⟨k, rfl⟩ : ∃ m, k = m + 1 := ⟨k - 1, by omega⟩
    simp only [laws_eqENodeS.l0]
    rw [if_neg (by omega)]
  | succ n ih =>
    intro k i hi hk
    obtain ⟨k, rfl⟩ : ∃ m, k = m + 1 := ⟨k - 1, by omega⟩
    simp only [laws_eqENodeS.l0, laws_eqENode.f, if_true, Option.bind_some]
    rw [if_pos (by omega), if_pos (by omega), if_pos (by omega), up1 (by omega : i < l.length) (by omega)]
    exact ih k (i + 1) (by omega) (by omega)
theorem laws_eqENodeS_same (l : List S74) (hl : l.length ≤ 1048576) {k : Nat} (hk : 1048577 ≤ k) : laws_eqENodeS.f k l l = some true := by
  unfold laws_eqENodeS.f
  rw [if_pos rfl]
  exact laws_eqENodeS_l0 l hl l.length k 0 (by omega) (by omega)

theorem laws_szPatch_some (x : S100) (hl : x.f2.length ≤ maxLen) (hn : ∀ y ∈ x.f2, y.f2.size ≤ maxLen) {k : Nat} {left : Int} (h0 : 0 ≤ left) (h1 : left ≤ 1048576) (hk : 1048577 ≤ k) :
    ∃ t, laws_szPatch.f k x.f0 x.f1 x.f2 left = some t ∧ t ≤ left ∧ (0 ≤ t → x.f2.length ≤ 1048576) := by
  unfold laws_szPatch.f
  obtain ⟨t, ht, hle, hlen⟩ := laws_szENodeS_some x.f2 hl hn (k := k) h0 h1 hk
  rw [ht]
  simp only [Option.bind_some]
  by_cases hc : t < 0
  · rw [if_pos hc]
    exact ⟨-1, rfl, by omega, by omega⟩
  · rw [if_neg hc]
    exact ⟨t, rfl, hle, hlen⟩
theorem laws_szPatchS_l0 (l : List S100) (hl : l.length ≤ 1048576) (hn : ∀ x ∈ l, x.f2.length ≤ maxLen ∧ ∀ y ∈ x.f2, y.f2.size ≤ maxLen) : ∀ (n k i : Nat) (left : Int), i + n = l.length → n + 1048578 ≤ k → 0 ≤ left → left ≤ 1048576 → ∃ t, laws_szPatchS.l0 k l left (i : Int) = some t ∧ t ≤ left ∧ (0 ≤ t → ∀ x ∈ l.drop i, x.f2.length ≤ 1048576) := by
  intro n
  induction n with
  | zero =>
    intro k i left hi hk h0 h1
    obtain ⟨k, rfl⟩ : ∃ m, k = m + 1 := ⟨k - 1, by omega⟩
    refine ⟨left, ?_, Int.le_refl _, ?_⟩
    · simp only [laws_szPatchS.l0]
      rw [if_neg (by omega)]
    · intro _ x hx
      rw [List.drop_eq_nil_of_le (by omega)] at hx
      cases hx
  | succ n ih =>
    intro k i left hi hk h0 h1
    obtain ⟨k, rfl⟩ : ∃ m, k = m + 1 := ⟨k - 1, by omega⟩
    have hrd : rd_T100 l (i : Int) = l.getD i z100 := by unfold rd_T100; rw [Int.toNat_natCast]
    simp only [laws_szPatchS.l0]
    rw [if_pos (by omega), if_pos (by omega), up1 (by omega : i < l.length) (by omega), hrd, drop_at z100 l i (by omega)]
    have hx := hn _ (getD_mem z100 l i (by omega))
    generalize l.getD i z100 = x at hx ⊢
    obtain ⟨t, ht, hle, hlen⟩ := laws_szPatch_some x hx.1 hx.2 (k := k) h0 h1 (by omega)
    rw [ht]
    simp only [Option.bind_some]
    by_cases hc : t < 0
    · rw [if_pos hc]
      exact ⟨-1, rfl, by omega, by omega⟩
    · rw [if_neg hc]
      obtain ⟨u, hu, hle2, hlen2⟩ := ih k (i + 1) t (by omega) (by omega) (by omega) (by omega)
      refine ⟨u, hu, by omega, fun h y hy => ?_⟩
      rcases List.mem_cons.1 hy with rfl | hy
      · exact hlen (by omega)
      · exact hlen2 h y hy
theorem laws_szPatchS_some (l : List S100) (hl : l.length ≤ maxLen) (hn : ∀ x ∈ l, x.f2.length ≤ maxLen ∧ ∀ y ∈ x.f2, y.f2.size ≤ maxLen) {k : Nat} {left : Int} (h0 : 0 ≤ left) (h1 : left ≤ 1048576) (hk : 2200000 ≤ k) :
    ∃ t, laws_szPatchS.f k l left = some t ∧ t ≤ left ∧ (0 ≤ t → l.length ≤ 1048576 ∧ ∀ x ∈ l, x.f2.length ≤ 1048576) := by
  unfold maxLen at hl
  unfold laws_szPatchS.f
  rw [w64 (by omega) (by omega)]
  by_cases hc : left - (l.length : Int) < 0
  · rw [if_pos hc]
    exact ⟨-1, rfl, by omega, by omega⟩
  · rw [if_neg hc]
    obtain ⟨t, ht, hle, hlen⟩ := laws_szPatchS_l0 l (by omega) hn l.length k 0 (left - l.length) (by omega) (by omega) (by omega) (by omega)
    exact ⟨t, ht, by omega, fun h => ⟨by omega, fun x hx => hlen h x (by rw [List.drop_zero]; exact hx)⟩⟩
theorem laws_szSection_some (a : ByteArray) (b c d : Int) (e : ByteArray) (l : List S100) (ha : a.size ≤ maxLen) (he : e.size ≤ maxLen) (hl : l.length ≤ maxLen) (hn : ∀ x ∈ l, x.f2.length ≤ maxLen ∧ ∀ y ∈ x.f2, y.f2.size ≤ maxLen) {k : Nat} {left : Int} (h0 : 0 ≤ left) (h1 : left ≤ 1048576) (hk : 2200000 ≤ k) :
    ∃ t, laws_szSection.f k a b c d e l left = some t ∧ t ≤ left ∧ (0 ≤ t → a.size ≤ 1048576 ∧ e.size ≤ 1048576 ∧ l.length ≤ 1048576 ∧ ∀ x ∈ l, x.f2.length ≤ 1048576) := by
  unfold maxLen at ha he
  unfold laws_szSection.f
  rw [w64 (n := left - (a.size : Int)) (by omega) (by omega)]
  by_cases c1 : left - (a.size : Int) < 0
  · rw [if_pos c1]
    exact ⟨-1, rfl, by omega, by omega⟩
  · rw [if_neg c1, w64 (by omega) (by omega)]
    by_cases c2 : left - (a.size : Int) - (e.size : Int) < 0
    · rw [if_pos c2]
      exact ⟨-1, rfl, by omega, by omega⟩
    · rw [if_neg c2]
      obtain ⟨t, ht, hle, hlen⟩ := laws_szPatchS_some l hl hn (k := k) (left := left - (a.size : Int) - (e.size : Int)) (by omega) (by omega) hk
      rw [ht]
      simp only [Option.bind_some]
      by_cases c3 : t < 0
      · rw [if_pos c3]
        exact ⟨-1, rfl, by omega, by omega⟩
      · rw [if_neg c3]
        exact ⟨t, rfl, by omega, fun h => ⟨by omega, by omega, hlen h⟩⟩

def patI (x : S100) : S70 := ⟨x.f0, x.f1, x.f2.map nodeI⟩
theorem laws_toPatchS_l0 (l : List S100) (hl : l.length ≤ 1048576) (hx : ∀ x ∈ l, x.f2.length ≤ 1048576) : ∀ (n k i : Nat) (y : List S70), i + n = l.length → n + 1048578 ≤ k → y.length = l.length → y.take i = (l.map patI).take i → laws_toPatchS.l0 k l y (i : Int) = some (l.map patI) := by
  intro n
  induction n with
  | zero =>
    intro k i y hi hk hy ht
    obtain ⟨k, rfl⟩ : ∃ m, k = m + 1 := ⟨k - 1, by omega⟩
    simp only [laws_toPatchS.l0]
    rw [if_neg (by omega)]
    obtain rfl : i = l.length := by omega
    rw [fill_end patI l y hy ht]
  | succ n ih =>
    intro k i y hi hk hy ht
    obtain ⟨k, rfl⟩ : ∃ m, k = m + 1 := ⟨k - 1, by omega⟩
    have hrd : rd_T100 l (i : Int) = l.getD i z100 := by unfold rd_T100; rw [Int.toNat_natCast]
    have hm := hx _ (getD_mem z100 l i (by omega))
    simp only [laws_toPatchS.l0, laws_toPatch.f]
    rw [if_pos (by omega), if_pos (by omega), hrd, laws_toENodeS_eq _ hm (by omega)]
    simp only [Option.bind_some]
    rw [if_pos (by omega), up1 (by omega : i < l.length) (by omega)]
    obtain ⟨h1, h2⟩ := fill_step z100 patI l y i (by omega) hy ht
    exact ih k (i + 1) _ (by omega) (by omega) h1 h2
theorem laws_toPatchS_eq (l : List S100) (hl : l.length ≤ 1048576) (hx : ∀ x ∈ l, x.f2.length ≤ 1048576) {k : Nat} (hk : 2200000 ≤ k) : laws_toPatchS.f k l = some (l.map patI) := by
  unfold laws_toPatchS.f
  rw [if_pos (by omega), if_pos (by omega)]
  exact laws_toPatchS_l0 l hl hx l.length k 0 _ (by omega) (by omega) (by simp) (by simp)
theorem laws_toSection_eq (a : ByteArray) (b c d : Int) (e : ByteArray) (l : List S100) (hl : l.length ≤ 1048576) (hx : ∀ x ∈ l, x.f2.length ≤ 1048576) {k : Nat} (hk : 2200000 ≤ k) : laws_toSection.f k a b c d e l = some (a, b, c, d, e, l.map patI) := by
  unfold laws_toSection.f
  rw [laws_toPatchS_eq l hl hx hk]
  rfl

theorem laws_eqPatchS_l0 (l : List S70) (hl : l.length ≤ 1048576) (hx : ∀ x ∈ l, x.f2.length ≤ 1048576) : ∀ (n k i : Nat), i + n = l.length → n + 1048578 ≤ k → laws_eqPatchS.l0 k l l (i : Int) = some true := by
  intro n
  induction n with
  | zero =>
    intro k i hi hk
    obtain ⟨k, rfl⟩ : ∃ m, k = m + 1 := ⟨k - 1, by omega⟩
    simp only [laws_eqPatchS.l0]
    rw [if_neg (by omega)]
  | succ n ih =>
    intro k i hi hk
    obtain ⟨k, rfl⟩ : ∃ m, k = m + 1 := ⟨k - 1, by omega⟩
    have hrd : rd_T70 l (i : Int) = l.getD i z70 := by unfold rd_T70; rw [Int.toNat_natCast]
    have hm := hx _ (getD_mem z70 l i (by omega))
    simp only [laws_eqPatchS.l0, laws_eqPatch.f, if_true]
    rw [if_pos (by omega), if_pos (by omega), if_pos (by omega), hrd, laws_eqENodeS_same _ hm (by omega)]
    simp only [Option.bind_some, if_true]
    rw [up1 (by omega : i < l.length) (by omega)]
    exact ih k (i + 1) (by omega) (by omega)
theorem laws_eqPatchS_same (l : List S70) (hl : l.length ≤ 1048576) (hx : ∀ x ∈ l, x.f2.length ≤ 1048576) {k : Nat} (hk : 2200000 ≤ k) : laws_eqPatchS.f k l l = some true := by
  unfold laws_eqPatchS.f
  rw [if_pos rfl]
  exact laws_eqPatchS_l0 l hl hx l.length k 0 (by omega) (by omega)
theorem laws_eqSection_same (a : ByteArray) (b c d : Int) (e : ByteArray) (l : List S70) (hl : l.length ≤ 1048576) (hx : ∀ x ∈ l, x.f2.length ≤ 1048576) {k : Nat} (hk : 2200000 ≤ k) : laws_eqSection.f k a b c d e l a b c d e l = some true := by
  unfold laws_eqSection.f
  simp only [if_true]
  rw [laws_eqPatchS_same l hl hx hk]
  simp

theorem spec_l2Takes_eq (a : Int) : spec_l2Takes.f a = some (takes a) := by
  unfold spec_l2Takes.f takes
  simp only [spec_l1In_eq, Option.bind_some]
  split
  · rfl
  · split
    · rfl
    · split <;> rfl

theorem spec_l2Node_eq (a b : Int) (s : ByteArray) {k : Nat} (hk : 30 ≤ k) : spec_l2Node.f k a b s = some (nodeOk (a, b, s)) := by
  obtain ⟨k, rfl⟩ : ∃ m, k = m + 1 := ⟨k - 1, by omega⟩
  unfold spec_l2Node.f nodeOk
  simp only [spec_l1In_eq, spec_l2Node.j0, spec_l2Takes_eq, spec_NameOk_eq s (by omega : 20 ≤ k), Option.bind_some]
  by_cases h1 : a = 1
  · rw [if_pos h1, if_pos h1]
    cases inR b 0 65535 <;> simp
  · rw [if_neg h1, if_neg h1]
    by_cases h2 : a = 2
    · rw [if_pos h2, if_pos (show a = 2 ∨ a = 3 from Or.inl h2), h2]
      by_cases h4 : b = 0
      · simp [h4]
      · simp [h4]
    · by_cases h3 : a = 3
      · rw [if_neg h2, if_pos (Or.inr h3), h3]
        by_cases h4 : b = 0
        · simp [h4]
        · simp [h4]
      · have e : (a == 3) = false := by simpa using h3
        rw [if_neg h2, if_neg (show ¬ (a = 2 ∨ a = 3) by omega), e]
        simp only [Bool.false_eq_true, if_false]
        by_cases h4 : b = 0
        · by_cases h5 : s.toList = []
          · rw [if_pos h4, if_pos h5, h4, h5]
            simp [takes, inR]
            by_cases h6 : 4 ≤ a ∧ a ≤ 17
            · by_cases h7 : a ≤ 7
              · rw [if_neg (by omega), if_pos (by omega)]
                simp
                omega
              · rw [if_neg (by omega), if_neg (by omega), if_pos (by omega)]
                simp
                omega
            · rw [if_neg (by omega), if_neg (by omega), if_neg (by omega)]
              simp
              omega
          · simp [h4, h5]
        · simp [h4]

theorem impl_isNode_eq (a b : Int) (s : ByteArray) {k : Nat} (hk : 30 ≤ k) : impl_isNode.f k a b s = some (nodeOk (a, b, s)) := by
  obtain ⟨k, rfl⟩ : ∃ m, k = m + 1 := ⟨k - 1, by omega⟩
  unfold impl_isNode.f nodeOk
  simp only [impl_isWord_eq, impl_isNode.j0, impl_within_eq, impl_NameOk_eq s (by omega : 20 ≤ k), Option.bind_some]
  by_cases h1 : a = 1
  · rw [if_pos h1, if_pos h1]
    cases inR b 0 65535 <;> simp
  · rw [if_neg h1, if_neg h1]
    by_cases h2 : a = 2
    · rw [if_pos h2, if_pos (show a = 2 ∨ a = 3 from Or.inl h2)]
      by_cases h4 : b = 0
      · simp [h4]
      · simp [h4]
    · by_cases h3 : a = 3
      · rw [if_neg h2, if_pos (Or.inr h3), h3]
        by_cases h4 : b = 0
        · simp [h4]
        · simp [h4]
      · have e : (a == 3) = false := by simpa using h3
        rw [if_neg h2, if_neg (show ¬ (a = 2 ∨ a = 3) by omega), e]
        simp only [Bool.false_eq_true, if_false]
        cases inR a 4 17
        · simp
        · by_cases h4 : b = 0
          · simp [h4]
          · simp [h4]

def nd_ (x : S74) : Nd := (x.f0, x.f1, x.f2)
theorem spec_ExprOk_l0 (l : List S74) (hl : l.length ≤ 1048576) : ∀ (n k i : Nat) (d : Int), i + n = l.length → n + 40 ≤ k → 0 ≤ d → d ≤ 2 * i → spec_ExprOk.l0 k l d (i : Int) = some (decide ((l.length : Int) ≤ 30) && exprGo ((l.drop i).map nd_) d) := by
  intro n
  induction n with
  | zero =>
    intro k i d hi hk h0 h1
    obtain ⟨k, rfl⟩ : ∃ m, k = m + 1 := ⟨k - 1, by omega⟩
    simp only [spec_ExprOk.l0]
    rw [if_neg (by omega), List.drop_eq_nil_of_le (by omega)]
    by_cases h : (l.length : Int) ≤ 30
    · rw [if_pos h, decide_eq_true h]
      rfl
    · rw [if_neg h, decide_eq_false h]
      rfl
  | succ n ih =>
    intro k i d hi hk h0 h1
    obtain ⟨k, rfl⟩ : ∃ m, k = m + 1 := ⟨k - 1, by omega⟩
    simp only [spec_ExprOk.l0]
    rw [if_pos (by omega), if_pos (by omega), drop_at z74 l i (by omega)]
    have hrd : rd_T74 l (i : Int) = l.getD i z74 := by unfold rd_T74; rw [Int.toNat_natCast]
    rw [hrd]
    generalize l.getD i z74 = x
    simp only [List.map_cons, exprGo, nd_]
    rw [spec_l2Node_eq _ _ _ (by omega : 30 ≤ k), spec_l2Takes_eq]
    simp only [Option.bind_some]
    have ht := takes_in x.f0
    by_cases c1 : nodeOk (x.f0, x.f1, x.f2) = true
    · rw [if_pos c1, c1]
      by_cases c2 : takes x.f0 > d
      · rw [if_pos c2, decide_eq_false (show ¬ takes x.f0 ≤ d by omega)]
        simp
      · rw [if_neg c2, decide_eq_true (show takes x.f0 ≤ d by omega), w64 (n := d - takes x.f0) (by omega) (by omega), w64 (n := d - takes x.f0 + 1) (by omega) (by omega), up1 (by omega : i < l.length) (by omega)]
        have := ih k (i + 1) (d - takes x.f0 + 1) (by omega) (by omega) (by omega) (by omega)
        rw [this]
        simp
    · rw [if_neg c1]
      simp [c1]
theorem spec_ExprOk_eq (l : List S74) (hl : l.length ≤ 1048576) {k : Nat} (hk : l.length + 40 ≤ k) : spec_ExprOk.f k l = some (exprOk (l.map nd_)) := by
  unfold spec_ExprOk.f exprOk
  have := spec_ExprOk_l0 l hl l.length k 0 0 (by omega) (by omega) (by omega) (by omega)
  rw [show ((0 : Nat) : Int) = 0 from rfl] at this
  rw [this]
  simp

--NEEDS spec_ExprOk
theorem impl_ExprOk_l0 (l : List S74) (hl : l.length ≤ 30) : ∀ (n k i : Nat) (d : Int), i + n = l.length → n + 40 ≤ k → 0 ≤ d → d ≤ i → impl_ExprOk.l0 k d l (l.length : Int) (i : Int) = some (exprGo ((l.drop i).map nd_) d) := by
  intro n
  induction n with
  | zero =>
    intro k i d hi hk h0 h1
    obtain ⟨k, rfl⟩ : ∃ m, k = m + 1 := ⟨k - 1, by omega⟩
    simp only [impl_ExprOk.l0]
    rw [if_neg (by omega), List.drop_eq_nil_of_le (by omega)]
    rfl
  | succ n ih =>
    intro k i d hi hk h0 h1
    obtain ⟨k, rfl⟩ : ∃ m, k = m + 1 := ⟨k - 1, by omega⟩
    simp only [impl_ExprOk.l0]
    rw [if_pos (by omega), if_pos (by omega), if_pos (by omega), drop_at z74 l i (by omega)]
    have hrd : rd_T74 l (i : Int) = l.getD i z74 := by unfold rd_T74; rw [Int.toNat_natCast]
    rw [hrd]
    generalize l.getD i z74 = x
    simp only [List.map_cons, exprGo, nd_]
    rw [impl_isNode_eq _ _ _ (by omega : 30 ≤ k), up1 (by omega : i < l.length) (by omega)]
    simp only [Option.bind_some]
    by_cases c1 : nodeOk (x.f0, x.f1, x.f2) = true
    · have hk1 := nodeOk_kind c1
      rw [if_pos c1, c1]
      simp only at hk1
      by_cases c2 : x.f0 ≤ 3
      · have ht : takes x.f0 = 0 := by unfold takes; rw [inR_pos (by omega) (by omega)]; rfl
        rw [if_pos c2, ht, w64 (n := d + 1) (by omega) (by omega), ih k (i + 1) (d + 1) (by omega) (by omega) (by omega) (by omega), decide_eq_true (show (0 : Int) ≤ d by omega), show d - 0 + 1 = d + 1 from by omega]
        simp
      · by_cases c3 : x.f0 ≤ 7
        · have ht : takes x.f0 = 1 := by unfold takes; rw [inR_neg (by omega), inR_pos (by omega) (by omega)]; rfl
          rw [if_neg c2, if_pos c3, ht]
          by_cases c4 : d < 1
          · rw [if_pos c4, decide_eq_false (show ¬ (1 : Int) ≤ d by omega)]
            simp
          · rw [if_neg c4, decide_eq_true (show (1 : Int) ≤ d by omega), ih k (i + 1) d (by omega) (by omega) (by omega) (by omega), show d - 1 + 1 = d from by omega]
            simp
        · have ht : takes x.f0 = 2 := by unfold takes; rw [inR_neg (by omega), inR_neg (by omega), inR_pos (by omega) (by omega)]; rfl
          rw [if_neg c2, if_neg c3, ht]
          by_cases c4 : d < 2
          · rw [if_pos c4, decide_eq_false (show ¬ (2 : Int) ≤ d by omega)]
            simp
          · rw [if_neg c4, decide_eq_true (show (2 : Int) ≤ d by omega), w64 (n := d - 1) (by omega) (by omega), ih k (i + 1) (d - 1) (by omega) (by omega) (by omega) (by omega), show d - 2 + 1 = d - 1 from by omega]
            simp
    · rw [if_neg c1]
      simp [c1]
theorem impl_ExprOk_eq (l : List S74) {k : Nat} (hk : 80 ≤ k) : impl_ExprOk.f k l = some (exprOk (l.map nd_)) := by
  unfold impl_ExprOk.f exprOk
  by_cases h : (l.length : Int) > 30
  · rw [if_pos h, decide_eq_false (show ¬ ((l.map nd_).length : Int) ≤ 30 by rw [List.length_map]; omega)]
    rfl
  · rw [if_neg h, decide_eq_true (show ((l.map nd_).length : Int) ≤ 30 by rw [List.length_map]; omega)]
    have := impl_ExprOk_l0 l (by omega) l.length k 0 0 (by omega) (by omega) (by omega) (by omega)
    rw [show ((0 : Nat) : Int) = 0 from rfl] at this
    rw [this]
    simp

theorem impl_noughts_eq (n : Nat) (h : n ≤ 1048576) : impl_noughts.f (n : Int) = some ⟨(Go.Lib.repeatL [0] n).toArray⟩ := by
  unfold impl_noughts.f strings_Repeat.f
  rw [if_pos (by omega), if_pos (by omega), if_pos (by rw [Int.toNat_natCast]; show 1 * n ≤ _; omega)]
  rfl

def patOk (n : Int) (x : S70) : Bool := inR x.f1 1 3 && (inR x.f0 0 (n - (if x.f1 = 2 then 2 else 1)) && exprOk (x.f2.map nd_))
def secBase (kd : Int) : Int := if kd = 0 then 0 else if kd = 1 then 256 else 49152
def isZero (b : Int) : Bool := b == 0
def secOk (nm : ByteArray) (kd bk ad : Int) (dt : ByteArray) (l : List S70) : Bool :=
  nameOk nm && (inR kd 0 2 && (decide (dt.size ≤ 256) && (decide (l.length ≤ 256) && ((decide (ad = -1) || inR ad (secBase kd) (secBase kd + 256 - dt.size)) && ((decide (bk = -1) || (decide (kd = 1) && inR bk 1 15)) && ((l.all (patOk dt.size) && (decide (kd ≠ 2) || l.isEmpty)) && (decide (kd ≠ 2) || allB isZero dt dt.size 0)))))))
theorem spec_l9Patch_eq (x : S70) (n : Int) (h0 : 0 ≤ n) (h1 : n ≤ 1048576) (hx : x.f2.length ≤ 1048576) {k : Nat} (hk : 1100000 ≤ k) : spec_l9Patch.f k x.f0 x.f1 x.f2 n = some (patOk n x) := by
  unfold spec_l9Patch.f patOk
  simp only [spec_l1In_eq, Option.bind_some]
  rw [spec_ExprOk_eq x.f2 hx (by omega), w64 (n := n - 2) (by omega) (by omega), w64 (n := n - 1) (by omega) (by omega)]
  by_cases c : x.f1 = 2
  · rw [if_pos c, if_pos c]
    by_cases c1 : inR x.f1 1 3 = true
    · rw [if_pos c1, c1]
      by_cases c2 : inR x.f0 0 (n - 2) = true
      · rw [if_pos c2, c2]
        simp
      · rw [if_neg c2, Bool.eq_false_iff.2 c2]
        simp
    · rw [if_neg c1, Bool.eq_false_iff.2 c1]
      simp
  · rw [if_neg c, if_neg c]
    by_cases c1 : inR x.f1 1 3 = true
    · rw [if_pos c1, c1]
      by_cases c2 : inR x.f0 0 (n - 1) = true
      · rw [if_pos c2, c2]
        simp
      · rw [if_neg c2, Bool.eq_false_iff.2 c2]
        simp
    · rw [if_neg c1, Bool.eq_false_iff.2 c1]
      simp
theorem spec_SectionOk_l1 (nm : ByteArray) (kd bk ad : Int) (dt : ByteArray) (l : List S70) (hd : dt.size ≤ 1048576) : ∀ (n k i : Nat), i + n = dt.size → 2 * n + 2 ≤ k → spec_SectionOk.l1 k (i : Int) nm kd bk ad dt l = some (decide (kd ≠ 2) || allB isZero dt n i) := by
  intro n
  induction n with
  | zero =>
    intro k i hi hk
    obtain ⟨k, rfl⟩ : ∃ m, k = m + 2 := ⟨k - 2, by omega⟩
    simp only [spec_SectionOk.l1, spec_SectionOk.j5]
    rw [if_neg (by omega), if_neg (by decide)]
    simp [allB]
  | succ n ih =>
    intro k i hi hk
    obtain ⟨k, rfl⟩ : ∃ m, k = m + 2 := ⟨k - 2, by omega⟩
    simp only [spec_SectionOk.l1, spec_SectionOk.j5]
    rw [if_pos (by omega)]
    by_cases c : kd = 2
    · rw [if_pos (by simpa using c), if_pos (by omega), if_pos (by omega), up1 (by omega : i < dt.size) (by omega)]
      by_cases c1 : bt dt (i : Int) = 0
      · rw [if_pos c1, ih k (i + 1) (by omega) (by omega)]
        simp [allB, isZero, c1]
      · rw [if_neg c1]
        simp [allB, isZero, c1, c]
    · rw [if_neg (by simpa using c)]
      simp [c]
theorem spec_SectionOk_l0 (nm : ByteArray) (kd bk ad : Int) (dt : ByteArray) (l : List S70) (hd : dt.size ≤ 1048576) (hl : l.length ≤ 1048576) (hx : ∀ x ∈ l, x.f2.length ≤ 1048576) : ∀ (n k i : Nat), i + n = l.length → n + 2200000 ≤ k →
    spec_SectionOk.l0 k (dt.size : Int) (i : Int) nm kd bk ad dt l = some (((l.drop i).all (patOk dt.size) && (decide (kd ≠ 2) || (l.drop i).isEmpty)) && (decide (kd ≠ 2) || allB isZero dt dt.size 0)) := by
  intro n
  induction n with
  | zero =>
    intro k i hi hk
    obtain ⟨k, rfl⟩ : ∃ m, k = m + 1 := ⟨k - 1, by omega⟩
    simp only [spec_SectionOk.l0]
    rw [if_neg (by omega), List.drop_eq_nil_of_le (by omega)]
    have := spec_SectionOk_l1 nm kd bk ad dt l hd dt.size k 0 (by omega) (by omega)
    rw [show ((0 : Nat) : Int) = 0 from rfl] at this
    rw [this]
    simp
  | succ n ih =>
    intro k i hi hk
    obtain ⟨k, rfl⟩ : ∃ m, k = m + 1 := ⟨k - 1, by omega⟩
    have hrd : rd_T70 l (i : Int) = l.getD i z70 := by unfold rd_T70; rw [Int.toNat_natCast]
    have hm := hx _ (getD_mem z70 l i (by omega))
    simp only [spec_SectionOk.l0]
    rw [if_pos (by omega), if_pos (by omega), hrd, drop_at z70 l i (by omega)]
    generalize l.getD i z70 = x at hm ⊢
    rw [spec_l9Patch_eq x _ (by omega) (by omega) hm (by omega)]
    simp only [Option.bind_some]
    by_cases c : patOk (dt.size : Int) x = true
    · rw [if_pos c]
      by_cases c1 : kd = 2
      · rw [if_pos c1]
        simp [c1]
      · rw [if_neg c1, up1 (by omega : i < l.length) (by omega), ih k (i + 1) (by omega) (by omega)]
        simp [c, c1]
    · rw [if_neg c]
      simp [c]
theorem spec_SectionOk_eq (nm : ByteArray) (kd bk ad : Int) (dt : ByteArray) (l : List S70) (hd : dt.size ≤ 1048576) (hl : l.length ≤ 1048576) (hx : ∀ x ∈ l, x.f2.length ≤ 1048576) {k : Nat} (hk : 3300000 ≤ k) : spec_SectionOk.f k nm kd bk ad dt l = some (secOk nm kd bk ad dt l) := by
  obtain ⟨k, rfl⟩ : ∃ m, k = m + 3 := ⟨k - 3, by omega⟩
  have L0 := spec_SectionOk_l0 nm kd bk ad dt l hd hl hx l.length k 0 (by omega) (by omega)
  rw [show ((0 : Nat) : Int) = 0 from rfl, List.drop_zero] at L0
  unfold spec_SectionOk.f secOk
  simp only [spec_SectionOk.j0, spec_SectionOk.j1, spec_SectionOk.j2, spec_l1In_eq, spec_NameOk_eq nm (show 20 ≤ k + 3 by omega), Option.bind_some, L0, spec_l9Base.f]
  by_cases c1 : nameOk nm = true
  · rw [if_pos c1, c1]
    by_cases c2 : inR kd 0 2 = true
    · rw [if_pos c2, c2]
      by_cases c3 : dt.size ≤ 256
      · rw [if_neg (show ¬ (dt.size : Int) > 256 by omega), decide_eq_true c3]
        by_cases c4 : l.length ≤ 256
        · rw [decide_eq_false (show ¬ (l.length : Int) > 256 by omega), if_neg (by decide), decide_eq_true c4]
          obtain ⟨hk0, hk2⟩ := inR_iff.1 c2
          have hb : (if kd = 0 then some (0 : Int) else if kd = 1 then some 256 else some 49152) = some (secBase kd) := by
            unfold secBase
            by_cases e0 : kd = 0
            · rw [if_pos e0, if_pos e0]
            · rw [if_neg e0, if_neg e0]
              by_cases e1 : kd = 1
              · rw [if_pos e1, if_pos e1]
              · rw [if_neg e1, if_neg e1]
          have hbr : 0 ≤ secBase kd ∧ secBase kd ≤ 49152 := by
            unfold secBase
            split
            · omega
            · split <;> omega
          rw [hb]
          simp only [Option.bind_some]
          rw [w64 (n := secBase kd + 256) (by omega) (by omega), w64 (n := secBase kd + 256 - (dt.size : Int)) (by omega) (by omega)]
          by_cases c5 : ad = -1
          · rw [if_pos c5, if_neg (by decide), decide_eq_true c5]
            by_cases c6 : bk = -1
            · rw [if_pos c6, if_neg (by decide), decide_eq_true c6]
              simp
            · rw [if_neg c6, decide_eq_false c6]
              by_cases c7 : kd = 1
              · rw [if_pos c7, decide_eq_true c7]
                cases inR bk 1 15 <;> simp
              · rw [if_neg c7, decide_eq_false c7]
                simp
          · rw [if_neg c5, decide_eq_false c5]
            cases c8 : inR ad (secBase kd) (secBase kd + 256 - (dt.size : Int)) with
            | false => simp
            | true =>
              simp only [Bool.not_true]
              rw [if_neg (by decide)]
              by_cases c6 : bk = -1
              · rw [if_pos c6, if_neg (by decide), decide_eq_true c6]
                simp
              · rw [if_neg c6, decide_eq_false c6]
                by_cases c7 : kd = 1
                · rw [if_pos c7, decide_eq_true c7]
                  cases inR bk 1 15 <;> simp
                · rw [if_neg c7, decide_eq_false c7]
                  simp
        · rw [decide_eq_true (show (l.length : Int) > 256 by omega), if_pos rfl, decide_eq_false c4]
          simp
      · rw [if_pos (show (dt.size : Int) > 256 by omega), decide_eq_false c3]
        simp
    · rw [if_neg c2, Bool.eq_false_iff.2 c2]
      simp
  · rw [if_neg c1, Bool.eq_false_iff.2 c1]
    simp

--NEEDS impl_Patch
theorem zeros_drop (s : ByteArray) : ∀ (n i : Nat), i + n = s.size → (allB isZero s n i = true ↔ s.data.toList.drop i = Go.Lib.repeatL [0] n) := by
  intro n
  induction n with
  | zero =>
    intro i hi
    rw [drop_end s i (by omega)]
    simp [allB, Go.Lib.repeatL]
  | succ n ih =>
    intro i hi
    obtain ⟨x, h1, h2⟩ := bt_drop s i (by omega)
    rw [h1]
    simp only [allB, Go.Lib.repeatL, List.singleton_append, List.cons.injEq, Bool.and_eq_true, ih (i + 1) (by omega)]
    rw [h2]
    have : isZero (x.toNat : Int) = true ↔ x = 0 := by
      unfold isZero
      rw [beq_iff_eq]
      exact nat_eq x 0 (by decide)
    rw [this]
theorem zeros_eq (s : ByteArray) : (s.toList = (⟨(Go.Lib.repeatL [0] s.size).toArray⟩ : ByteArray).toList) ↔ allB isZero s s.size 0 = true := by
  rw [zeros_drop s s.size 0 (by omega), List.drop_zero]
  constructor
  · intro h
    have := toList_inj h
    conv => lhs; rw [this]
  · intro h
    have : s = (⟨(Go.Lib.repeatL [0] s.size).toArray⟩ : ByteArray) := by
      conv => lhs; rw [show s = ⟨s.data⟩ from rfl, ← Array.toArray_toList (xs := s.data), h]
    rw [← this]
theorem impl_isPatch_eq (nm : ByteArray) (kd bk ad : Int) (dt : ByteArray) (l : List S70) (x : S70) (hd : dt.size ≤ 1048576) {k : Nat} (hk : 100 ≤ k) : impl_isPatch.f k nm kd bk ad dt l x.f0 x.f1 x.f2 = some (patOk dt.size x) := by
  unfold impl_isPatch.f patOk
  simp only [impl_within_eq, Option.bind_some]
  rw [impl_ExprOk_eq x.f2 (by omega), w64 (n := (dt.size : Int) - 2) (by omega) (by omega), w64 (n := (dt.size : Int) - 1) (by omega) (by omega)]
  by_cases c : x.f1 = 2
  · rw [if_pos c, if_pos c]
    by_cases c1 : inR x.f1 1 3 = true
    · rw [if_pos c1, c1]
      by_cases c2 : inR x.f0 0 ((dt.size : Int) - 2) = true
      · rw [if_pos c2, c2]
        simp
      · rw [if_neg c2, Bool.eq_false_iff.2 c2]
        simp
    · rw [if_neg c1, Bool.eq_false_iff.2 c1]
      simp
  · rw [if_neg c, if_neg c]
    by_cases c1 : inR x.f1 1 3 = true
    · rw [if_pos c1, c1]
      by_cases c2 : inR x.f0 0 ((dt.size : Int) - 1) = true
      · rw [if_pos c2, c2]
        simp
      · rw [if_neg c2, Bool.eq_false_iff.2 c2]
        simp
    · rw [if_neg c1, Bool.eq_false_iff.2 c1]
      simp
theorem impl_Patch_go (nm : ByteArray) (kd bk ad : Int) (dt : ByteArray) (l : List S70) (hd : dt.size ≤ 1048576) {k : Nat} (hk : 100 ≤ k) : ∀ (y : List S70) (i : Int), 0 ≤ i → ∃ r, impl_Patch.go k nm kd bk ad dt l y i = some r ∧ decide (0 ≤ r) = !(y.all (patOk dt.size))
  | [], i, _ => ⟨-1, rfl, rfl⟩
  | x :: r, i, h => by
    rw [impl_Patch.go, impl_isPatch_eq nm kd bk ad dt l x hd hk]
    simp only [Option.bind_some]
    by_cases c : patOk (dt.size : Int) x = true
    · rw [if_pos c]
      obtain ⟨j, hj, hd2⟩ := impl_Patch_go nm kd bk ad dt l hd hk r (i + 1) (by omega)
      exact ⟨j, hj, by rw [hd2]; simp [c]⟩
    · rw [if_neg c]
      exact ⟨i, rfl, by rw [decide_eq_true h]; simp [c]⟩
theorem impl_Patch_eq (nm : ByteArray) (kd bk ad : Int) (dt : ByteArray) (l : List S70) (hd : dt.size ≤ 1048576) {k : Nat} (hk : 100 ≤ k) : impl_Patch.f k l nm kd bk ad dt l = some (!(l.all (patOk dt.size))) := by
  unfold impl_Patch.f
  obtain ⟨r, h1, h2⟩ := impl_Patch_go nm kd bk ad dt l hd hk l 0 (by omega)
  rw [h1]
  simp only [Option.bind_some]
  rw [h2]
theorem impl_SectionOk_eq (nm : ByteArray) (kd bk ad : Int) (dt : ByteArray) (l : List S70) (hd : dt.size ≤ 1048576) (hl : l.length ≤ 1048576) {k : Nat} (hk : 3300000 ≤ k) : impl_SectionOk.f k nm kd bk ad dt l = some (secOk nm kd bk ad dt l) := by
  obtain ⟨k, rfl⟩ : ∃ m, k = m + 2 := ⟨k - 2, by omega⟩
  have hz := zeros_eq dt
  unfold impl_SectionOk.f secOk
  simp only [impl_SectionOk.j0, impl_SectionOk.j1, impl_within_eq, impl_NameOk_eq nm (show 20 ≤ k + 2 by omega), impl_noughts_eq dt.size hd, Option.bind_some, impl_Patch_eq nm kd bk ad dt l hd (show 100 ≤ k by omega), impl_baseOf.f]
  by_cases c1 : nameOk nm = true
  · rw [if_pos c1, c1]
    by_cases c2 : inR kd 0 2 = true
    · rw [if_pos c2, c2]
      by_cases c3 : dt.size ≤ 256
      · rw [if_neg (show ¬ (dt.size : Int) > 256 by omega), decide_eq_true c3]
        by_cases c4 : l.length ≤ 256
        · rw [decide_eq_false (show ¬ (l.length : Int) > 256 by omega), if_neg (by decide), decide_eq_true c4]
          obtain ⟨hk0, hk2⟩ := inR_iff.1 c2
          have hb : (if kd = 1 then some (256 : Int) else if kd = 2 then some 49152 else some 0) = some (secBase kd) := by
            unfold secBase
            by_cases e1 : kd = 1
            · rw [if_pos e1, if_neg (by omega), if_pos e1]
            · rw [if_neg e1]
              by_cases e2 : kd = 2
              · rw [if_pos e2, if_neg (by omega), if_neg (by omega)]
              · rw [if_neg e2, if_pos (by omega)]
          have hbr : 0 ≤ secBase kd ∧ secBase kd ≤ 49152 := by
            unfold secBase
            split
            · omega
            · split <;> omega
          rw [hb]
          simp only [Option.bind_some]
          rw [w64 (n := secBase kd + 256) (by omega) (by omega), w64 (n := secBase kd + 256 - (dt.size : Int)) (by omega) (by omega)]
          have he : l.isEmpty = decide (¬ (l.length : Int) > 0) := by
            cases l with
            | nil => rfl
            | cons x r => simp
          by_cases e2 : kd = 2
          · rw [if_pos e2]
            simp only [hz, he]
            by_cases c9 : allB isZero dt dt.size 0 = true
            · rw [if_pos c9, c9]
              by_cases c10 : (l.length : Int) > 0
              · have hl0 : 0 < l.length := by omega
                have hne : l ≠ [] := by
                  intro h
                  rw [h] at hl0
                  exact absurd hl0 (by decide)
                simp [e2, hl0, hne]
              · simp only [c10, e2]
                cases hp : l.all (patOk (dt.size : Int)) <;> by_cases c5 : ad = -1 <;> by_cases c6 : bk = -1 <;> cases c8 : inR ad (secBase 2) (secBase 2 + 256 - (dt.size : Int)) <;> simp_all
            · rw [if_neg c9, Bool.eq_false_iff.2 c9]
              simp [e2]
          · rw [if_neg e2]
            cases hp : l.all (patOk (dt.size : Int)) <;> by_cases c5 : ad = -1 <;> by_cases c6 : bk = -1 <;> by_cases c7 : kd = 1 <;> cases c8 : inR ad (secBase kd) (secBase kd + 256 - (dt.size : Int)) <;> cases c11 : inR bk 1 15 <;> simp_all
        · rw [decide_eq_true (show (l.length : Int) > 256 by omega), if_pos rfl, decide_eq_false c4]
          simp
      · rw [if_pos (show (dt.size : Int) > 256 by omega), decide_eq_false c3]
        simp
    · rw [if_neg c2, Bool.eq_false_iff.2 c2]
      simp
  · rw [if_neg c1, Bool.eq_false_iff.2 c1]
    simp

--NEEDS laws_szSection laws_szENodeSS
theorem laws_szOSymS_l0 (l : List S64) (hl : l.length ≤ 1048576) (hn : ∀ x ∈ l, x.f0.size ≤ maxLen) : ∀ (n k i : Nat) (left : Int), i + n = l.length → n < k → 0 ≤ left → left ≤ 1048576 → ∃ t, laws_szOSymS.l0 k l left (i : Int) = some t ∧ t ≤ left := by
  intro n
  induction n with
  | zero =>
    intro k i left hi hk h0 h1
    obtain ⟨k, rfl⟩ : ∃ m, k = m + 1 := ⟨k - 1, by omega⟩
    refine ⟨left, ?_, Int.le_refl _⟩
    simp only [laws_szOSymS.l0]
    rw [if_neg (by omega)]
  | succ n ih =>
    intro k i left hi hk h0 h1
    obtain ⟨k, rfl⟩ : ∃ m, k = m + 1 := ⟨k - 1, by omega⟩
    have hrd : rd_T64 l (i : Int) = l.getD i z64 := by unfold rd_T64; rw [Int.toNat_natCast]
    have hx := hn _ (getD_mem z64 l i (by omega))
    simp only [laws_szOSymS.l0, laws_szOSym.f]
    rw [if_pos (by omega), if_pos (by omega), up1 (by omega : i < l.length) (by omega), hrd]
    generalize l.getD i z64 = x at hx ⊢
    unfold maxLen at hx
    rw [w64 (n := left - (x.f0.size : Int)) (by omega) (by omega)]
    by_cases hc : left - (x.f0.size : Int) < 0
    · rw [if_pos hc]
      exact ⟨-1, rfl, by omega⟩
    · rw [if_neg hc]
      simp only [Option.bind_some]
      rw [if_neg hc]
      obtain ⟨u, hu, hle2⟩ := ih k (i + 1) (left - (x.f0.size : Int)) (by omega) (by omega) (by omega) (by omega)
      exact ⟨u, hu, by omega⟩
theorem laws_szOSymS_some (l : List S64) (hl : l.length ≤ maxLen) (hn : ∀ x ∈ l, x.f0.size ≤ maxLen) {k : Nat} {left : Int} (h0 : 0 ≤ left) (h1 : left ≤ 1048576) (hk : 1048577 ≤ k) :
    ∃ t, laws_szOSymS.f k l left = some t ∧ t ≤ left ∧ (0 ≤ t → l.length ≤ 1048576) := by
  unfold maxLen at hl
  unfold laws_szOSymS.f
  rw [w64 (by omega) (by omega)]
  by_cases hc : left - (l.length : Int) < 0
  · rw [if_pos hc]
    exact ⟨-1, rfl, by omega, by omega⟩
  · rw [if_neg hc]
    obtain ⟨t, ht, hle⟩ := laws_szOSymS_l0 l (by omega) hn l.length k 0 (left - l.length) (by omega) (by omega) (by omega) (by omega)
    exact ⟨t, ht, by omega, fun h => by omega⟩
theorem laws_szENodeSS_l0 (l : List (List S90)) (hl : l.length ≤ 1048576) (hn : ∀ x ∈ l, x.length ≤ maxLen ∧ ∀ y ∈ x, y.f2.size ≤ maxLen) : ∀ (n k i : Nat) (left : Int), i + n = l.length → n + 1048578 ≤ k → 0 ≤ left → left ≤ 1048576 → ∃ t, laws_szENodeSS.l0 k l left (i : Int) = some t ∧ t ≤ left ∧ (0 ≤ t → ∀ x ∈ l.drop i, x.length ≤ 1048576) := by
  intro n
  induction n with
  | zero =>
    intro k i left hi hk h0 h1
    obtain ⟨k, rfl⟩ : ∃ m, k = m + 1 := ⟨k - 1, by omega⟩
    refine ⟨left, ?_, Int.le_refl _, ?_⟩
    · simp only [laws_szENodeSS.l0]
      rw [if_neg (by omega)]
    · intro _ x hx
      rw [List.drop_eq_nil_of_le (by omega)] at hx
      cases hx
  | succ n ih =>
    intro k i left hi hk h0 h1
    obtain ⟨k, rfl⟩ : ∃ m, k = m + 1 := ⟨k - 1, by omega⟩
    have hrd : rd_L3 l (i : Int) = l.getD i [] := by unfold rd_L3; rw [Int.toNat_natCast]
    simp only [laws_szENodeSS.l0]
    rw [if_pos (by omega), if_pos (by omega), up1 (by omega : i < l.length) (by omega), hrd, drop_at [] l i (by omega)]
    have hx := hn _ (getD_mem [] l i (by omega))
    generalize l.getD i [] = x at hx ⊢
    obtain ⟨t, ht, hle, hlen⟩ := laws_szENodeS_some x hx.1 hx.2 (k := k) h0 h1 (by omega)
    rw [ht]
    simp only [Option.bind_some]
    by_cases hc : t < 0
    · rw [if_pos hc]
      exact ⟨-1, rfl, by omega, by omega⟩
    · rw [if_neg hc]
      obtain ⟨u, hu, hle2, hlen2⟩ := ih k (i + 1) t (by omega) (by omega) (by omega) (by omega)
      refine ⟨u, hu, by omega, fun h y hy => ?_⟩
      rcases List.mem_cons.1 hy with rfl | hy
      · exact hlen (by omega)
      · exact hlen2 h y hy
theorem laws_szENodeSS_some (l : List (List S90)) (hl : l.length ≤ maxLen) (hn : ∀ x ∈ l, x.length ≤ maxLen ∧ ∀ y ∈ x, y.f2.size ≤ maxLen) {k : Nat} {left : Int} (h0 : 0 ≤ left) (h1 : left ≤ 1048576) (hk : 2200000 ≤ k) :
    ∃ t, laws_szENodeSS.f k l left = some t ∧ t ≤ left ∧ (0 ≤ t → l.length ≤ 1048576 ∧ ∀ x ∈ l, x.length ≤ 1048576) := by
  unfold maxLen at hl
  unfold laws_szENodeSS.f
  rw [w64 (by omega) (by omega)]
  by_cases hc : left - (l.length : Int) < 0
  · rw [if_pos hc]
    exact ⟨-1, rfl, by omega, by omega⟩
  · rw [if_neg hc]
    obtain ⟨t, ht, hle, hlen⟩ := laws_szENodeSS_l0 l (by omega) hn l.length k 0 (left - l.length) (by omega) (by omega) (by omega) (by omega)
    exact ⟨t, ht, by omega, fun h => ⟨by omega, fun x hx => hlen h x (by rw [List.drop_zero]; exact hx)⟩⟩
def secFit (x : S62) : Prop := x.f4.size ≤ 1048576 ∧ x.f5.length ≤ 1048576 ∧ ∀ y ∈ x.f5, y.f2.length ≤ 1048576
def secBig (x : S62) : Prop := x.f0.size ≤ maxLen ∧ x.f4.size ≤ maxLen ∧ x.f5.length ≤ maxLen ∧ ∀ y ∈ x.f5, y.f2.length ≤ maxLen ∧ ∀ z ∈ y.f2, z.f2.size ≤ maxLen
theorem laws_szSectionS_l0 (l : List S62) (hl : l.length ≤ 1048576) (hn : ∀ x ∈ l, secBig x) : ∀ (n k i : Nat) (left : Int), i + n = l.length → n + 2200000 ≤ k → 0 ≤ left → left ≤ 1048576 → ∃ t, laws_szSectionS.l0 k l left (i : Int) = some t ∧ t ≤ left ∧ (0 ≤ t → ∀ x ∈ l.drop i, secFit x) := by
  intro n
  induction n with
  | zero =>
    intro k i left hi hk h0 h1
    obtain ⟨k, rfl⟩ : ∃ m, k = m + 1 := ⟨k - 1, by omega⟩
    refine ⟨left, ?_, Int.le_refl _, ?_⟩
    · simp only [laws_szSectionS.l0]
      rw [if_neg (by omega)]
    · intro _ x hx
      rw [List.drop_eq_nil_of_le (by omega)] at hx
      cases hx
  | succ n ih =>
    intro k i left hi hk h0 h1
    obtain ⟨k, rfl⟩ : ∃ m, k = m + 1 := ⟨k - 1, by omega⟩
    have hrd : rd_T62 l (i : Int) = l.getD i z62 := by unfold rd_T62; rw [Int.toNat_natCast]
    simp only [laws_szSectionS.l0]
    rw [if_pos (by omega), if_pos (by omega), up1 (by omega : i < l.length) (by omega), hrd, drop_at z62 l i (by omega)]
    have hx := hn _ (getD_mem z62 l i (by omega))
    generalize l.getD i z62 = x at hx ⊢
    obtain ⟨t, ht, hle, hlen⟩ := laws_szSection_some x.f0 x.f1 x.f2 x.f3 x.f4 x.f5 hx.1 hx.2.1 hx.2.2.1 hx.2.2.2 (k := k) h0 h1 (by omega)
    rw [ht]
    simp only [Option.bind_some]
    by_cases hc : t < 0
    · rw [if_pos hc]
      exact ⟨-1, rfl, by omega, by omega⟩
    · rw [if_neg hc]
      obtain ⟨u, hu, hle2, hlen2⟩ := ih k (i + 1) t (by omega) (by omega) (by omega) (by omega)
      refine ⟨u, hu, by omega, fun h y hy => ?_⟩
      rcases List.mem_cons.1 hy with rfl | hy
      · exact (hlen (by omega)).2
      · exact hlen2 h y hy
theorem laws_szSectionS_some (l : List S62) (hl : l.length ≤ maxLen) (hn : ∀ x ∈ l, secBig x) {k : Nat} {left : Int} (h0 : 0 ≤ left) (h1 : left ≤ 1048576) (hk : 3300000 ≤ k) :
    ∃ t, laws_szSectionS.f k l left = some t ∧ t ≤ left ∧ (0 ≤ t → l.length ≤ 1048576 ∧ ∀ x ∈ l, secFit x) := by
  unfold maxLen at hl
  unfold laws_szSectionS.f
  rw [w64 (by omega) (by omega)]
  by_cases hc : left - (l.length : Int) < 0
  · rw [if_pos hc]
    exact ⟨-1, rfl, by omega, by omega⟩
  · rw [if_neg hc]
    obtain ⟨t, ht, hle, hlen⟩ := laws_szSectionS_l0 l (by omega) hn l.length k 0 (left - l.length) (by omega) (by omega) (by omega) (by omega)
    exact ⟨t, ht, by omega, fun h => ⟨by omega, fun x hx => hlen h x (by rw [List.drop_zero]; exact hx)⟩⟩
theorem laws_szObject_some (a : List S62) (b : List S64) (c : List (List S90)) (ha : a.length ≤ maxLen) (hA : ∀ x ∈ a, secBig x) (hb : b.length ≤ maxLen) (hB : ∀ x ∈ b, x.f0.size ≤ maxLen) (hc : c.length ≤ maxLen) (hC : ∀ x ∈ c, x.length ≤ maxLen ∧ ∀ y ∈ x, y.f2.size ≤ maxLen) {k : Nat} {left : Int} (h0 : 0 ≤ left) (h1 : left ≤ 1048576) (hk : 3300000 ≤ k) :
    ∃ t, laws_szObject.f k a b c left = some t ∧ t ≤ left ∧ (0 ≤ t → (a.length ≤ 1048576 ∧ ∀ x ∈ a, secFit x) ∧ b.length ≤ 1048576 ∧ c.length ≤ 1048576 ∧ ∀ x ∈ c, x.length ≤ 1048576) := by
  unfold laws_szObject.f
  obtain ⟨t, ht, hle, hlen⟩ := laws_szSectionS_some a ha hA (k := k) h0 h1 hk
  rw [ht]
  simp only [Option.bind_some]
  by_cases c1 : t < 0
  · rw [if_pos c1]
    exact ⟨-1, rfl, by omega, by omega⟩
  rw [if_neg c1]
  obtain ⟨u, hu, hle2, hlen2⟩ := laws_szOSymS_some b hb hB (k := k) (left := t) (by omega) (by omega) (by omega)
  rw [hu]
  simp only [Option.bind_some]
  by_cases c2 : u < 0
  · rw [if_pos c2]
    exact ⟨-1, rfl, by omega, by omega⟩
  rw [if_neg c2]
  obtain ⟨v, hv, hle3, hlen3⟩ := laws_szENodeSS_some c hc hC (k := k) (left := u) (by omega) (by omega) (by omega)
  rw [hv]
  simp only [Option.bind_some]
  by_cases c3 : v < 0
  · rw [if_pos c3]
    exact ⟨-1, rfl, by omega, by omega⟩
  rw [if_neg c3]
  exact ⟨v, rfl, by omega, fun h => ⟨hlen (by omega), hlen2 (by omega), hlen3 h⟩⟩

--NEEDS laws_toSection laws_toENodeSS laws_szOSymS
def osymI (x : S64) : S45 := ⟨x.f0, x.f1, x.f2, x.f3⟩
theorem laws_toOSymS_l0 (l : List S64) (hl : l.length ≤ 1048576) : ∀ (n k i : Nat) (y : List S45), i + n = l.length → n < k → y.length = l.length → y.take i = (l.map osymI).take i → laws_toOSymS.l0 k l y (i : Int) = some (l.map osymI) := by
  intro n
  induction n with
  | zero =>
    intro k i y hi hk hy ht
    obtain ⟨k, rfl⟩ : ∃ m, k = m + 1 := ⟨k - 1, by omega⟩
    simp only [laws_toOSymS.l0]
    rw [if_neg (by omega)]
    obtain rfl : i = l.length := by omega
    rw [fill_end osymI l y hy ht]
  | succ n ih =>
    intro k i y hi hk hy ht
    obtain ⟨k, rfl⟩ : ∃ m, k = m + 1 := ⟨k - 1, by omega⟩
    have hrd : rd_T64 l (i : Int) = l.getD i z64 := by unfold rd_T64; rw [Int.toNat_natCast]
    simp only [laws_toOSymS.l0, laws_toOSym.f]
    rw [if_pos (by omega), if_pos (by omega), hrd]
    simp only [Option.bind_some]
    rw [if_pos (by omega), up1 (by omega : i < l.length) (by omega)]
    obtain ⟨h1, h2⟩ := fill_step z64 osymI l y i (by omega) hy ht
    exact ih k (i + 1) _ (by omega) (by omega) h1 h2
theorem laws_toOSymS_eq (l : List S64) (hl : l.length ≤ 1048576) {k : Nat} (hk : 2200000 ≤ k) : laws_toOSymS.f k l = some (l.map osymI) := by
  unfold laws_toOSymS.f
  rw [if_pos (by omega), if_pos (by omega)]
  exact laws_toOSymS_l0 l hl l.length k 0 _ (by omega) (by omega) (by simp) (by simp)
theorem laws_toENodeSS_l0 (l : List (List S90)) (hl : l.length ≤ 1048576) (hx : ∀ x ∈ l, x.length ≤ 1048576) : ∀ (n k i : Nat) (y : List (List S74)), i + n = l.length → n + 1048578 ≤ k → y.length = l.length → y.take i = (l.map (List.map nodeI)).take i → laws_toENodeSS.l0 k l y (i : Int) = some (l.map (List.map nodeI)) := by
  intro n
  induction n with
  | zero =>
    intro k i y hi hk hy ht
    obtain ⟨k, rfl⟩ : ∃ m, k = m + 1 := ⟨k - 1, by omega⟩
    simp only [laws_toENodeSS.l0]
    rw [if_neg (by omega)]
    obtain rfl : i = l.length := by omega
    rw [fill_end (List.map nodeI) l y hy ht]
  | succ n ih =>
    intro k i y hi hk hy ht
    obtain ⟨k, rfl⟩ : ∃ m, k = m + 1 := ⟨k - 1, by omega⟩
    have hrd : rd_L3 l (i : Int) = l.getD i [] := by unfold rd_L3; rw [Int.toNat_natCast]
    have hm := hx _ (getD_mem [] l i (by omega))
    simp only [laws_toENodeSS.l0]
    rw [if_pos (by omega), if_pos (by omega), hrd, laws_toENodeS_eq _ hm (by omega)]
    simp only [Option.bind_some]
    rw [if_pos (by omega), up1 (by omega : i < l.length) (by omega)]
    obtain ⟨h1, h2⟩ := fill_step [] (List.map nodeI) l y i (by omega) hy ht
    exact ih k (i + 1) _ (by omega) (by omega) h1 h2
theorem laws_toENodeSS_eq (l : List (List S90)) (hl : l.length ≤ 1048576) (hx : ∀ x ∈ l, x.length ≤ 1048576) {k : Nat} (hk : 2200000 ≤ k) : laws_toENodeSS.f k l = some (l.map (List.map nodeI)) := by
  unfold laws_toENodeSS.f
  rw [if_pos (by omega), if_pos (by omega)]
  exact laws_toENodeSS_l0 l hl hx l.length k 0 _ (by omega) (by omega) (by simp) (by simp)
def secI (x : S62) : S43 := ⟨x.f0, x.f1, x.f2, x.f3, x.f4, x.f5.map patI⟩
theorem laws_toSectionS_l0 (l : List S62) (hl : l.length ≤ 1048576) (hx : ∀ x ∈ l, secFit x) : ∀ (n k i : Nat) (y : List S43), i + n = l.length → n + 2200001 ≤ k → y.length = l.length → y.take i = (l.map secI).take i → laws_toSectionS.l0 k l y (i : Int) = some (l.map secI) := by
  intro n
  induction n with
  | zero =>
    intro k i y hi hk hy ht
    obtain ⟨k, rfl⟩ : ∃ m, k = m + 1 := ⟨k - 1, by omega⟩
    simp only [laws_toSectionS.l0]
    rw [if_neg (by omega)]
    obtain rfl : i = l.length := by omega
    rw [fill_end secI l y hy ht]
  | succ n ih =>
    intro k i y hi hk hy ht
    obtain ⟨k, rfl⟩ : ∃ m, k = m + 1 := ⟨k - 1, by omega⟩
    have hrd : rd_T62 l (i : Int) = l.getD i z62 := by unfold rd_T62; rw [Int.toNat_natCast]
    have hm := hx _ (getD_mem z62 l i (by omega))
    simp only [laws_toSectionS.l0]
    rw [if_pos (by omega), if_pos (by omega), hrd, laws_toSection_eq _ _ _ _ _ _ hm.2.1 hm.2.2 (by omega)]
    simp only [Option.bind_some]
    rw [if_pos (by omega), up1 (by omega : i < l.length) (by omega)]
    obtain ⟨h1, h2⟩ := fill_step z62 secI l y i (by omega) hy ht
    exact ih k (i + 1) _ (by omega) (by omega) h1 h2
theorem laws_toSectionS_eq (l : List S62) (hl : l.length ≤ 1048576) (hx : ∀ x ∈ l, secFit x) {k : Nat} (hk : 3300000 ≤ k) : laws_toSectionS.f k l = some (l.map secI) := by
  unfold laws_toSectionS.f
  rw [if_pos (by omega), if_pos (by omega)]
  exact laws_toSectionS_l0 l hl hx l.length k 0 _ (by omega) (by omega) (by simp) (by simp)
theorem laws_toObject_eq (a : List S62) (b : List S64) (c : List (List S90)) (ha : a.length ≤ 1048576) (hA : ∀ x ∈ a, secFit x) (hb : b.length ≤ 1048576) (hc : c.length ≤ 1048576) (hC : ∀ x ∈ c, x.length ≤ 1048576) {k : Nat} (hk : 3300000 ≤ k) :
    laws_toObject.f k a b c = some (a.map secI, b.map osymI, c.map (List.map nodeI)) := by
  unfold laws_toObject.f
  rw [laws_toSectionS_eq a ha hA hk, laws_toOSymS_eq b hb (by omega), laws_toENodeSS_eq c hc hC (by omega)]
  rfl

--NEEDS laws_eqSection laws_eqENodeSS
theorem laws_eqOSymS_l0 (l : List S45) (hl : l.length ≤ 1048576) : ∀ (n k i : Nat), i + n = l.length → n < k → laws_eqOSymS.l0 k l l (i : Int) = some true := by
  intro n
  induction n with
  | zero =>
    intro k i hi hk
    obtain ⟨k, rfl⟩ : ∃ m, k = m + 1 := ⟨k - 1, by omega⟩
    simp only [laws_eqOSymS.l0]
    rw [if_neg (by omega)]
  | succ n ih =>
    intro k i hi hk
    obtain ⟨k, rfl⟩ : ∃ m, k = m + 1 := ⟨k - 1, by omega⟩
    simp only [laws_eqOSymS.l0, laws_eqOSym.f, if_true, bne_self_eq_false, Bool.false_eq_true, if_false, Option.bind_some]
    rw [if_pos (by omega), if_pos (by omega), if_pos (by omega), up1 (by omega : i < l.length) (by omega)]
    exact ih k (i + 1) (by omega) (by omega)
theorem laws_eqENodeSS_l0 (l : List (List S74)) (hl : l.length ≤ 1048576) (hx : ∀ x ∈ l, x.length ≤ 1048576) : ∀ (n k i : Nat), i + n = l.length → n + 1048578 ≤ k → laws_eqENodeSS.l0 k l l (i : Int) = some true := by
  intro n
  induction n with
  | zero =>
    intro k i hi hk
    obtain ⟨k, rfl⟩ : ∃ m, k = m + 1 := ⟨k - 1, by omega⟩
    simp only [laws_eqENodeSS.l0]
    rw [if_neg (by omega)]
  | succ n ih =>
    intro k i hi hk
    obtain ⟨k, rfl⟩ : ∃ m, k = m + 1 := ⟨k - 1, by omega⟩
    have hrd : rd_L10 l (i : Int) = l.getD i [] := by unfold rd_L10; rw [Int.toNat_natCast]
    have hm := hx _ (getD_mem [] l i (by omega))
    simp only [laws_eqENodeSS.l0]
    rw [if_pos (by omega), if_pos (by omega), if_pos (by omega), hrd, laws_eqENodeS_same _ hm (by omega)]
    simp only [Option.bind_some, if_true]
    rw [up1 (by omega : i < l.length) (by omega)]
    exact ih k (i + 1) (by omega) (by omega)
def secFitI (x : S43) : Prop := x.f4.size ≤ 1048576 ∧ x.f5.length ≤ 1048576 ∧ ∀ y ∈ x.f5, y.f2.length ≤ 1048576
theorem laws_eqSectionS_l0 (l : List S43) (hl : l.length ≤ 1048576) (hx : ∀ x ∈ l, secFitI x) : ∀ (n k i : Nat), i + n = l.length → n + 2200001 ≤ k → laws_eqSectionS.l0 k l l (i : Int) = some true := by
  intro n
  induction n with
  | zero =>
    intro k i hi hk
    obtain ⟨k, rfl⟩ : ∃ m, k = m + 1 := ⟨k - 1, by omega⟩
    simp only [laws_eqSectionS.l0]
    rw [if_neg (by omega)]
  | succ n ih =>
    intro k i hi hk
    obtain ⟨k, rfl⟩ : ∃ m, k = m + 1 := ⟨k - 1, by omega⟩
    have hrd : rd_T43 l (i : Int) = l.getD i z43 := by unfold rd_T43; rw [Int.toNat_natCast]
    have hm := hx _ (getD_mem z43 l i (by omega))
    simp only [laws_eqSectionS.l0]
    rw [if_pos (by omega), if_pos (by omega), if_pos (by omega), hrd, laws_eqSection_same _ _ _ _ _ _ hm.2.1 hm.2.2 (by omega)]
    simp only [Option.bind_some, if_true]
    rw [up1 (by omega : i < l.length) (by omega)]
    exact ih k (i + 1) (by omega) (by omega)
theorem laws_eqObject_same (a : List S43) (b : List S45) (c : List (List S74)) (ha : a.length ≤ 1048576) (hA : ∀ x ∈ a, secFitI x) (hb : b.length ≤ 1048576) (hc : c.length ≤ 1048576) (hC : ∀ x ∈ c, x.length ≤ 1048576) {k : Nat} (hk : 3300000 ≤ k) : laws_eqObject.f k a b c a b c = some true := by
  unfold laws_eqObject.f laws_eqSectionS.f laws_eqOSymS.f laws_eqENodeSS.f
  have h1 := laws_eqSectionS_l0 a ha hA a.length k 0 (by omega) (by omega)
  have h2 := laws_eqOSymS_l0 b hb b.length k 0 (by omega) (by omega)
  have h3 := laws_eqENodeSS_l0 c hc hC c.length k 0 (by omega) (by omega)
  rw [show ((0 : Nat) : Int) = 0 from rfl] at h1 h2 h3
  simp only [if_true, h1, h2, h3, Option.bind_some]

def symOk (secs : List S43) (x : S45) : Bool := nameOk x.f0 && (inR x.f1 (-1) ((secs.length : Int) - 1) && (if x.f1 ≥ 0 then inR x.f2 0 ((secs.getD x.f1.toNat z43).f4.size : Int) else inR x.f2 (-2147483648) 2147483647))
def symsIdx (secs : List S43) (l : List S45) : Nat → Nat → Bool
  | 0, _ => true
  | n + 1, i => (symOk secs (l.getD i z45) && (decide (i = 0) || Op.bytesLess (l.getD (i - 1) z45).f0.toList (l.getD i z45).f0.toList)) && symsIdx secs l n (i + 1)
def secOkS (x : S43) : Bool := secOk x.f0 x.f1 x.f2 x.f3 x.f4 x.f5
def assOk (x : List S74) : Bool := exprOk (x.map nd_)
def objOk (secs : List S43) (syms : List S45) (ass : List (List S74)) : Bool :=
  decide (secs.length ≤ 12) && (decide (syms.length ≤ 200) && (decide (ass.length ≤ 12) && (secs.all secOkS && (symsIdx secs syms syms.length 0 && ass.all assOk))))
theorem spec_ObjectOk_l2 (secs : List S43) (syms : List S45) (ass : List (List S74)) (hl : ass.length ≤ 1048576) (hx : ∀ x ∈ ass, x.length ≤ 1048576) : ∀ (n k i : Nat), i + n = ass.length → n + 1100000 ≤ k → spec_ObjectOk.l2 k (i : Int) secs syms ass = some ((ass.drop i).all assOk) := by
  intro n
  induction n with
  | zero =>
    intro k i hi hk
    obtain ⟨k, rfl⟩ : ∃ m, k = m + 1 := ⟨k - 1, by omega⟩
    simp only [spec_ObjectOk.l2]
    rw [if_neg (by omega), List.drop_eq_nil_of_le (by omega)]
    rfl
  | succ n ih =>
    intro k i hi hk
    obtain ⟨k, rfl⟩ : ∃ m, k = m + 1 := ⟨k - 1, by omega⟩
    have hrd : rd_L10 ass (i : Int) = ass.getD i [] := by unfold rd_L10; rw [Int.toNat_natCast]
    have hm := hx _ (getD_mem [] ass i (by omega))
    simp only [spec_ObjectOk.l2]
    rw [if_pos (by omega), if_pos (by omega), hrd, drop_at [] ass i (by omega), spec_ExprOk_eq _ hm (by omega), up1 (by omega : i < ass.length) (by omega), ih k (i + 1) (by omega) (by omega)]
    simp only [Option.bind_some, List.all_cons, assOk]
    by_cases c : exprOk ((ass.getD i []).map nd_) = true
    · rw [if_pos c, c]
      rfl
    · rw [if_neg c, Bool.eq_false_iff.2 c]
      rfl
theorem spec_ObjectOk_j3 (secs : List S43) (syms : List S45) (ass : List (List S74)) (i : Int) (x0 : ByteArray) (x1 x2 : Int) (x3 : Bool) (h1 : -1 ≤ x1 ∧ x1 ≤ (secs.length : Int) - 1) (k : Nat) :
    spec_ObjectOk.j3 (k + 1) i false secs syms ass x0 x1 x2 x3 = if (if x1 ≥ 0 then inR x2 0 ((secs.getD x1.toNat z43).f4.size : Int) else inR x2 (-2147483648) 2147483647) = true then spec_ObjectOk.l1 k (wrap64 (i + 1)) secs syms ass else some false := by
  have hrd : rd_T43 secs x1 = secs.getD x1.toNat z43 := rfl
  rw [spec_ObjectOk.j3, if_neg (by decide)]
  simp only [spec_l1In_eq, Option.bind_some, hrd]
  by_cases c : x1 ≥ 0
  · simp only [if_pos c, if_pos (show (0 : Int) ≤ x1 from c), if_pos (show x1 < (secs.length : Int) by omega), if_neg (show ¬ x1 < 0 by omega)]
  · rw [if_neg c, if_neg c, if_pos (by omega)]
theorem spec_ObjectOk_l1 (secs : List S43) (syms : List S45) (ass : List (List S74)) (hs : secs.length ≤ 12) (hl : syms.length ≤ 200) (A : Bool) (K : Nat) (hA : ∀ k, K ≤ k → spec_ObjectOk.l2 k 0 secs syms ass = some A) : ∀ (n k i : Nat), i + n = syms.length → 2 * n + K + 30 ≤ k → spec_ObjectOk.l1 k (i : Int) secs syms ass = some (symsIdx secs syms n i && A) := by
  intro n
  induction n with
  | zero =>
    intro k i hi hk
    obtain ⟨k, rfl⟩ : ∃ m, k = m + 1 := ⟨k - 1, by omega⟩
    simp only [spec_ObjectOk.l1]
    rw [if_neg (by omega), hA k (by omega)]
    simp [symsIdx]
  | succ n ih =>
    intro k i hi hk
    obtain ⟨k, rfl⟩ : ∃ m, k = m + 2 := ⟨k - 2, by omega⟩
    have hrd : rd_T45 syms (i : Int) = syms.getD i z45 := by unfold rd_T45; rw [Int.toNat_natCast]
    have hw := up1 (n := syms.length) (by omega : i < syms.length) (by omega)
    have step : ∀ (x0 : ByteArray) (x1 x2 : Int) (x3 : Bool), spec_ObjectOk.j3 (k + 1) (i : Int) (!inR x1 (-1) ((secs.length : Int) - 1)) secs syms ass x0 x1 x2 x3 = some ((inR x1 (-1) ((secs.length : Int) - 1) && (if x1 ≥ 0 then inR x2 0 ((secs.getD x1.toNat z43).f4.size : Int) else inR x2 (-2147483648) 2147483647)) && (symsIdx secs syms n (i + 1) && A)) := by
      intro x0 x1 x2 x3
      by_cases c : inR x1 (-1) ((secs.length : Int) - 1) = true
      · rw [c, Bool.not_true, spec_ObjectOk_j3 secs syms ass i x0 x1 x2 x3 (inR_iff.1 c), hw, ih k (i + 1) (by omega) (by omega)]
        generalize (if x1 ≥ 0 then inR x2 0 ((secs.getD x1.toNat z43).f4.size : Int) else inR x2 (-2147483648) 2147483647) = q
        cases q <;> rfl
      · rw [Bool.eq_false_iff.2 c, Bool.not_false, spec_ObjectOk.j3, if_pos rfl]
        rfl
    have stop : ∀ (x0 : ByteArray) (x1 x2 : Int) (x3 : Bool), spec_ObjectOk.j3 (k + 1) (i : Int) true secs syms ass x0 x1 x2 x3 = some false := by
      intro x0 x1 x2 x3
      rw [spec_ObjectOk.j3, if_pos rfl]
    simp only [spec_ObjectOk.l1]
    rw [if_pos (by omega), if_pos (by omega), hrd]
    rw [show symsIdx secs syms (n + 1) i = ((symOk secs (syms.getD i z45) && (decide (i = 0) || Op.bytesLess (syms.getD (i - 1) z45).f0.toList (syms.getD i z45).f0.toList)) && symsIdx secs syms n (i + 1)) from rfl]
    unfold symOk
    simp only [spec_NameOk_eq _ (show 20 ≤ k + 1 by omega), spec_l1In_eq, Option.bind_some, w64 (n := (secs.length : Int) - 1) (by omega) (by omega), step, stop]
    by_cases c1 : nameOk (syms.getD i z45).f0 = true
    · rw [if_pos c1, c1]
      by_cases c2 : i = 0
      · rw [if_neg (by omega), decide_eq_true c2]
        simp [Bool.and_assoc]
      · have hrd2 : rd_T45 syms (wrap64 ((i : Int) - 1)) = syms.getD (i - 1) z45 := by
          rw [w64 (by omega) (by omega)]
          unfold rd_T45
          congr 1
          omega
        rw [if_pos (by omega), hrd2, w64 (n := (i : Int) - 1) (by omega) (by omega), if_pos (by omega), if_pos (by omega), decide_eq_false c2]
        by_cases c3 : Op.bytesLess (syms.getD (i - 1) z45).f0.toList (syms.getD i z45).f0.toList = true
        · rw [if_pos c3, c3]
          simp [Bool.and_assoc]
        · rw [if_neg c3, Bool.eq_false_iff.2 c3]
          simp
    · rw [if_neg c1, Bool.eq_false_iff.2 c1]
      simp
theorem spec_ObjectOk_l0 (secs : List S43) (syms : List S45) (ass : List (List S74)) (hs : secs.length ≤ 12) (hx : ∀ x ∈ secs, secFitI x) (A : Bool) (K : Nat) (hA : ∀ k, K ≤ k → spec_ObjectOk.l1 k 0 secs syms ass = some A) : ∀ (n k i : Nat), i + n = secs.length → n + K + 3300000 ≤ k → spec_ObjectOk.l0 k (i : Int) secs syms ass = some ((secs.drop i).all secOkS && A) := by
  intro n
  induction n with
  | zero =>
    intro k i hi hk
    obtain ⟨k, rfl⟩ : ∃ m, k = m + 1 := ⟨k - 1, by omega⟩
    simp only [spec_ObjectOk.l0]
    rw [if_neg (by omega), hA k (by omega), List.drop_eq_nil_of_le (by omega)]
    rfl
  | succ n ih =>
    intro k i hi hk
    obtain ⟨k, rfl⟩ : ∃ m, k = m + 1 := ⟨k - 1, by omega⟩
    have hrd : rd_T43 secs (i : Int) = secs.getD i z43 := by unfold rd_T43; rw [Int.toNat_natCast]
    have hm := hx _ (getD_mem z43 secs i (by omega))
    simp only [spec_ObjectOk.l0]
    rw [if_pos (by omega), if_pos (by omega), hrd, drop_at z43 secs i (by omega), spec_SectionOk_eq _ _ _ _ _ _ hm.1 hm.2.1 hm.2.2 (by omega), up1 (by omega : i < secs.length) (by omega), ih k (i + 1) (by omega) (by omega)]
    simp only [Option.bind_some, List.all_cons]
    rw [show secOk (secs.getD i z43).f0 (secs.getD i z43).f1 (secs.getD i z43).f2 (secs.getD i z43).f3 (secs.getD i z43).f4 (secs.getD i z43).f5 = secOkS (secs.getD i z43) from rfl]
    by_cases c : secOkS (secs.getD i z43) = true
    · rw [if_pos c, c]
      rfl
    · rw [if_neg c, Bool.eq_false_iff.2 c]
      rfl
theorem spec_ObjectOk_eq (secs : List S43) (syms : List S45) (ass : List (List S74)) (hx : ∀ x ∈ secs, secFitI x) (hc : ∀ x ∈ ass, x.length ≤ 1048576) {k : Nat} (hk : 4500000 ≤ k) : spec_ObjectOk.f k secs syms ass = some (objOk secs syms ass) := by
  obtain ⟨k, rfl⟩ : ∃ m, k = m + 1 := ⟨k - 1, by omega⟩
  unfold spec_ObjectOk.f objOk
  by_cases c1 : secs.length ≤ 12
  · rw [if_neg (by omega), decide_eq_true c1]
    by_cases c2 : syms.length ≤ 200
    · rw [if_neg (by omega), decide_eq_true c2]
      by_cases c3 : ass.length ≤ 12
      · rw [decide_eq_false (by omega), decide_eq_true c3, spec_ObjectOk.j0, if_neg (by decide)]
        have L2 : ∀ k, 1100100 ≤ k → spec_ObjectOk.l2 k 0 secs syms ass = some (ass.all assOk) := by
          intro k hk
          have := spec_ObjectOk_l2 secs syms ass (by omega) hc ass.length k 0 (by omega) (by omega)
          rw [List.drop_zero] at this
          exact this
        have L1 : ∀ k, 1100600 ≤ k → spec_ObjectOk.l1 k 0 secs syms ass = some (symsIdx secs syms syms.length 0 && ass.all assOk) := by
          intro k hk
          exact spec_ObjectOk_l1 secs syms ass c1 c2 _ 1100100 L2 syms.length k 0 (by omega) (by omega)
        have L0 := spec_ObjectOk_l0 secs syms ass c1 hx _ 1100600 L1 secs.length k 0 (by omega) (by omega)
        rw [List.drop_zero] at L0
        exact L0
      · rw [decide_eq_true (by omega), decide_eq_false c3, spec_ObjectOk.j0, if_pos rfl]
        rfl
    · rw [if_pos (by omega), decide_eq_false c2, spec_ObjectOk.j0, if_pos rfl]
      rfl
  · rw [if_pos (by omega), decide_eq_false c1, spec_ObjectOk.j0, if_pos rfl]
    rfl

theorem impl_Section_go {k : Nat} (hk : 3300000 ≤ k) : ∀ (y : List S43) (i : Int), 0 ≤ i → (∀ x ∈ y, secFitI x) → ∃ r, impl_Section.go k y i = some r ∧ decide (0 ≤ r) = !(y.all secOkS)
  | [], i, _, _ => ⟨-1, rfl, rfl⟩
  | x :: r, i, h, hx => by
    have hm := hx x List.mem_cons_self
    rw [impl_Section.go, impl_SectionOk_eq _ _ _ _ _ _ hm.1 hm.2.1 hk]
    simp only [Option.bind_some]
    rw [show secOk x.f0 x.f1 x.f2 x.f3 x.f4 x.f5 = secOkS x from rfl]
    by_cases c : secOkS x = true
    · rw [if_pos c]
      obtain ⟨j, hj, hd2⟩ := impl_Section_go hk r (i + 1) (by omega) (fun z hz => hx z (List.mem_cons_of_mem _ hz))
      exact ⟨j, hj, by rw [hd2]; simp [c]⟩
    · rw [if_neg c]
      exact ⟨i, rfl, by rw [decide_eq_true h]; simp [c]⟩
theorem impl_ENode_go {k : Nat} (hk : 100 ≤ k) : ∀ (y : List (List S74)) (i : Int), 0 ≤ i → ∃ r, impl_ENode.go k y i = some r ∧ decide (0 ≤ r) = !(y.all assOk)
  | [], i, _ => ⟨-1, rfl, rfl⟩
  | x :: r, i, h => by
    rw [impl_ENode.go, impl_ExprOk_eq x (by omega)]
    simp only [Option.bind_some]
    rw [show exprOk (x.map nd_) = assOk x from rfl]
    by_cases c : assOk x = true
    · rw [if_pos c]
      obtain ⟨j, hj, hd2⟩ := impl_ENode_go hk r (i + 1) (by omega)
      exact ⟨j, hj, by rw [hd2]; simp [c]⟩
    · rw [if_neg c]
      exact ⟨i, rfl, by rw [decide_eq_true h]; simp [c]⟩
theorem impl_isSymbol_eq (secs : List S43) (syms : List S45) (ass : List (List S74)) (hs : secs.length ≤ 12) (x : S45) {k : Nat} (hk : 20 ≤ k) : impl_isSymbol.f k secs syms ass x.f0 x.f1 x.f2 x.f3 = some (symOk secs x) := by
  have hrd : rd_T43 secs x.f1 = secs.getD x.f1.toNat z43 := rfl
  unfold impl_isSymbol.f symOk
  simp only [impl_NameOk_eq _ hk, impl_within_eq, Option.bind_some, hrd, w64 (n := (secs.length : Int) - 1) (by omega) (by omega)]
  by_cases c1 : nameOk x.f0 = true
  · rw [if_pos c1, c1]
    by_cases c2 : x.f1 = -1
    · rw [if_pos c2, c2, show inR (-1) (-1) ((secs.length : Int) - 1) = true from inR_pos (by omega) (by omega), if_neg (by decide)]
      simp
    · rw [if_neg c2]
      by_cases c3 : inR x.f1 0 ((secs.length : Int) - 1) = true
      · have := inR_iff.1 c3
        rw [if_pos c3, show inR x.f1 (-1) ((secs.length : Int) - 1) = true from inR_pos (by omega) (by omega)]
        simp only [if_pos (show (0 : Int) ≤ x.f1 by omega), if_pos (show x.f1 ≥ 0 by omega), if_pos (show x.f1 < (secs.length : Int) by omega), Bool.true_and]
      · rw [if_neg c3, show inR x.f1 (-1) ((secs.length : Int) - 1) = false from inR_neg (fun h => c3 (inR_pos (by omega) (by omega)))]
        simp
  · rw [if_neg c1, Bool.eq_false_iff.2 c1]
    simp
theorem impl_ObjectOk_l0 (secs : List S43) (syms : List S45) (ass : List (List S74)) (hs : secs.length ≤ 12) (hl : syms.length ≤ 200) (hx : ∀ x ∈ secs, secFitI x) : ∀ (n k i : Nat), i + n = syms.length → n + 3300001 ≤ k → impl_ObjectOk.l0 k syms (syms.length : Int) (i : Int) secs syms ass = some (symsIdx secs syms n i && (secs.all secOkS && ass.all assOk)) := by
  intro n
  induction n with
  | zero =>
    intro k i hi hk
    obtain ⟨k, rfl⟩ : ∃ m, k = m + 1 := ⟨k - 1, by omega⟩
    simp only [impl_ObjectOk.l0]
    rw [if_neg (by omega)]
    unfold impl_Section.f impl_ENode.f
    obtain ⟨r, h1, h2⟩ := impl_Section_go (k := k) (by omega) secs 0 (by omega) hx
    obtain ⟨u, h3, h4⟩ := impl_ENode_go (k := k) (by omega) ass 0 (by omega)
    rw [h1, h3]
    simp only [Option.bind_some, h2, h4, symsIdx, Bool.true_and]
    cases secs.all secOkS <;> cases ass.all assOk <;> rfl
  | succ n ih =>
    intro k i hi hk
    obtain ⟨k, rfl⟩ : ∃ m, k = m + 1 := ⟨k - 1, by omega⟩
    have hrd : rd_T45 syms (i : Int) = syms.getD i z45 := by unfold rd_T45; rw [Int.toNat_natCast]
    have hw := up1 (n := syms.length) (by omega : i < syms.length) (by omega)
    simp only [impl_ObjectOk.l0]
    rw [if_pos (by omega), if_pos (by omega), if_pos (by omega), hrd, impl_isSymbol_eq secs syms ass hs _ (by omega), hw, ih k (i + 1) (by omega) (by omega)]
    rw [show symsIdx secs syms (n + 1) i = ((symOk secs (syms.getD i z45) && (decide (i = 0) || Op.bytesLess (syms.getD (i - 1) z45).f0.toList (syms.getD i z45).f0.toList)) && symsIdx secs syms n (i + 1)) from rfl]
    simp only [Option.bind_some]
    by_cases c1 : symOk secs (syms.getD i z45) = true
    · rw [if_pos c1, c1]
      by_cases c2 : i = 0
      · rw [if_neg (by omega), decide_eq_true c2]
        simp
      · have hrd2 : rd_T45 syms (wrap64 ((i : Int) - 1)) = syms.getD (i - 1) z45 := by
          rw [w64 (by omega) (by omega)]
          unfold rd_T45
          congr 1
          omega
        rw [if_pos (by omega), hrd2, w64 (n := (i : Int) - 1) (by omega) (by omega), if_pos (by omega), if_pos (by omega), decide_eq_false c2]
        by_cases c3 : Op.bytesLess (syms.getD (i - 1) z45).f0.toList (syms.getD i z45).f0.toList = true
        · rw [if_pos c3, c3]
          simp
        · rw [if_neg c3, Bool.eq_false_iff.2 c3]
          simp
    · rw [if_neg c1, Bool.eq_false_iff.2 c1]
      simp
theorem impl_ObjectOk_eq (secs : List S43) (syms : List S45) (ass : List (List S74)) (hx : ∀ x ∈ secs, secFitI x) {k : Nat} (hk : 3400000 ≤ k) : impl_ObjectOk.f k secs syms ass = some (objOk secs syms ass) := by
  obtain ⟨k, rfl⟩ : ∃ m, k = m + 1 := ⟨k - 1, by omega⟩
  unfold impl_ObjectOk.f objOk
  by_cases c1 : secs.length ≤ 12
  · rw [if_neg (by omega), decide_eq_true c1]
    by_cases c2 : syms.length ≤ 200
    · rw [if_neg (by omega), decide_eq_true c2]
      by_cases c3 : ass.length ≤ 12
      · rw [decide_eq_false (by omega), decide_eq_true c3, impl_ObjectOk.j0, if_neg (by decide)]
        have L0 := impl_ObjectOk_l0 secs syms ass c1 c2 hx syms.length k 0 (by omega) (by omega)
        rw [show ((0 : Nat) : Int) = 0 from rfl] at L0
        rw [L0]
        simp only [Bool.true_and]
        cases symsIdx secs syms syms.length 0 <;> cases secs.all secOkS <;> rfl
      · rw [decide_eq_true (by omega), decide_eq_false c3, impl_ObjectOk.j0, if_pos rfl]
        rfl
    · rw [if_pos (by omega), decide_eq_false c2, impl_ObjectOk.j0, if_pos rfl]
      rfl
  · rw [if_pos (by omega), decide_eq_false c1, impl_ObjectOk.j0, if_pos rfl]
    rfl

open Go.Proofs.Ytbbngeooodcbcaa.Kin in
theorem FnExactObjectOk (a : List S62) (b : List S64) (c : List (List S90)) (ha : a.length ≤ maxLen ∧ ∀ x ∈ a, okT62 x) (hb : b.length ≤ maxLen ∧ ∀ x ∈ b, okT64 x) (hc : c.length ≤ maxLen ∧ ∀ x ∈ c, (x.length ≤ maxLen ∧ ∀ y ∈ x, okT90 y)) : ∃ k, laws_FnExactObjectOk.f k a b c = some true := by
  refine ⟨5000000, ?_⟩
  unfold laws_FnExactObjectOk.f
  have hA : ∀ x ∈ a, secBig x := fun x hx => by
    have h := ha.2 x hx
    exact ⟨h.1, h.2.2.2.2.1, h.2.2.2.2.2.1, fun y hy => ⟨(h.2.2.2.2.2.2 y hy).2.2.1, fun z hz => ((h.2.2.2.2.2.2 y hy).2.2.2 z hz).2.2⟩⟩
  obtain ⟨t, ht, hle, hlen⟩ := laws_szObject_some a b c ha.1 hA hb.1 (fun x hx => (hb.2 x hx).1) hc.1 (fun x hx => ⟨(hc.2 x hx).1, fun y hy => ((hc.2 x hx).2 y hy).2.2⟩) (k := 5000000) (left := 1048576) (by decide) (by decide) (by decide)
  rw [ht]
  simp only [Option.bind_some]
  by_cases hn : t < 0
  · rw [if_pos hn]
  · rw [if_neg hn]
    obtain ⟨⟨h1, h2⟩, h3, h4, h5⟩ := hlen (by omega)
    have h2' : ∀ x ∈ a.map secI, secFitI x := by
      intro x hx
      obtain ⟨y, hy, rfl⟩ := List.mem_map.1 hx
      obtain ⟨q1, q2, q3⟩ := h2 y hy
      refine ⟨q1, by simpa [secI] using q2, fun z hz => ?_⟩
      obtain ⟨p, hp, rfl⟩ := List.mem_map.1 (show z ∈ y.f5.map patI from hz)
      show (p.f2.map nodeI).length ≤ _
      rw [List.length_map]
      exact q3 p hp
    have h5' : ∀ x ∈ c.map (List.map nodeI), x.length ≤ 1048576 := by
      intro x hx
      obtain ⟨y, hy, rfl⟩ := List.mem_map.1 hx
      rw [List.length_map]
      exact h5 y hy
    rw [laws_toObject_eq a b c h1 h2 h3 h4 h5 (by decide)]
    simp only [Option.bind_some]
    rw [spec_ObjectOk_eq _ _ _ h2' h5' (by decide), impl_ObjectOk_eq _ _ _ h2' (by decide)]
    simp only [Option.bind_some]
    rw [laws_eqObject_same _ _ _ (by simpa using h1) h2' (by simpa using h3) (by simpa using h4) h5' (by decide)]
    simp

end Go.Proofs.Ytbbngeooodcbcaa.Pure
