/-
The law FnExactSectionOk, told as a plain function of the section's fields, answers true for every input.
-/
import Derived.Test.YtffmpmgnkhlmdaaPFnExactSectionOkx8
import Derived.Test.YtffmpmgnkhlmdaaAidA
import Derived.Test.YtffmpmgnkhlmdaaAidB
import Derived.Test.YtffmpmgnkhlmdaaAidC
import Derived.Test.YtffmpmgnkhlmdaaAidL
import Derived.Test.YtffmpmgnkhlmdaaKinFnExactSectionOk
namespace Go.Proofs.Ytffmpmgnkhlmdaa.Pure
open Go.RowKit Go.Proofs.Ytffmpmgnkhlmdaa.Aid Go.Proofs.Ytffmpmgnkhlmdaa.PFnExactSectionOk Go.Proofs.YtffmpmgnkhlmdaaW.PrintWords Go.Proofs.YtffmpmgnkhlmdaaW.PrintLast Go.Proofs.YtffmpmgnkhlmdaaW.PrintMore
set_option linter.unusedVariables false
set_option linter.unusedSimpArgs false

theorem spec_l1In_eq (a b c : Int) : spec_l1In.f a b c = some (inR a b c) := by
  unfold spec_l1In.f inR
  by_cases h : a ≥ b
  · rw [if_pos h, decide_eq_true (show b ≤ a from h)]
    rfl
  · rw [if_neg h, decide_eq_false (show ¬ b ≤ a from h)]
    rfl

theorem impl_within_eq (a b c : Int) : impl_within.f a b c = some (inR a b c) := by
  unfold impl_within.f inR
  by_cases h : a ≥ b
  · rw [if_pos h, decide_eq_true (show b ≤ a from h)]
    rfl
  · rw [if_neg h, decide_eq_false (show ¬ b ≤ a from h)]
    rfl

theorem impl_isWord_eq (a : Int) : impl_isWord.f a = some (inR a 0 65535) := by
  unfold impl_isWord.f
  rw [impl_within_eq]
  rfl

theorem spec_l1Letter_eq (c : Int) : spec_l1Letter.f c = some (isLet c) := by
  unfold spec_l1Letter.f isLet inR
  by_cases h1 : c ≥ 97
  · by_cases h2 : c ≤ 122
    · simp [h1, h2]
    · by_cases h3 : c = 95
      · simp [h3]
      · simp [h1, h2, h3]
  · by_cases h3 : c = 95
    · simp [h3]
    · simp [h1, h3]

theorem impl_isDigit_eq (c : Int) : impl_isDigit.f c = some (inR c 48 57) := by
  unfold impl_isDigit.f inR
  by_cases h : c ≥ 48
  · rw [if_pos h, decide_eq_true (show 48 ≤ c from h)]
    rfl
  · rw [if_neg h, decide_eq_false (show ¬ 48 ≤ c from h)]
    rfl

theorem impl_isSmall_eq (c : Int) : impl_isSmall.f c = some (inR c 97 122) := by
  unfold impl_isSmall.f inR
  by_cases h : c ≥ 97
  · rw [if_pos h, decide_eq_true (show 97 ≤ c from h)]
    rfl
  · rw [if_neg h, decide_eq_false (show ¬ 97 ≤ c from h)]
    rfl

theorem spec_NameOk_l0 (s : ByteArray) (hs : s.size ≤ 140737488351232) : ∀ (n k i : Nat), i + n = s.size → n < k → spec_NameOk.l0 k s (i : Int) = some (allB isNam s n i) := by
  intro n
  induction n with
  | zero =>
    intro k i hi hk
    obtain ⟨k, rfl⟩ : ∃ m, k = m + 1 := ⟨k - 1, by omega⟩
    simp only [spec_NameOk.l0]
    rw [if_neg (by omega)]
    rfl
  | succ n ih =>
    intro k i hi hk
    obtain ⟨k, rfl⟩ : ∃ m, k = m + 1 := ⟨k - 1, by omega⟩
    have hn := ih k (i + 1) (by omega) (by omega)
    have hw : wrap64 ((i : Int) + 1) = ((i + 1 : Nat) : Int) := by rw [w64 (by omega) (by omega)]; omega
    simp only [spec_NameOk.l0]
    rw [if_pos (by omega), if_pos (by omega), spec_l1Letter_eq, hw, hn]
    simp only [Option.bind_some, allB, isNam, inR]
    by_cases h1 : isLet (bt s i) = true
    · simp [h1]
    · by_cases h2 : bt s i ≥ 48
      · by_cases h3 : bt s i ≤ 57
        · simp [h1, h2, h3]
        · simp [h1, h2, h3]
      · simp [h1, h2]
theorem spec_NameOk_eq (s : ByteArray) {k : Nat} (hk : 20 ≤ k) : spec_NameOk.f k s = some (nameOk s) := by
  unfold spec_NameOk.f nameOk
  obtain ⟨k, rfl⟩ : ∃ m, k = m + 1 := ⟨k - 1, by omega⟩
  simp only [spec_NameOk.j0]
  by_cases h1 : (s.size : Int) < 1
  · rw [if_pos h1, inR_neg (by omega)]
    rfl
  · by_cases h2 : (s.size : Int) > 16
    · rw [if_neg h1, if_pos h2, inR_neg (by omega)]
      rfl
    · have hl := spec_NameOk_l0 s (by omega) s.size k 0 (by omega) (by omega)
      rw [if_neg h1, if_neg h2, inR_pos (by omega) (by omega), if_pos (by omega), spec_l1Letter_eq]
      simp only [Option.bind_some, Bool.true_and]
      rw [show ((0 : Nat) : Int) = 0 from rfl] at hl
      rw [hl]
      obtain ⟨n, hn⟩ : ∃ n, s.size = n + 1 := ⟨s.size - 1, by omega⟩
      by_cases h3 : isLet (bt s 0) = true
      · rw [h3, isLet_dig h3]
        simp
      · have h3' : isLet (bt s 0) = false := by simpa using h3
        rw [h3', hn]
        simp only [Bool.not_false, if_true, allB]
        rw [show bt s ((0 : Nat) : Int) = bt s 0 from rfl]
        unfold isNam
        rw [h3']
        cases inR (bt s 0) 48 57 <;> simp

theorem impl_NameOk_l0 (s : ByteArray) (hs : s.size ≤ 140737488351232) : ∀ (n k i : Nat), i + n = s.size → n < k → impl_NameOk.l0 k s (s.size : Int) (i : Int) = some (allB isNam s n i) := by
  intro n
  induction n with
  | zero =>
    intro k i hi hk
    obtain ⟨k, rfl⟩ : ∃ m, k = m + 1 := ⟨k - 1, by omega⟩
    simp only [impl_NameOk.l0]
    rw [if_neg (by omega)]
    rfl
  | succ n ih =>
    intro k i hi hk
    obtain ⟨k, rfl⟩ : ∃ m, k = m + 1 := ⟨k - 1, by omega⟩
    have hn := ih k (i + 1) (by omega) (by omega)
    have hw : wrap64 ((i : Int) + 1) = ((i + 1 : Nat) : Int) := by rw [w64 (by omega) (by omega)]; omega
    simp only [impl_NameOk.l0]
    rw [if_pos (by omega), if_pos (by omega), if_pos (by omega), impl_isSmall_eq, impl_isDigit_eq, hw, hn]
    simp only [Option.bind_some, allB, isNam, isLet]
    by_cases h1 : inR (bt s i) 97 122 = true
    · simp [h1]
    · by_cases h2 : inR (bt s i) 48 57 = true
      · simp [h1, h2]
      · by_cases h3 : bt s i = 95
        · simp [h1, h2, h3]
        · by_cases h4 : bt s i = 46
          · simp [h1, h2, h3, h4]
          · simp [h1, h2, h3, h4]
theorem impl_NameOk_eq (s : ByteArray) {k : Nat} (hk : 20 ≤ k) : impl_NameOk.f k s = some (nameOk s) := by
  unfold impl_NameOk.f nameOk
  obtain ⟨k, rfl⟩ : ∃ m, k = m + 1 := ⟨k - 1, by omega⟩
  simp only [impl_NameOk.j0, impl_within_eq, Option.bind_some]
  by_cases h1 : 1 ≤ (s.size : Int) ∧ (s.size : Int) ≤ 16
  · have hl := impl_NameOk_l0 s (by omega) s.size k 0 (by omega) (by omega)
    rw [inR_pos h1.1 h1.2, if_pos rfl, if_pos (by omega), impl_isDigit_eq]
    simp only [Option.bind_some, Bool.true_and]
    rw [show ((0 : Nat) : Int) = 0 from rfl] at hl
    rw [hl]
    cases inR (bt s 0) 48 57 <;> simp
  · rw [inR_neg h1]
    rfl

theorem laws_szENodeS_l0 (l : List S108) (hl : l.length ≤ 1048576) (hn : ∀ x ∈ l, x.f2.size ≤ maxLen) : ∀ (n k i : Nat) (left : Int), i + n = l.length → n < k → 0 ≤ left → left ≤ 1048576 → ∃ t, laws_szENodeS.l0 k l left (i : Int) = some t ∧ t ≤ left := by
  intro n
  induction n with
  | zero =>
    intro k i left hi hk h0 h1
    obtain ⟨k, rfl⟩ : ∃ m, k = m + 1 := ⟨k - 1, by omega⟩
    refine ⟨left, ?_, Int.le_refl _⟩
    simp only [laws_szENodeS.l0]
    rw [if_neg (by omega)]
  | succ n ih =>
    intro k i left hi hk h0 h1
    obtain ⟨k, rfl⟩ : ∃ m, k = m + 1 := ⟨k - 1, by omega⟩
    simp only [laws_szENodeS.l0]
    rw [if_pos (by omega), if_pos (by omega), up1 (by omega : i < l.length) (by omega)]
    have hx : (rd_T108 l (i : Int)).f2.size ≤ maxLen := hn _ (by unfold rd_T108; exact getD_mem _ _ _ (by simp; omega))
    unfold maxLen at hx
    unfold laws_szENode.f
    generalize (rd_T108 l (i : Int)).f2.size = z at hx ⊢
    rw [w64 (by omega) (by omega)]
    by_cases hc : left - (z : Int) < 0
    · rw [if_pos hc]
      exact ⟨-1, by simp, by omega⟩
    · rw [if_neg hc]
      simp only [Option.bind_some]
      rw [if_neg hc]
      obtain ⟨t, ht, hle⟩ := ih k (i + 1) (left - z) (by omega) (by omega) (by omega) (by omega)
      exact ⟨t, ht, by omega⟩
theorem laws_szENodeS_some (l : List S108) (hl : l.length ≤ maxLen) (hn : ∀ x ∈ l, x.f2.size ≤ maxLen) {k : Nat} {left : Int} (h0 : 0 ≤ left) (h1 : left ≤ 1048576) (hk : 1048577 ≤ k) :
    ∃ t, laws_szENodeS.f k l left = some t ∧ t ≤ left ∧ (0 ≤ t → l.length ≤ 1048576) := by
  unfold maxLen at hl
  unfold laws_szENodeS.f
  rw [w64 (by omega) (by omega)]
  by_cases hc : left - (l.length : Int) < 0
  · rw [if_pos hc]
    exact ⟨-1, rfl, by omega, by omega⟩
  · rw [if_neg hc]
    obtain ⟨t, ht, hle⟩ := laws_szENodeS_l0 l (by omega) hn l.length k 0 (left - l.length) (by omega) (by omega) (by omega) (by omega)
    exact ⟨t, ht, by omega, fun _ => by omega⟩

def nodeI (x : S108) : S113 := ⟨x.f0, x.f1, x.f2⟩
def nd (x : S113) : Nd := (x.f0, x.f1, x.f2)
theorem laws_toENodeS_l0 (l : List S108) (hl : l.length ≤ 1048576) : ∀ (n k i : Nat) (y : List S113), i + n = l.length → n < k → y.length = l.length → y.take i = (l.map nodeI).take i → laws_toENodeS.l0 k l y (i : Int) = some (l.map nodeI) := by
  intro n
  induction n with
  | zero =>
    intro k i y hi hk hy ht
    obtain ⟨k, rfl⟩ : ∃ m, k = m + 1 := ⟨k - 1, by omega⟩
    simp only [laws_toENodeS.l0]
    rw [if_neg (by omega)]
    obtain rfl : i = l.length := by omega
    rw [fill_end nodeI l y hy ht]
  | succ n ih =>
    intro k i y hi hk hy ht
    obtain ⟨k, rfl⟩ : ∃ m, k = m + 1 := ⟨k - 1, by omega⟩
    simp only [laws_toENodeS.l0, laws_toENode.f, Option.bind_some]
    rw [if_pos (by omega), if_pos (by omega), if_pos (by omega), up1 (by omega : i < l.length) (by omega)]
    obtain ⟨h1, h2⟩ := fill_step z108 nodeI l y i (by omega) hy ht
    exact ih k (i + 1) _ (by omega) (by omega) h1 h2
theorem laws_toENodeS_eq (l : List S108) (hl : l.length ≤ 1048576) {k : Nat} (hk : 1048577 ≤ k) : laws_toENodeS.f k l = some (l.map nodeI) := by
  unfold laws_toENodeS.f
  rw [if_pos (by omega), if_pos (by omega)]
  exact laws_toENodeS_l0 l hl l.length k 0 _ (by omega) (by omega) (by simp) (by simp)

theorem laws_eqENodeS_l0 (l : List S113) (hl : l.length ≤ 1048576) : ∀ (n k i : Nat), i + n = l.length → n < k → laws_eqENodeS.l0 k l l (i : Int) = some true := by
  intro n
  induction n with
  | zero =>
    intro k i hi hk
    obtain ⟨k, rfl⟩ : ∃ m, k = m + 1 := ⟨k - 1, by omega⟩
    simp only [laws_eqENodeS.l0]
    rw [if_neg (by omega)]
  | succ n ih =>
    intro k i hi hk
    obtain ⟨k, rfl⟩ : ∃ m, k = m + 1 := ⟨k - 1, by omega⟩
    simp only [laws_eqENodeS.l0, laws_eqENode.f, if_true, Option.bind_some]
    rw [if_pos (by omega), if_pos (by omega), if_pos (by omega), up1 (by omega : i < l.length) (by omega)]
    exact ih k (i + 1) (by omega) (by omega)
theorem laws_eqENodeS_same (l : List S113) (hl : l.length ≤ 1048576) {k : Nat} (hk : 1048577 ≤ k) : laws_eqENodeS.f k l l = some true := by
  unfold laws_eqENodeS.f
  rw [if_pos rfl]
  exact laws_eqENodeS_l0 l hl l.length k 0 (by omega) (by omega)

theorem laws_szPatch_some (x : S179) (hl : x.f2.length ≤ maxLen) (hn : ∀ y ∈ x.f2, y.f2.size ≤ maxLen) {k : Nat} {left : Int} (h0 : 0 ≤ left) (h1 : left ≤ 1048576) (hk : 1048577 ≤ k) :
    ∃ t, laws_szPatch.f k x.f0 x.f1 x.f2 left = some t ∧ t ≤ left ∧ (0 ≤ t → x.f2.length ≤ 1048576) := by
  unfold laws_szPatch.f
  obtain ⟨t, ht, hle, hlen⟩ := laws_szENodeS_some x.f2 hl hn (k := k) h0 h1 hk
  rw [ht]
  simp only [Option.bind_some]
  by_cases hc : t < 0
  · rw [if_pos hc]
    exact ⟨-1, rfl, by omega, by omega⟩
  · rw [if_neg hc]
    exact ⟨t, rfl, hle, hlen⟩
theorem laws_szPatchS_l0 (l : List S179) (hl : l.length ≤ 1048576) (hn : ∀ x ∈ l, x.f2.length ≤ maxLen ∧ ∀ y ∈ x.f2, y.f2.size ≤ maxLen) : ∀ (n k i : Nat) (left : Int), i + n = l.length → n + 1048578 ≤ k → 0 ≤ left → left ≤ 1048576 → ∃ t, laws_szPatchS.l0 k l left (i : Int) = some t ∧ t ≤ left ∧ (0 ≤ t → ∀ x ∈ l.drop i, x.f2.length ≤ 1048576) := by
  intro n
  induction n with
  | zero =>
    intro k i left hi hk h0 h1
    obtain ⟨k, rfl⟩ : ∃ m, k = m + 1 := ⟨k - 1, by omega⟩
    refine ⟨left, ?_, Int.le_refl _, ?_⟩
    · simp only [laws_szPatchS.l0]
      rw [if_neg (by omega)]
    · intro _ x hx
      rw [List.drop_eq_nil_of_le (by omega)] at hx
      cases hx
  | succ n ih =>
    intro k i left hi hk h0 h1
    obtain ⟨k, rfl⟩ : ∃ m, k = m + 1 := ⟨k - 1, by omega⟩
    have hrd : rd_T179 l (i : Int) = l.getD i z179 := by unfold rd_T179; rw [Int.toNat_natCast]
    simp only [laws_szPatchS.l0]
    rw [if_pos (by omega), if_pos (by omega), up1 (by omega : i < l.length) (by omega), hrd, drop_at z179 l i (by omega)]
    have hx := hn _ (getD_mem z179 l i (by omega))
    generalize l.getD i z179 = x at hx ⊢
    obtain ⟨t, ht, hle, hlen⟩ := laws_szPatch_some x hx.1 hx.2 (k := k) h0 h1 (by omega)
    rw [ht]
    simp only [Option.bind_some]
    by_cases hc : t < 0
    · rw [if_pos hc]
      exact ⟨-1, rfl, by omega, by omega⟩
    · rw [if_neg hc]
      obtain ⟨u, hu, hle2, hlen2⟩ := ih k (i + 1) t (by omega) (by omega) (by omega) (by omega)
      refine ⟨u, hu, by omega, fun h y hy => ?_⟩
      rcases List.mem_cons.1 hy with rfl | hy
      · exact hlen (by omega)
      · exact hlen2 h y hy
theorem laws_szPatchS_some (l : List S179) (hl : l.length ≤ maxLen) (hn : ∀ x ∈ l, x.f2.length ≤ maxLen ∧ ∀ y ∈ x.f2, y.f2.size ≤ maxLen) {k : Nat} {left : Int} (h0 : 0 ≤ left) (h1 : left ≤ 1048576) (hk : 2200000 ≤ k) :
    ∃ t, laws_szPatchS.f k l left = some t ∧ t ≤ left ∧ (0 ≤ t → l.length ≤ 1048576 ∧ ∀ x ∈ l, x.f2.length ≤ 1048576) := by
  unfold maxLen at hl
  unfold laws_szPatchS.f
  rw [w64 (by omega) (by omega)]
  by_cases hc : left - (l.length : Int) < 0
  · rw [if_pos hc]
    exact ⟨-1, rfl, by omega, by omega⟩
  · rw [if_neg hc]
    obtain ⟨t, ht, hle, hlen⟩ := laws_szPatchS_l0 l (by omega) hn l.length k 0 (left - l.length) (by omega) (by omega) (by omega) (by omega)
    exact ⟨t, ht, by omega, fun h => ⟨by omega, fun x hx => hlen h x (by rw [List.drop_zero]; exact hx)⟩⟩
theorem laws_szSection_some (a : ByteArray) (b c d : Int) (e : ByteArray) (l : List S179) (ha : a.size ≤ maxLen) (he : e.size ≤ maxLen) (hl : l.length ≤ maxLen) (hn : ∀ x ∈ l, x.f2.length ≤ maxLen ∧ ∀ y ∈ x.f2, y.f2.size ≤ maxLen) {k : Nat} {left : Int} (h0 : 0 ≤ left) (h1 : left ≤ 1048576) (hk : 2200000 ≤ k) :
    ∃ t, laws_szSection.f k a b c d e l left = some t ∧ t ≤ left ∧ (0 ≤ t → a.size ≤ 1048576 ∧ e.size ≤ 1048576 ∧ l.length ≤ 1048576 ∧ ∀ x ∈ l, x.f2.length ≤ 1048576) := by
  unfold maxLen at ha he
  unfold laws_szSection.f
  rw [w64 (n := left - (a.size : Int)) (by omega) (by omega)]
  by_cases c1 : left - (a.size : Int) < 0
  · rw [if_pos c1]
    exact ⟨-1, rfl, by omega, by omega⟩
  · rw [if_neg c1, w64 (by omega) (by omega)]
    by_cases c2 : left - (a.size : Int) - (e.size : Int) < 0
    · rw [if_pos c2]
      exact ⟨-1, rfl, by omega, by omega⟩
    · rw [if_neg c2]
      obtain ⟨t, ht, hle, hlen⟩ := laws_szPatchS_some l hl hn (k := k) (left := left - (a.size : Int) - (e.size : Int)) (by omega) (by omega) hk
      rw [ht]
      simp only [Option.bind_some]
      by_cases c3 : t < 0
      · rw [if_pos c3]
        exact ⟨-1, rfl, by omega, by omega⟩
      · rw [if_neg c3]
        exact ⟨t, rfl, by omega, fun h => ⟨by omega, by omega, hlen h⟩⟩

def patI (x : S179) : S127 := ⟨x.f0, x.f1, x.f2.map nodeI⟩
theorem laws_toPatchS_l0 (l : List S179) (hl : l.length ≤ 1048576) (hx : ∀ x ∈ l, x.f2.length ≤ 1048576) : ∀ (n k i : Nat) (y : List S127), i + n = l.length → n + 1048578 ≤ k → y.length = l.length → y.take i = (l.map patI).take i → laws_toPatchS.l0 k l y (i : Int) = some (l.map patI) := by
  intro n
  induction n with
  | zero =>
    intro k i y hi hk hy ht
    obtain ⟨k, rfl⟩ : ∃ m, k = m + 1 := ⟨k - 1, by omega⟩
    simp only [laws_toPatchS.l0]
    rw [if_neg (by omega)]
    obtain rfl : i = l.length := by omega
    rw [fill_end patI l y hy ht]
  | succ n ih =>
    intro k i y hi hk hy ht
    obtain ⟨k, rfl⟩ : ∃ m, k = m + 1 := ⟨k - 1, by omega⟩
    have hrd : rd_T179 l (i : Int) = l.getD i z179 := by unfold rd_T179; rw [Int.toNat_natCast]
    have hm := hx _ (getD_mem z179 l i (by omega))
    simp only [laws_toPatchS.l0, laws_toPatch.f]
    rw [if_pos (by omega), if_pos (by omega), hrd, laws_toENodeS_eq _ hm (by omega)]
    simp only [Option.bind_some]
    rw [if_pos (by omega), up1 (by omega : i < l.length) (by omega)]
    obtain ⟨h1, h2⟩ := fill_step z179 patI l y i (by omega) hy ht
    exact ih k (i + 1) _ (by omega) (by omega) h1 h2
theorem laws_toPatchS_eq (l : List S179) (hl : l.length ≤ 1048576) (hx : ∀ x ∈ l, x.f2.length ≤ 1048576) {k : Nat} (hk : 2200000 ≤ k) : laws_toPatchS.f k l = some (l.map patI) := by
  unfold laws_toPatchS.f
  rw [if_pos (by omega), if_pos (by omega)]
  exact laws_toPatchS_l0 l hl hx l.length k 0 _ (by omega) (by omega) (by simp) (by simp)
theorem laws_toSection_eq (a : ByteArray) (b c d : Int) (e : ByteArray) (l : List S179) (hl : l.length ≤ 1048576) (hx : ∀ x ∈ l, x.f2.length ≤ 1048576) {k : Nat} (hk : 2200000 ≤ k) : laws_toSection.f k a b c d e l = some (a, b, c, d, e, l.map patI) := by
  unfold laws_toSection.f
  rw [laws_toPatchS_eq l hl hx hk]
  rfl

theorem laws_eqPatchS_l0 (l : List S127) (hl : l.length ≤ 1048576) (hx : ∀ x ∈ l, x.f2.length ≤ 1048576) : ∀ (n k i : Nat), i + n = l.length → n + 1048578 ≤ k → laws_eqPatchS.l0 k l l (i : Int) = some true := by
  intro n
  induction n with
  | zero =>
    intro k i hi hk
    obtain ⟨k, rfl⟩ : ∃ m, k = m + 1 := ⟨k - 1, by omega⟩
    simp only [laws_eqPatchS.l0]
    rw [if_neg (by omega)]
  | succ n ih =>
    intro k i hi hk
    obtain ⟨k, rfl⟩ : ∃ m, k = m + 1 := ⟨k - 1, by omega⟩
    have hrd : rd_T127 l (i : Int) = l.getD i z127 := by unfold rd_T127; rw [Int.toNat_natCast]
    have hm := hx _ (getD_mem z127 l i (by omega))
    simp only [laws_eqPatchS.l0, laws_eqPatch.f, if_true]
    rw [if_pos (by omega), if_pos (by omega), if_pos (by omega), hrd, laws_eqENodeS_same _ hm (by omega)]
    simp only [Option.bind_some, if_true]
    rw [up1 (by omega : i < l.length) (by omega)]
    exact ih k (i + 1) (by omega) (by omega)
theorem laws_eqPatchS_same (l : List S127) (hl : l.length ≤ 1048576) (hx : ∀ x ∈ l, x.f2.length ≤ 1048576) {k : Nat} (hk : 2200000 ≤ k) : laws_eqPatchS.f k l l = some true := by
  unfold laws_eqPatchS.f
  rw [if_pos rfl]
  exact laws_eqPatchS_l0 l hl hx l.length k 0 (by omega) (by omega)
theorem laws_eqSection_same (a : ByteArray) (b c d : Int) (e : ByteArray) (l : List S127) (hl : l.length ≤ 1048576) (hx : ∀ x ∈ l, x.f2.length ≤ 1048576) {k : Nat} (hk : 2200000 ≤ k) : laws_eqSection.f k a b c d e l a b c d e l = some true := by
  unfold laws_eqSection.f
  simp only [if_true]
  rw [laws_eqPatchS_same l hl hx hk]
  simp

theorem spec_l2Takes_eq (a : Int) : spec_l2Takes.f a = some (takes a) := by
  unfold spec_l2Takes.f takes
  simp only [spec_l1In_eq, Option.bind_some]
  split
  · rfl
  · split
    · rfl
    · split <;> rfl

theorem spec_l2Node_eq (a b : Int) (s : ByteArray) {k : Nat} (hk : 30 ≤ k) : spec_l2Node.f k a b s = some (nodeOk (a, b, s)) := by
  obtain ⟨k, rfl⟩ : ∃ m, k = m + 1 := ⟨k - 1, by omega⟩
  unfold spec_l2Node.f nodeOk
  simp only [spec_l1In_eq, spec_l2Node.j0, spec_l2Takes_eq, spec_NameOk_eq s (by omega : 20 ≤ k), Option.bind_some]
  by_cases h1 : a = 1
  · rw [if_pos h1, if_pos h1]
    cases inR b 0 65535 <;> simp
  · rw [if_neg h1, if_neg h1]
    by_cases h2 : a = 2
    · rw [if_pos h2, if_pos (show a = 2 ∨ a = 3 from Or.inl h2), h2]
      by_cases h4 : b = 0
      · simp [h4]
      · simp [h4]
    · by_cases h3 : a = 3
      · rw [if_neg h2, if_pos (Or.inr h3), h3]
        by_cases h4 : b = 0
        · simp [h4]
        · simp [h4]
      · have e : (a == 3) = false := by simpa using h3
        rw [if_neg h2, if_neg (show ¬ (a = 2 ∨ a = 3) by omega), e]
        simp only [Bool.false_eq_true, if_false]
        by_cases h4 : b = 0
        · by_cases h5 : s.toList = []
          · rw [if_pos h4, if_pos h5, h4, h5]
            simp [takes, inR]
            by_cases h6 : 4 ≤ a ∧ a ≤ 17
            · by_cases h7 : a ≤ 7
              · rw [if_neg (by omega), if_pos (by omega)]
                simp
                omega
              · rw [if_neg (by omega), if_neg (by omega), if_pos (by omega)]
                simp
                omega
            · rw [if_neg (by omega), if_neg (by omega), if_neg (by omega)]
              simp
              omega
          · simp [h4, h5]
        · simp [h4]

theorem impl_isNode_eq (a b : Int) (s : ByteArray) {k : Nat} (hk : 30 ≤ k) : impl_isNode.f k a b s = some (nodeOk (a, b, s)) := by
  obtain ⟨k, rfl⟩ : ∃ m, k = m + 1 := ⟨k - 1, by omega⟩
  unfold impl_isNode.f nodeOk
  simp only [impl_isWord_eq, impl_isNode.j0, impl_within_eq, impl_NameOk_eq s (by omega : 20 ≤ k), Option.bind_some]
  by_cases h1 : a = 1
  · rw [if_pos h1, if_pos h1]
    cases inR b 0 65535 <;> simp
  · rw [if_neg h1, if_neg h1]
    by_cases h2 : a = 2
    · rw [if_pos h2, if_pos (show a = 2 ∨ a = 3 from Or.inl h2)]
      by_cases h4 : b = 0
      · simp [h4]
      · simp [h4]
    · by_cases h3 : a = 3
      · rw [if_neg h2, if_pos (Or.inr h3), h3]
        by_cases h4 : b = 0
        · simp [h4]
        · simp [h4]
      · have e : (a == 3) = false := by simpa using h3
        rw [if_neg h2, if_neg (show ¬ (a = 2 ∨ a = 3) by omega), e]
        simp only [Bool.false_eq_true, if_false]
        cases inR a 4 17
        · simp
        · by_cases h4 : b = 0
          · simp [h4]
          · simp [h4]

def nd_ (x : S113) : Nd := (x.f0, x.f1, x.f2)
theorem spec_ExprOk_l0 (l : List S113) (hl : l.length ≤ 1048576) : ∀ (n k i : Nat) (d : Int), i + n = l.length → n + 40 ≤ k → 0 ≤ d → d ≤ 2 * i → spec_ExprOk.l0 k l d (i : Int) = some (decide ((l.length : Int) ≤ 30) && exprGo ((l.drop i).map nd_) d) := by
  intro n
  induction n with
  | zero =>
    intro k i d hi hk h0 h1
    obtain ⟨k, rfl⟩ : ∃ m, k = m + 1 := ⟨k - 1, by omega⟩
    simp only [spec_ExprOk.l0]
    rw [if_neg (by omega), List.drop_eq_nil_of_le (by omega)]
    by_cases h : (l.length : Int) ≤ 30
    · rw [if_pos h, decide_eq_true h]
      rfl
    · rw [if_neg h, decide_eq_false h]
      rfl
  | succ n ih =>
    intro k i d hi hk h0 h1
    obtain ⟨k, rfl⟩ : ∃ m, k = m + 1 := ⟨k - 1, by omega⟩
    simp only [spec_ExprOk.l0]
    rw [if_pos (by omega), if_pos (by omega), drop_at z113 l i (by omega)]
    have hrd : rd_T113 l (i : Int) = l.getD i z113 := by unfold rd_T113; rw [Int.toNat_natCast]
    rw [hrd]
    generalize l.getD i z113 = x
    simp only [List.map_cons, exprGo, nd_]
    rw [spec_l2Node_eq _ _ _ (by omega : 30 ≤ k), spec_l2Takes_eq]
    simp only [Option.bind_some]
    have ht := takes_in x.f0
    by_cases c1 : nodeOk (x.f0, x.f1, x.f2) = true
    · rw [if_pos c1, c1]
      by_cases c2 : takes x.f0 > d
      · rw [if_pos c2, decide_eq_false (show ¬ takes x.f0 ≤ d by omega)]
        simp
      · rw [if_neg c2, decide_eq_true (show takes x.f0 ≤ d by omega), w64 (n := d - takes x.f0) (by omega) (by omega), w64 (n := d - takes x.f0 + 1) (by omega) (by omega), up1 (by omega : i < l.length) (by omega)]
        have := ih k (i + 1) (d - takes x.f0 + 1) (by omega) (by omega) (by omega) (by omega)
        rw [this]
        simp
    · rw [if_neg c1]
      simp [c1]
theorem spec_ExprOk_eq (l : List S113) (hl : l.length ≤ 1048576) {k : Nat} (hk : l.length + 40 ≤ k) : spec_ExprOk.f k l = some (exprOk (l.map nd_)) := by
  unfold spec_ExprOk.f exprOk
  have := spec_ExprOk_l0 l hl l.length k 0 0 (by omega) (by omega) (by omega) (by omega)
  rw [show ((0 : Nat) : Int) = 0 from rfl] at this
  rw [this]
  simp

--NEEDS spec_ExprOk
theorem impl_ExprOk_l0 (l : List S113) (hl : l.length ≤ 30) : ∀ (n k i : Nat) (d : Int), i + n = l.length → n + 40 ≤ k → 0 ≤ d → d ≤ i → impl_ExprOk.l0 k d l (l.length : Int) (i : Int) = some (exprGo ((l.drop i).map nd_) d) := by
  intro n
  induction n with
  | zero =>
    intro k i d hi hk h0 h1
    obtain ⟨k, rfl⟩ : ∃ m, k = m + 1 := ⟨k - 1, by omega⟩
    simp only [impl_ExprOk.l0]
    rw [if_neg (by omega), List.drop_eq_nil_of_le (by omega)]
    rfl
  | succ n ih =>
    intro k i d hi hk h0 h1
    obtain ⟨k, rfl⟩ : ∃ m, k = m + 1 := ⟨k - 1, by omega⟩
    simp only [impl_ExprOk.l0]
    rw [if_pos (by omega), if_pos (by omega), if_pos (by omega), drop_at z113 l i (by omega)]
    have hrd : rd_T113 l (i : Int) = l.getD i z113 := by unfold rd_T113; rw [Int.toNat_natCast]
    rw [hrd]
    generalize l.getD i z113 = x
    simp only [List.map_cons, exprGo, nd_]
    rw [impl_isNode_eq _ _ _ (by omega : 30 ≤ k), up1 (by omega : i < l.length) (by omega)]
    simp only [Option.bind_some]
    by_cases c1 : nodeOk (x.f0, x.f1, x.f2) = true
    · have hk1 := nodeOk_kind c1
      rw [if_pos c1, c1]
      simp only at hk1
      by_cases c2 : x.f0 ≤ 3
      · have ht : takes x.f0 = 0 := by unfold takes; rw [inR_pos (by omega) (by omega)]; rfl
        rw [if_pos c2, ht, w64 (n := d + 1) (by omega) (by omega), ih k (i + 1) (d + 1) (by omega) (by omega) (by omega) (by omega), decide_eq_true (show (0 : Int) ≤ d by omega), show d - 0 + 1 = d + 1 from by omega]
        simp
      · by_cases c3 : x.f0 ≤ 7
        · have ht : takes x.f0 = 1 := by unfold takes; rw [inR_neg (by omega), inR_pos (by omega) (by omega)]; rfl
          rw [if_neg c2, if_pos c3, ht]
          by_cases c4 : d < 1
          · rw [if_pos c4, decide_eq_false (show ¬ (1 : Int) ≤ d by omega)]
            simp
          · rw [if_neg c4, decide_eq_true (show (1 : Int) ≤ d by omega), ih k (i + 1) d (by omega) (by omega) (by omega) (by omega), show d - 1 + 1 = d from by omega]
            simp
        · have ht : takes x.f0 = 2 := by unfold takes; rw [inR_neg (by omega), inR_neg (by omega), inR_pos (by omega) (by omega)]; rfl
          rw [if_neg c2, if_neg c3, ht]
          by_cases c4 : d < 2
          · rw [if_pos c4, decide_eq_false (show ¬ (2 : Int) ≤ d by omega)]
            simp
          · rw [if_neg c4, decide_eq_true (show (2 : Int) ≤ d by omega), w64 (n := d - 1) (by omega) (by omega), ih k (i + 1) (d - 1) (by omega) (by omega) (by omega) (by omega), show d - 2 + 1 = d - 1 from by omega]
            simp
    · rw [if_neg c1]
      simp [c1]
theorem impl_ExprOk_eq (l : List S113) {k : Nat} (hk : 80 ≤ k) : impl_ExprOk.f k l = some (exprOk (l.map nd_)) := by
  unfold impl_ExprOk.f exprOk
  by_cases h : (l.length : Int) > 30
  · rw [if_pos h, decide_eq_false (show ¬ ((l.map nd_).length : Int) ≤ 30 by rw [List.length_map]; omega)]
    rfl
  · rw [if_neg h, decide_eq_true (show ((l.map nd_).length : Int) ≤ 30 by rw [List.length_map]; omega)]
    have := impl_ExprOk_l0 l (by omega) l.length k 0 0 (by omega) (by omega) (by omega) (by omega)
    rw [show ((0 : Nat) : Int) = 0 from rfl] at this
    rw [this]
    simp

theorem impl_noughts_eq (n : Nat) (h : n ≤ 1048576) : impl_noughts.f (n : Int) = some ⟨(Go.Lib.repeatL [0] n).toArray⟩ := by
  unfold impl_noughts.f strings_Repeat.f
  rw [if_pos (by omega), if_pos (by omega), if_pos (by rw [Int.toNat_natCast]; show 1 * n ≤ _; omega)]
  rfl

def patOk (n : Int) (x : S127) : Bool := inR x.f1 1 3 && (inR x.f0 0 (n - (if x.f1 = 2 then 2 else 1)) && exprOk (x.f2.map nd_))
def secBase (kd : Int) : Int := if kd = 0 then 0 else if kd = 1 then 256 else 49152
def isZero (b : Int) : Bool := b == 0
def secOk (nm : ByteArray) (kd bk ad : Int) (dt : ByteArray) (l : List S127) : Bool :=
  nameOk nm && (inR kd 0 2 && (decide (dt.size ≤ 256) && (decide (l.length ≤ 256) && ((decide (ad = -1) || inR ad (secBase kd) (secBase kd + 256 - dt.size)) && ((decide (bk = -1) || (decide (kd = 1) && inR bk 1 15)) && ((l.all (patOk dt.size) && (decide (kd ≠ 2) || l.isEmpty)) && (decide (kd ≠ 2) || allB isZero dt dt.size 0)))))))
theorem spec_l9Patch_eq (x : S127) (n : Int) (h0 : 0 ≤ n) (h1 : n ≤ 1048576) (hx : x.f2.length ≤ 1048576) {k : Nat} (hk : 1100000 ≤ k) : spec_l9Patch.f k x.f0 x.f1 x.f2 n = some (patOk n x) := by
  unfold spec_l9Patch.f patOk
  simp only [spec_l1In_eq, Option.bind_some]
  rw [spec_ExprOk_eq x.f2 hx (by omega), w64 (n := n - 2) (by omega) (by omega), w64 (n := n - 1) (by omega) (by omega)]
  by_cases c : x.f1 = 2
  · rw [if_pos c, if_pos c]
    by_cases c1 : inR x.f1 1 3 = true
    · rw [if_pos c1, c1]
      by_cases c2 : inR x.f0 0 (n - 2) = true
      · rw [if_pos c2, c2]
        simp
      · rw [if_neg c2, Bool.eq_false_iff.2 c2]
        simp
    · rw [if_neg c1, Bool.eq_false_iff.2 c1]
      simp
  · rw [if_neg c, if_neg c]
    by_cases c1 : inR x.f1 1 3 = true
    · rw [if_pos c1, c1]
      by_cases c2 : inR x.f0 0 (n - 1) = true
      · rw [if_pos c2, c2]
        simp
      · rw [if_neg c2, Bool.eq_false_iff.2 c2]
        simp
    · rw [if_neg c1, Bool.eq_false_iff.2 c1]
      simp
theorem spec_SectionOk_l1 (nm : ByteArray) (kd bk ad : Int) (dt : ByteArray) (l : List S127) (hd : dt.size ≤ 1048576) : ∀ (n k i : Nat), i + n = dt.size → 2 * n + 2 ≤ k → spec_SectionOk.l1 k (i : Int) nm kd bk ad dt l = some (decide (kd ≠ 2) || allB isZero dt n i) := by
  intro n
  induction n with
  | zero =>
    intro k i hi hk
    obtain ⟨k, rfl⟩ : ∃ m, k = m + 2 := ⟨k - 2, by omega⟩
    simp only [spec_SectionOk.l1, spec_SectionOk.j5]
    rw [if_neg (by omega), if_neg (by decide)]
    simp [allB]
  | succ n ih =>
    intro k i hi hk
    obtain ⟨k, rfl⟩ : ∃ m, k = m + 2 := ⟨k - 2, by omega⟩
    simp only [spec_SectionOk.l1, spec_SectionOk.j5]
    rw [if_pos (by omega)]
    by_cases c : kd = 2
    · rw [if_pos (by simpa using c), if_pos (by omega), if_pos (by omega), up1 (by omega : i < dt.size) (by omega)]
      by_cases c1 : bt dt (i : Int) = 0
      · rw [if_pos c1, ih k (i + 1) (by omega) (by omega)]
        simp [allB, isZero, c1]
      · rw [if_neg c1]
        simp [allB, isZero, c1, c]
    · rw [if_neg (by simpa using c)]
      simp [c]
theorem spec_SectionOk_l0 (nm : ByteArray) (kd bk ad : Int) (dt : ByteArray) (l : List S127) (hd : dt.size ≤ 1048576) (hl : l.length ≤ 1048576) (hx : ∀ x ∈ l, x.f2.length ≤ 1048576) : ∀ (n k i : Nat), i + n = l.length → n + 2200000 ≤ k →
    spec_SectionOk.l0 k (dt.size : Int) (i : Int) nm kd bk ad dt l = some (((l.drop i).all (patOk dt.size) && (decide (kd ≠ 2) || (l.drop i).isEmpty)) && (decide (kd ≠ 2) || allB isZero dt dt.size 0)) := by
  intro n
  induction n with
  | zero =>
    intro k i hi hk
    obtain ⟨k, rfl⟩ : ∃ m, k = m + 1 := ⟨k - 1, by omega⟩
    simp only [spec_SectionOk.l0]
    rw [if_neg (by omega), List.drop_eq_nil_of_le (by omega)]
    have := spec_SectionOk_l1 nm kd bk ad dt l hd dt.size k 0 (by omega) (by omega)
    rw [show ((0 : Nat) : Int) = 0 from rfl] at this
    rw [this]
    simp
  | succ n ih =>
    intro k i hi hk
    obtain ⟨k, rfl⟩ : ∃ m, k = m + 1 := ⟨k - 1, by omega⟩
    have hrd : rd_T127 l (i : Int) = l.getD i z127 := by unfold rd_T127; rw [Int.toNat_natCast]
    have hm := hx _ (getD_mem z127 l i (by omega))
    simp only [spec_SectionOk.l0]
    rw [if_pos (by omega), if_pos (by omega), hrd, drop_at z127 l i (by omega)]
    generalize l.getD i z127 = x at hm ⊢
    rw [spec_l9Patch_eq x _ (by omega) (by omega) hm (by omega)]
    simp only [Option.bind_some]
    by_cases c : patOk (dt.size : Int) x = true
    · rw [if_pos c]
      by_cases c1 : kd = 2
      · rw [if_pos c1]
        simp [c1]
      · rw [if_neg c1, up1 (by omega : i < l.length) (by omega), ih k (i + 1) (by omega) (by omega)]
        simp [c, c1]
    · rw [if_neg c]
      simp [c]
theorem spec_SectionOk_eq (nm : ByteArray) (kd bk ad : Int) (dt : ByteArray) (l : List S127) (hd : dt.size ≤ 1048576) (hl : l.length ≤ 1048576) (hx : ∀ x ∈ l, x.f2.length ≤ 1048576) {k : Nat} (hk : 3300000 ≤ k) : spec_SectionOk.f k nm kd bk ad dt l = some (secOk nm kd bk ad dt l) := by
  obtain ⟨k, rfl⟩ : ∃ m, k = m + 3 := ⟨k - 3, by omega⟩
  have L0 := spec_SectionOk_l0 nm kd bk ad dt l hd hl hx l.length k 0 (by omega) (by omega)
  rw [show ((0 : Nat) : Int) = 0 from rfl, List.drop_zero] at L0
  unfold spec_SectionOk.f secOk
  simp only [spec_SectionOk.j0, spec_SectionOk.j1, spec_SectionOk.j2, spec_l1In_eq, spec_NameOk_eq nm (show 20 ≤ k + 3 by omega), Option.bind_some, L0, spec_l9Base.f]
  by_cases c1 : nameOk nm = true
  · rw [if_pos c1, c1]
    by_cases c2 : inR kd 0 2 = true
    · rw [if_pos c2, c2]
      by_cases c3 : dt.size ≤ 256
      · rw [if_neg (show ¬ (dt.size : Int) > 256 by omega), decide_eq_true c3]
        by_cases c4 : l.length ≤ 256
        · rw [decide_eq_false (show ¬ (l.length : Int) > 256 by omega), if_neg (by decide), decide_eq_true c4]
          obtain ⟨hk0, hk2⟩ := inR_iff.1 c2
          have hb : (if kd = 0 then some (0 : Int) else if kd = 1 then some 256 else some 49152) = some (secBase kd) := by
            unfold secBase
            by_cases e0 : kd = 0
            · rw [if_pos e0, if_pos e0]
            · rw [if_neg e0, if_neg e0]
              by_cases e1 : kd = 1
              · rw [if_pos e1, if_pos e1]
              · rw [if_neg e1, if_neg e1]
          have hbr : 0 ≤ secBase kd ∧ secBase kd ≤ 49152 := by
            unfold secBase
            split
            · omega
            · split <;> omega
          rw [hb]
          simp only [Option.bind_some]
          rw [w64 (n := secBase kd + 256) (by omega) (by omega), w64 (n := secBase kd + 256 - (dt.size : Int)) (by omega) (by omega)]
          by_cases c5 : ad = -1
          · rw [if_pos c5, if_neg (by decide), decide_eq_true c5]
            by_cases c6 : bk = -1
            · rw [if_pos c6, if_neg (by decide), decide_eq_true c6]
              simp
            · rw [if_neg c6, decide_eq_false c6]
              by_cases c7 : kd = 1
              · rw [if_pos c7, decide_eq_true c7]
                cases inR bk 1 15 <;> simp
              · rw [if_neg c7, decide_eq_false c7]
                simp
          · rw [if_neg c5, decide_eq_false c5]
            cases c8 : inR ad (secBase kd) (secBase kd + 256 - (dt.size : Int)) with
            | false => simp
            | true =>
              simp only [Bool.not_true]
              rw [if_neg (by decide)]
              by_cases c6 : bk = -1
              · rw [if_pos c6, if_neg (by decide), decide_eq_true c6]
                simp
              · rw [if_neg c6, decide_eq_false c6]
                by_cases c7 : kd = 1
                · rw [if_pos c7, decide_eq_true c7]
                  cases inR bk 1 15 <;> simp
                · rw [if_neg c7, decide_eq_false c7]
                  simp
        · rw [decide_eq_true (show (l.length : Int) > 256 by omega), if_pos rfl, decide_eq_false c4]
          simp
      · rw [if_pos (show (dt.size : Int) > 256 by omega), decide_eq_false c3]
        simp
    · rw [if_neg c2, Bool.eq_false_iff.2 c2]
      simp
  · rw [if_neg c1, Bool.eq_false_iff.2 c1]
    simp

--NEEDS impl_Patch
theorem zeros_drop (s : ByteArray) : ∀ (n i : Nat), i + n = s.size → (allB isZero s n i = true ↔ s.data.toList.drop i = Go.Lib.repeatL [0] n) := by
  intro n
  induction n with
  | zero =>
    intro i hi
    rw [drop_end s i (by omega)]
    simp [allB, Go.Lib.repeatL]
  | succ n ih =>
    intro i hi
    obtain ⟨x, h1, h2⟩ := bt_drop s i (by omega)
    rw [h1]
    simp only [allB, Go.Lib.repeatL, List.singleton_append, List.cons.injEq, Bool.and_eq_true, ih (i + 1) (by omega)]
    rw [h2]
    have : isZero (x.toNat : Int) = true ↔ x = 0 := by
      unfold isZero
      rw [beq_iff_eq]
      exact nat_eq x 0 (by decide)
    rw [this]
theorem zeros_eq (s : ByteArray) : (s.toList = (⟨(Go.Lib.repeatL [0] s.size).toArray⟩ : ByteArray).toList) ↔ allB isZero s s.size 0 = true := by
  rw [zeros_drop s s.size 0 (by omega), List.drop_zero]
  constructor
  · intro h
    have := toList_inj h
    conv => lhs; rw [this]
  · intro h
    have : s = (⟨(Go.Lib.repeatL [0] s.size).toArray⟩ : ByteArray) := by
      conv => lhs; rw [show s = ⟨s.data⟩ from rfl, ← Array.toArray_toList (xs := s.data), h]
    rw [← this]
theorem impl_isPatch_eq (nm : ByteArray) (kd bk ad : Int) (dt : ByteArray) (l : List S127) (x : S127) (hd : dt.size ≤ 1048576) {k : Nat} (hk : 100 ≤ k) : impl_isPatch.f k nm kd bk ad dt l x.f0 x.f1 x.f2 = some (patOk dt.size x) := by
  unfold impl_isPatch.f patOk
  simp only [impl_within_eq, Option.bind_some]
  rw [impl_ExprOk_eq x.f2 (by omega), w64 (n := (dt.size : Int) - 2) (by omega) (by omega), w64 (n := (dt.size : Int) - 1) (by omega) (by omega)]
  by_cases c : x.f1 = 2
  · rw [if_pos c, if_pos c]
    by_cases c1 : inR x.f1 1 3 = true
    · rw [if_pos c1, c1]
      by_cases c2 : inR x.f0 0 ((dt.size : Int) - 2) = true
      · rw [if_pos c2, c2]
        simp
      · rw [if_neg c2, Bool.eq_false_iff.2 c2]
        simp
    · rw [if_neg c1, Bool.eq_false_iff.2 c1]
      simp
  · rw [if_neg c, if_neg c]
    by_cases c1 : inR x.f1 1 3 = true
    · rw [if_pos c1, c1]
      by_cases c2 : inR x.f0 0 ((dt.size : Int) - 1) = true
      · rw [if_pos c2, c2]
        simp
      · rw [if_neg c2, Bool.eq_false_iff.2 c2]
        simp
    · rw [if_neg c1, Bool.eq_false_iff.2 c1]
      simp
theorem impl_Patch_go (nm : ByteArray) (kd bk ad : Int) (dt : ByteArray) (l : List S127) (hd : dt.size ≤ 1048576) {k : Nat} (hk : 100 ≤ k) : ∀ (y : List S127) (i : Int), 0 ≤ i → ∃ r, impl_Patch.go k nm kd bk ad dt l y i = some r ∧ decide (0 ≤ r) = !(y.all (patOk dt.size))
  | [], i, _ => ⟨-1, rfl, rfl⟩
  | x :: r, i, h => by
    rw [impl_Patch.go, impl_isPatch_eq nm kd bk ad dt l x hd hk]
    simp only [Option.bind_some]
    by_cases c : patOk (dt.size : Int) x = true
    · rw [if_pos c]
      obtain ⟨j, hj, hd2⟩ := impl_Patch_go nm kd bk ad dt l hd hk r (i + 1) (by omega)
      exact ⟨j, hj, by rw [hd2]; simp [c]⟩
    · rw [if_neg c]
      exact ⟨i, rfl, by rw [decide_eq_true h]; simp [c]⟩
theorem impl_Patch_eq (nm : ByteArray) (kd bk ad : Int) (dt : ByteArray) (l : List S127) (hd : dt.size ≤ 1048576) {k : Nat} (hk : 100 ≤ k) : impl_Patch.f k l nm kd bk ad dt l = some (!(l.all (patOk dt.size))) := by
  unfold impl_Patch.f
  obtain ⟨r, h1, h2⟩ := impl_Patch_go nm kd bk ad dt l hd hk l 0 (by omega)
  rw [h1]
  simp only [Option.bind_some]
  rw [h2]
theorem impl_SectionOk_eq (nm : ByteArray) (kd bk ad : Int) (dt : ByteArray) (l : List S127) (hd : dt.size ≤ 1048576) (hl : l.length ≤ 1048576) {k : Nat} (hk : 3300000 ≤ k) : impl_SectionOk.f k nm kd bk ad dt l = some (secOk nm kd bk ad dt l) := by
  obtain ⟨k, rfl⟩ : ∃ m, k = m + 2 := ⟨k - 2, by omega⟩
  have hz := zeros_eq dt
  unfold impl_SectionOk.f secOk
  simp only [impl_SectionOk.j0, impl_SectionOk.j1, impl_within_eq, impl_NameOk_eq nm (show 20 ≤ k + 2 by omega), impl_noughts_eq dt.size hd, Option.bind_some, impl_Patch_eq nm kd bk ad dt l hd (show 100 ≤ k by omega), impl_baseOf.f]
  by_cases c1 : nameOk nm = true
  · rw [if_pos c1, c1]
    by_cases c2 : inR kd 0 2 = true
    · rw [if_pos c2, c2]
      by_cases c3 : dt.size ≤ 256
      · rw [if_neg (show ¬ (dt.size : Int) > 256 by omega), decide_eq_true c3]
        by_cases c4 : l.length ≤ 256
        · rw [decide_eq_false (show ¬ (l.length : Int) > 256 by omega), if_neg (by decide), decide_eq_true c4]
          obtain ⟨hk0, hk2⟩ := inR_iff.1 c2
          have hb : (if kd = 1 then some (256 : Int) else if kd = 2 then some 49152 else some 0) = some (secBase kd) := by
            unfold secBase
            by_cases e1 : kd = 1
            · rw [if_pos e1, if_neg (by omega), if_pos e1]
            · rw [if_neg e1]
              by_cases e2 : kd = 2
              · rw [if_pos e2, if_neg (by omega), if_neg (by omega)]
              · rw [if_neg e2, if_pos (by omega)]
          have hbr : 0 ≤ secBase kd ∧ secBase kd ≤ 49152 := by
            unfold secBase
            split
            · omega
            · split <;> omega
          rw [hb]
          simp only [Option.bind_some]
          rw [w64 (n := secBase kd + 256) (by omega) (by omega), w64 (n := secBase kd + 256 - (dt.size : Int)) (by omega) (by omega)]
          have he : l.isEmpty = decide (¬ (l.length : Int) > 0) := by
            cases l with
            | nil => rfl
            | cons x r => simp
          by_cases e2 : kd = 2
          · rw [if_pos e2]
            simp only [hz, he]
            by_cases c9 : allB isZero dt dt.size 0 = true
            · rw [if_pos c9, c9]
              by_cases c10 : (l.length : Int) > 0
              · have hl0 : 0 < l.length := by omega
                have hne : l ≠ [] := by
                  intro h
                  rw [h] at hl0
                  exact absurd hl0 (by decide)
                simp [e2, hl0, hne]
              · simp only [c10, e2]
                cases hp : l.all (patOk (dt.size : Int)) <;> by_cases c5 : ad = -1 <;> by_cases c6 : bk = -1 <;> cases c8 : inR ad (secBase 2) (secBase 2 + 256 - (dt.size : Int)) <;> simp_all
            · rw [if_neg c9, Bool.eq_false_iff.2 c9]
              simp [e2]
          · rw [if_neg e2]
            cases hp : l.all (patOk (dt.size : Int)) <;> by_cases c5 : ad = -1 <;> by_cases c6 : bk = -1 <;> by_cases c7 : kd = 1 <;> cases c8 : inR ad (secBase kd) (secBase kd + 256 - (dt.size : Int)) <;> cases c11 : inR bk 1 15 <;> simp_all
        · rw [decide_eq_true (show (l.length : Int) > 256 by omega), if_pos rfl, decide_eq_false c4]
          simp
      · rw [if_pos (show (dt.size : Int) > 256 by omega), decide_eq_false c3]
        simp
    · rw [if_neg c2, Bool.eq_false_iff.2 c2]
      simp
  · rw [if_neg c1, Bool.eq_false_iff.2 c1]
    simp

open Go.Proofs.Ytffmpmgnkhlmdaa.Kin in
theorem FnExactSectionOk (a : ByteArray) (b c d : Int) (e : ByteArray) (l : List S179) (ha : a.size ≤ maxLen) (hb : (Lit.int .i64 b).wf = true) (hc : (Lit.int .i64 c).wf = true) (hd : (Lit.int .i64 d).wf = true) (he : e.size ≤ maxLen) (h : l.length ≤ maxLen ∧ ∀ x ∈ l, okT179 x) : ∃ k, laws_FnExactSectionOk.f k a b c d e l = some true := by
  refine ⟨4000000, ?_⟩
  unfold laws_FnExactSectionOk.f
  obtain ⟨t, ht, hle, hlen⟩ := laws_szSection_some a b c d e l ha he h.1 (fun x hx => ⟨(h.2 x hx).2.2.1, fun y hy => ((h.2 x hx).2.2.2 y hy).2.2⟩) (k := 4000000) (left := 1048576) (by decide) (by decide) (by decide)
  rw [ht]
  simp only [Option.bind_some]
  by_cases hc : t < 0
  · rw [if_pos hc]
  · rw [if_neg hc]
    obtain ⟨h1, h2, h3, h4⟩ := hlen (by omega)
    have h3' : (l.map patI).length ≤ 1048576 := by simpa using h3
    have h4' : ∀ x ∈ l.map patI, x.f2.length ≤ 1048576 := by
      intro x hx
      obtain ⟨y, hy, rfl⟩ := List.mem_map.1 hx
      show (y.f2.map nodeI).length ≤ _
      rw [List.length_map]
      exact h4 y hy
    rw [laws_toSection_eq a b c d e l h3 h4 (by decide)]
    simp only [Option.bind_some]
    rw [spec_SectionOk_eq a b c d e _ h2 h3' h4' (by decide), impl_SectionOk_eq a b c d e _ h2 h3' (by decide)]
    simp only [Option.bind_some]
    rw [laws_eqSection_same a b c d e _ h3' h4' (by decide)]
    simp

end Go.Proofs.Ytffmpmgnkhlmdaa.Pure
