/-
The law FnExactFilled, told as a plain function of the text and the row of texts, answers true for every input.
-/
import Derived.Test.YtffmpmgnkhlmdaaPFnExactFilledx3
import Derived.Test.YtffmpmgnkhlmdaaAidA
import Derived.Test.YtffmpmgnkhlmdaaAidB
import Derived.Test.YtffmpmgnkhlmdaaAidC
namespace Go.Proofs.Ytffmpmgnkhlmdaa.Pure
open Go.RowKit Go.Proofs.Ytffmpmgnkhlmdaa.Aid Go.Proofs.Ytffmpmgnkhlmdaa.PFnExactFilled Go.Proofs.YtffmpmgnkhlmdaaW.PrintWords Go.Proofs.YtffmpmgnkhlmdaaW.PrintLast Go.Proofs.YtffmpmgnkhlmdaaW.PrintMore
set_option linter.unusedVariables false
set_option linter.unusedSimpArgs false

theorem laws_szStringS_l0 (l : List ByteArray) (hl : l.length ≤ 1048576) (hn : ∀ x ∈ l, x.size ≤ maxLen) : ∀ (n k i : Nat) (left : Int), i + n = l.length → n < k → 0 ≤ left → left ≤ 1048576 → ∃ t, laws_szStringS.l0 k l left (i : Int) = some t ∧ t ≤ left := by
  intro n
  induction n with
  | zero =>
    intro k i left hi hk h0 h1
    obtain ⟨k, rfl⟩ : ∃ m, k = m + 1 := ⟨k - 1, by omega⟩
    refine ⟨left, ?_, Int.le_refl _⟩
    simp only [laws_szStringS.l0]
    rw [if_neg (by omega)]
  | succ n ih =>
    intro k i left hi hk h0 h1
    obtain ⟨k, rfl⟩ : ∃ m, k = m + 1 := ⟨k - 1, by omega⟩
    simp only [laws_szStringS.l0]
    rw [if_pos (by omega), if_pos (by omega), up1 (by omega : i < l.length) (by omega)]
    have hx : (rdOf ByteArray.empty l (i : Int)).size ≤ maxLen := hn _ (by unfold rdOf; exact getD_mem _ _ _ (by simp; omega))
    unfold maxLen at hx
    generalize (rdOf ByteArray.empty l (i : Int)).size = z at hx ⊢
    rw [w64 (by omega) (by omega)]
    by_cases hc : left - (z : Int) < 0
    · rw [if_pos hc]
      exact ⟨-1, rfl, by omega⟩
    · rw [if_neg hc]
      obtain ⟨t, ht, hle⟩ := ih k (i + 1) (left - z) (by omega) (by omega) (by omega) (by omega)
      exact ⟨t, ht, by omega⟩
theorem laws_szStringS_some (l : List ByteArray) (hl : l.length ≤ maxLen) (hn : ∀ x ∈ l, x.size ≤ maxLen) {k : Nat} {left : Int} (h0 : 0 ≤ left) (h1 : left ≤ 1048576) (hk : 1048577 ≤ k) :
    ∃ t, laws_szStringS.f k l left = some t ∧ t ≤ left ∧ (0 ≤ t → l.length ≤ 1048576) := by
  unfold maxLen at hl
  unfold laws_szStringS.f
  rw [w64 (by omega) (by omega)]
  by_cases hc : left - (l.length : Int) < 0
  · rw [if_pos hc]
    exact ⟨-1, rfl, by omega, by omega⟩
  · rw [if_neg hc]
    obtain ⟨t, ht, hle⟩ := laws_szStringS_l0 l (by omega) hn l.length k 0 (left - l.length) (by omega) (by omega) (by omega) (by omega)
    exact ⟨t, ht, by omega, fun _ => by omega⟩

theorem laws_toStringS_l0 (l : List ByteArray) (hl : l.length ≤ 1048576) : ∀ (n k i : Nat) (y : List ByteArray), i + n = l.length → n < k → y.length = l.length → y.take i = (l.map id).take i → laws_toStringS.l0 k l y (i : Int) = some l := by
  intro n
  induction n with
  | zero =>
    intro k i y hi hk hy ht
    obtain ⟨k, rfl⟩ : ∃ m, k = m + 1 := ⟨k - 1, by omega⟩
    simp only [laws_toStringS.l0]
    rw [if_neg (by omega)]
    obtain rfl : i = l.length := by omega
    rw [fill_end id l y hy ht, List.map_id]
  | succ n ih =>
    intro k i y hi hk hy ht
    obtain ⟨k, rfl⟩ : ∃ m, k = m + 1 := ⟨k - 1, by omega⟩
    simp only [laws_toStringS.l0]
    rw [if_pos (by omega), if_pos (by omega), if_pos (by omega), up1 (by omega : i < l.length) (by omega)]
    obtain ⟨h1, h2⟩ := fill_step ByteArray.empty id l y i (by omega) hy ht
    exact ih k (i + 1) _ (by omega) (by omega) h1 h2
theorem laws_toStringS_eq (l : List ByteArray) (hl : l.length ≤ 1048576) {k : Nat} (hk : 1048577 ≤ k) : laws_toStringS.f k l = some l := by
  unfold laws_toStringS.f
  rw [if_pos (by omega), if_pos (by omega)]
  exact laws_toStringS_l0 l hl l.length k 0 _ (by omega) (by omega) (by simp) (by simp)

theorem laws_eqStringS_l0 (l : List ByteArray) (hl : l.length ≤ 4611686018427387904) : ∀ (n k i : Nat), i + n = l.length → n < k → laws_eqStringS.l0 k l l (i : Int) = some true := by
  intro n
  induction n with
  | zero =>
    intro k i hi hk
    obtain ⟨k, rfl⟩ : ∃ m, k = m + 1 := ⟨k - 1, by omega⟩
    simp only [laws_eqStringS.l0]
    rw [if_neg (by omega)]
  | succ n ih =>
    intro k i hi hk
    obtain ⟨k, rfl⟩ : ∃ m, k = m + 1 := ⟨k - 1, by omega⟩
    simp only [laws_eqStringS.l0, if_true]
    rw [if_pos (by omega), if_pos (by omega), up1 (by omega : i < l.length) (by omega)]
    first | exact ih k (i + 1) (by omega) (by omega) | (rw [if_pos (by omega)]; exact ih k (i + 1) (by omega) (by omega))
theorem laws_eqStringS_same (l : List ByteArray) (hl : l.length ≤ 4611686018427387904) {k : Nat} (hk : l.length < k) : laws_eqStringS.f k l l = some true := by
  unfold laws_eqStringS.f
  rw [if_pos rfl]
  exact laws_eqStringS_l0 l hl l.length k 0 (by omega) hk

theorem fill_j1 (a : ByteArray) (l : List ByteArray) (i : Nat) (acc : ByteArray) (hi : i < a.size) (ha : a.size ≤ 1000) :
    ∃ b, (∀ k, spec_l8Fill.l0 (k + 1) a l acc (i : Int) = spec_l8Fill.j1 k a l acc (i : Int) b) ∧ (∀ k, impl_filled.l0 (k + 1) a l acc (i : Int) = impl_filled.j1 k a l acc (i : Int) b) ∧ (b = true → i + 1 < a.size ∧ 49 ≤ bt a ((i + 1 : Nat) : Int) ∧ bt a ((i + 1 : Nat) : Int) ≤ 57) := by
  have hu : wrap64 ((i : Int) + 1) = ((i + 1 : Nat) : Int) := up1 hi (by omega)
  simp only [spec_l8Fill.l0, impl_filled.l0, hu]
  by_cases h1 : bt a (i : Int) = 92
  · by_cases h2 : i + 1 < a.size
    · by_cases h3 : bt a ((i + 1 : Nat) : Int) ≥ 49
      · refine ⟨decide (bt a ((i + 1 : Nat) : Int) ≤ 57), fun k => ?_, fun k => ?_, fun hb => ⟨h2, h3, of_decide_eq_true hb⟩⟩
        · rw [if_pos (by omega), if_pos (by omega), if_pos h1, if_pos (by omega), if_pos (by omega), if_pos h3]
        · rw [if_pos (by omega), if_pos (by omega), if_pos h1, if_pos (by omega), if_pos (by omega), if_pos h3]
      · refine ⟨false, fun k => ?_, fun k => ?_, fun hb => by cases hb⟩
        · rw [if_pos (by omega), if_pos (by omega), if_pos h1, if_pos (by omega), if_pos (by omega), if_neg h3]
        · rw [if_pos (by omega), if_pos (by omega), if_pos h1, if_pos (by omega), if_pos (by omega), if_neg h3]
    · refine ⟨false, fun k => ?_, fun k => ?_, fun hb => by cases hb⟩
      · rw [if_pos (by omega), if_pos (by omega), if_pos h1, if_neg (by omega)]
      · rw [if_pos (by omega), if_pos (by omega), if_pos h1, if_neg (by omega)]
  · refine ⟨false, fun k => ?_, fun k => ?_, fun hb => by cases hb⟩
    · rw [if_pos (by omega), if_pos (by omega), if_neg h1]
    · rw [if_pos (by omega), if_pos (by omega), if_neg h1]
theorem fill_both (a : ByteArray) (l : List ByteArray) (ha : a.size ≤ 1000) (hl : ∀ x ∈ l, x.size ≤ 1000) : ∀ (n i : Nat) (acc : ByteArray), i + n = a.size → acc.size ≤ 1000 * i →
    ∃ r, ∀ k, 2 * n + 2 ≤ k → spec_l8Fill.l0 k a l acc (i : Int) = some r ∧ impl_filled.l0 k a l acc (i : Int) = some r := by
  intro n
  induction n using Nat.strongRecOn with
  | ind n ih =>
    intro i acc hi hacc
    by_cases hn : n = 0
    · refine ⟨(acc, decide ((acc.size : Int) ≤ 80)), fun k hk => ?_⟩
      obtain ⟨k, rfl⟩ : ∃ m, k = m + 1 := ⟨k - 1, by omega⟩
      simp only [spec_l8Fill.l0, impl_filled.l0]
      exact ⟨by rw [if_neg (by omega)], by rw [if_neg (by omega)]⟩
    · have hlt : i < a.size := by omega
      have hu : wrap64 ((i : Int) + 1) = ((i + 1 : Nat) : Int) := up1 hlt (by omega)
      obtain ⟨b, hS, hI, hb⟩ := fill_j1 a l i acc hlt ha
      cases b with
      | true =>
        obtain ⟨h2, h3, h4⟩ := hb rfl
        have hv : wrap64 (((i + 1 : Nat) : Int) + 1) = ((i + 2 : Nat) : Int) := up1 h2 (by omega)
        have hm : (bt a ((i + 1 : Nat) : Int) - 49) % 256 = bt a ((i + 1 : Nat) : Int) - 49 := Int.emod_eq_of_lt (by omega) (by omega)
        by_cases hd : bt a ((i + 1 : Nat) : Int) - 49 < (l.length : Int)
        · have hx : (rdOf ByteArray.empty l (bt a ((i + 1 : Nat) : Int) - 49)).size ≤ 1000 := hl _ (by unfold rdOf; exact getD_mem _ _ _ (by omega))
          obtain ⟨r, hr⟩ := ih (n - 2) (by omega) (i + 2) (acc ++ rdOf ByteArray.empty l (bt a ((i + 1 : Nat) : Int) - 49)) (by omega) (by rw [ByteArray.size_append]; omega)
          refine ⟨r, fun k hk => ?_⟩
          obtain ⟨k, rfl⟩ : ∃ m, k = m + 2 := ⟨k - 2, by omega⟩
          rw [hS, hI]
          simp only [spec_l8Fill.j1, impl_filled.j1, hu, hv, hm, if_true]
          constructor
          · rw [if_pos (by omega), if_pos (by omega), if_pos hd, if_pos (by omega), if_pos (by omega)]
            exact (hr k (by omega)).1
          · rw [if_pos (by omega), if_pos (by omega), if_pos hd, if_pos (by omega), if_pos (by omega)]
            exact (hr k (by omega)).2
        · obtain ⟨r, hr⟩ := ih (n - 2) (by omega) (i + 2) acc (by omega) (by omega)
          refine ⟨r, fun k hk => ?_⟩
          obtain ⟨k, rfl⟩ : ∃ m, k = m + 2 := ⟨k - 2, by omega⟩
          rw [hS, hI]
          simp only [spec_l8Fill.j1, impl_filled.j1, hu, hv, hm, if_true]
          constructor
          · rw [if_pos (by omega), if_pos (by omega), if_neg hd]
            exact (hr k (by omega)).1
          · rw [if_pos (by omega), if_pos (by omega), if_neg hd]
            exact (hr k (by omega)).2
      | false =>
        have hx : (a.extract (i : Int).toNat ((i + 1 : Nat) : Int).toNat).size ≤ 1000 := by
          rw [ByteArray.size_extract]
          omega
        obtain ⟨r, hr⟩ := ih (n - 1) (by omega) (i + 1) (acc ++ a.extract (i : Int).toNat ((i + 1 : Nat) : Int).toNat) (by omega) (by rw [ByteArray.size_append]; omega)
        refine ⟨r, fun k hk => ?_⟩
        obtain ⟨k, rfl⟩ : ∃ m, k = m + 2 := ⟨k - 2, by omega⟩
        rw [hS, hI]
        simp only [spec_l8Fill.j1, impl_filled.j1, hu]
        constructor
        · rw [if_neg (by decide), if_pos (by omega), if_pos (by omega), if_pos (by omega), if_pos (by omega)]
          exact (hr k (by omega)).1
        · rw [if_neg (by decide), if_pos ⟨by omega, by omega, by omega⟩, if_pos (by omega)]
          exact (hr k (by omega)).2
theorem filled_both (a : ByteArray) (l : List ByteArray) (ha : a.size ≤ 1000) (hl : ∀ x ∈ l, x.size ≤ 1000) : ∃ r, impl_filled.f a l = some r ∧ ∀ k, 3000 ≤ k → spec_l8Fill.f k a l = some r := by
  obtain ⟨r, hr⟩ := fill_both a l ha hl a.size 0 (⟨#[]⟩ : ByteArray) (by omega) (by simp [ByteArray.size])
  exact ⟨r, (hr _ (by omega)).2, fun k hk => (hr k (by omega)).1⟩

theorem Filled_l0 (a : ByteArray) (l : List ByteArray) (ha : a.size ≤ 80) (hl : l.length ≤ 9) : ∀ (n i : Nat), i + n = l.length → (∀ x ∈ l.take i, x.size ≤ 80) →
    ∃ r, ∀ k, n + 3010 ≤ k → spec_Filled.l0 k a l (i : Int) = some r ∧ impl_Filled.l0 k a l l (l.length : Int) (i : Int) = some r := by
  intro n
  induction n with
  | zero =>
    intro i hi hx
    rw [List.take_of_length_le (by omega)] at hx
    obtain ⟨r, h1, h2⟩ := filled_both a l (by omega) (fun x hm => by have := hx x hm; omega)
    refine ⟨if r.2 = true then r.1 else (⟨#[]⟩ : ByteArray), fun k hk => ?_⟩
    obtain ⟨k, rfl⟩ : ∃ m, k = m + 1 := ⟨k - 1, by omega⟩
    simp only [spec_Filled.l0, impl_Filled.l0]
    constructor
    · rw [if_neg (by omega), h2 k (by omega), Option.bind_some]
      by_cases c : r.2 = true
      · rw [if_pos c, if_pos c]
      · rw [if_neg c, if_neg c]
    · rw [if_neg (by omega), h1, Option.bind_some]
      by_cases c : r.2 = true
      · rw [if_pos c, if_pos c]
      · rw [if_neg c, if_neg c]
  | succ n ih =>
    intro i hi hx
    have hlt : i < l.length := by omega
    have hu : wrap64 ((i : Int) + 1) = ((i + 1 : Nat) : Int) := up1 hlt (by omega)
    have hrd : rdOf ByteArray.empty l (i : Int) = l[i] := by
      unfold rdOf
      rw [Int.toNat_natCast, List.getD_eq_getElem?_getD, List.getElem?_eq_getElem hlt]
      rfl
    by_cases c : ((rdOf ByteArray.empty l (i : Int)).size : Int) > 80
    · refine ⟨(⟨#[]⟩ : ByteArray), fun k hk => ?_⟩
      obtain ⟨k, rfl⟩ : ∃ m, k = m + 1 := ⟨k - 1, by omega⟩
      simp only [spec_Filled.l0, impl_Filled.l0]
      constructor
      · rw [if_pos (by omega), if_pos (by omega), if_pos c]
      · rw [if_pos (by omega), if_pos (by omega), if_pos (by omega), if_pos c]
    · obtain ⟨r, hr⟩ := ih (i + 1) (by omega) (by
        intro x hm
        rw [List.take_add_one, List.getElem?_eq_getElem hlt] at hm
        rcases List.mem_append.1 hm with h | h
        · exact hx x h
        · obtain rfl : x = l[i] := by simpa using h
          rw [hrd] at c
          omega)
      refine ⟨r, fun k hk => ?_⟩
      obtain ⟨k, rfl⟩ : ∃ m, k = m + 1 := ⟨k - 1, by omega⟩
      simp only [spec_Filled.l0, impl_Filled.l0]
      constructor
      · rw [if_pos (by omega), if_pos (by omega), if_neg c, hu]
        exact (hr k (by omega)).1
      · rw [if_pos (by omega), if_pos (by omega), if_pos (by omega), if_neg c, hu]
        exact (hr k (by omega)).2
theorem Filled_both (a : ByteArray) (l : List ByteArray) : ∃ r, ∀ k, 4000 ≤ k → spec_Filled.f k a l = some r ∧ impl_Filled.f k a l = some r := by
  unfold spec_Filled.f impl_Filled.f
  by_cases h1 : (a.size : Int) > 80
  · refine ⟨(⟨#[]⟩ : ByteArray), fun k hk => ?_⟩
    obtain ⟨k, rfl⟩ : ∃ m, k = m + 1 := ⟨k - 1, by omega⟩
    rw [if_pos h1, if_pos h1]
    simp [spec_Filled.j0, impl_Filled.j0]
  · by_cases h2 : (l.length : Int) > 9
    · refine ⟨(⟨#[]⟩ : ByteArray), fun k hk => ?_⟩
      obtain ⟨k, rfl⟩ : ∃ m, k = m + 1 := ⟨k - 1, by omega⟩
      rw [if_neg h1, if_neg h1, decide_eq_true h2]
      simp [spec_Filled.j0, impl_Filled.j0]
    · obtain ⟨r, hr⟩ := Filled_l0 a l (by omega) (by omega) l.length 0 (by omega) (by simp)
      refine ⟨r, fun k hk => ?_⟩
      obtain ⟨k, rfl⟩ : ∃ m, k = m + 1 := ⟨k - 1, by omega⟩
      rw [if_neg h1, if_neg h1, decide_eq_false h2]
      simp only [spec_Filled.j0, impl_Filled.j0]
      constructor
      · rw [if_neg (by decide)]
        exact (hr k (by omega)).1
      · rw [if_neg (by decide)]
        exact (hr k (by omega)).2

theorem FnExactFilled (a : ByteArray) (l : List ByteArray) (ha : a.size ≤ maxLen) (h : l.length ≤ maxLen ∧ ∀ x ∈ l, x.size ≤ maxLen) : ∃ k, laws_FnExactFilled.f k a l = some true := by
  refine ⟨1100000, ?_⟩
  unfold laws_FnExactFilled.f
  by_cases h0 : (a.size : Int) > 1048576
  · rw [if_pos h0]
  · rw [if_neg h0]
    obtain ⟨t, ht, hle, hlen⟩ := laws_szStringS_some l h.1 h.2 (k := 1100000) (left := 1048576) (by decide) (by decide) (by decide)
    rw [ht]
    simp only [Option.bind_some]
    by_cases hc : t < 0
    · rw [if_pos hc]
    · rw [if_neg hc]
      have hl := hlen (by omega)
      rw [laws_toStringS_eq l hl (by decide)]
      simp only [Option.bind_some]
      obtain ⟨r, hr⟩ := Filled_both a l
      rw [(hr 1100000 (by decide)).1, (hr 1100000 (by decide)).2]
      simp only [Option.bind_some, if_true]
      rw [laws_eqStringS_same l (by omega) (by omega)]
      simp

end Go.Proofs.Ytffmpmgnkhlmdaa.Pure
