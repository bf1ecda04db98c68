/-
The law FnExactReadLine, told as a plain function of a text, answers true for every input.
-/
import Derived.Test.YtffmpmgnkhlmdaaDoorPFnExactReadLinex0
import Derived.Test.YtffmpmgnkhlmdaaDoorAidA
import Derived.Test.YtffmpmgnkhlmdaaDoorAidB
import Derived.Test.YtffmpmgnkhlmdaaDoorAidL
import Derived.Test.YtffmpmgnkhlmdaaDoorAidH
namespace Go.Proofs.YtffmpmgnkhlmdaaDoor.Pure
open Go.RowKit Go.Proofs.YtffmpmgnkhlmdaaDoor.Aid Go.Proofs.YtffmpmgnkhlmdaaDoor.PFnExactReadLine Go.Proofs.YtffmpmgnkhlmdaaDoor.PFnExactLineOk Go.Proofs.YtffmpmgnkhlmdaaDoorW.PrintWords Go.Proofs.YtffmpmgnkhlmdaaDoorW.PrintLast Go.Proofs.YtffmpmgnkhlmdaaDoorW.PrintMore
set_option linter.unusedVariables false
set_option linter.unusedSimpArgs false

theorem impl_within_eq (a b c : Int) : impl_within.f a b c = some (inR a b c) := by
  unfold impl_within.f inR
  by_cases h : a ≥ b
  · rw [if_pos h, decide_eq_true (show b ≤ a from h)]
    rfl
  · rw [if_neg h, decide_eq_false (show ¬ b ≤ a from h)]
    rfl

theorem spec_l1Letter_eq (c : Int) : spec_l1Letter.f c = some (isLet c) := by
  unfold spec_l1Letter.f isLet inR
  by_cases h1 : c ≥ 97
  · by_cases h2 : c ≤ 122
    · simp [h1, h2]
    · by_cases h3 : c = 95
      · simp [h3]
      · simp [h1, h2, h3]
  · by_cases h3 : c = 95
    · simp [h3]
    · simp [h1, h3]

theorem impl_isDigit_eq (c : Int) : impl_isDigit.f c = some (inR c 48 57) := by
  unfold impl_isDigit.f inR
  by_cases h : c ≥ 48
  · rw [if_pos h, decide_eq_true (show 48 ≤ c from h)]
    rfl
  · rw [if_neg h, decide_eq_false (show ¬ 48 ≤ c from h)]
    rfl

theorem impl_isSmall_eq (c : Int) : impl_isSmall.f c = some (inR c 97 122) := by
  unfold impl_isSmall.f inR
  by_cases h : c ≥ 97
  · rw [if_pos h, decide_eq_true (show 97 ≤ c from h)]
    rfl
  · rw [if_neg h, decide_eq_false (show ¬ 97 ≤ c from h)]
    rfl

theorem spec_NameOk_l0 (s : ByteArray) (hs : s.size ≤ 140737488351232) : ∀ (n k i : Nat), i + n = s.size → n < k → spec_NameOk.l0 k s (i : Int) = some (allB isNam s n i) := by
  intro n
  induction n with
  | zero =>
    intro k i hi hk
    obtain ⟨k, rfl⟩ : ∃ m, k = m + 1 := ⟨k - 1, by omega⟩
    simp only [spec_NameOk.l0]
    rw [if_neg (by omega)]
    rfl
  | succ n ih =>
    intro k i hi hk
    obtain ⟨k, rfl⟩ : ∃ m, k = m + 1 := ⟨k - 1, by omega⟩
    have hn := ih k (i + 1) (by omega) (by omega)
    have hw : wrap64 ((i : Int) + 1) = ((i + 1 : Nat) : Int) := by rw [w64 (by omega) (by omega)]; omega
    simp only [spec_NameOk.l0]
    rw [if_pos (by omega), if_pos (by omega), spec_l1Letter_eq, hw, hn]
    simp only [Option.bind_some, allB, isNam, inR]
    by_cases h1 : isLet (bt s i) = true
    · simp [h1]
    · by_cases h2 : bt s i ≥ 48
      · by_cases h3 : bt s i ≤ 57
        · simp [h1, h2, h3]
        · simp [h1, h2, h3]
      · simp [h1, h2]
theorem spec_NameOk_eq (s : ByteArray) {k : Nat} (hk : 20 ≤ k) : spec_NameOk.f k s = some (nameOk s) := by
  unfold spec_NameOk.f nameOk
  obtain ⟨k, rfl⟩ : ∃ m, k = m + 1 := ⟨k - 1, by omega⟩
  simp only [spec_NameOk.j0]
  by_cases h1 : (s.size : Int) < 1
  · rw [if_pos h1, inR_neg (by omega)]
    rfl
  · by_cases h2 : (s.size : Int) > 16
    · rw [if_neg h1, if_pos h2, inR_neg (by omega)]
      rfl
    · have hl := spec_NameOk_l0 s (by omega) s.size k 0 (by omega) (by omega)
      rw [if_neg h1, if_neg h2, inR_pos (by omega) (by omega), if_pos (by omega), spec_l1Letter_eq]
      simp only [Option.bind_some, Bool.true_and]
      rw [show ((0 : Nat) : Int) = 0 from rfl] at hl
      rw [hl]
      obtain ⟨n, hn⟩ : ∃ n, s.size = n + 1 := ⟨s.size - 1, by omega⟩
      by_cases h3 : isLet (bt s 0) = true
      · rw [h3, isLet_dig h3]
        simp
      · have h3' : isLet (bt s 0) = false := by simpa using h3
        rw [h3', hn]
        simp only [Bool.not_false, if_true, allB]
        rw [show bt s ((0 : Nat) : Int) = bt s 0 from rfl]
        unfold isNam
        rw [h3']
        cases inR (bt s 0) 48 57 <;> simp

theorem impl_NameOk_l0 (s : ByteArray) (hs : s.size ≤ 140737488351232) : ∀ (n k i : Nat), i + n = s.size → n < k → impl_NameOk.l0 k s (s.size : Int) (i : Int) = some (allB isNam s n i) := by
  intro n
  induction n with
  | zero =>
    intro k i hi hk
    obtain ⟨k, rfl⟩ : ∃ m, k = m + 1 := ⟨k - 1, by omega⟩
    simp only [impl_NameOk.l0]
    rw [if_neg (by omega)]
    rfl
  | succ n ih =>
    intro k i hi hk
    obtain ⟨k, rfl⟩ : ∃ m, k = m + 1 := ⟨k - 1, by omega⟩
    have hn := ih k (i + 1) (by omega) (by omega)
    have hw : wrap64 ((i : Int) + 1) = ((i + 1 : Nat) : Int) := by rw [w64 (by omega) (by omega)]; omega
    simp only [impl_NameOk.l0]
    rw [if_pos (by omega), if_pos (by omega), if_pos (by omega), impl_isSmall_eq, impl_isDigit_eq, hw, hn]
    simp only [Option.bind_some, allB, isNam, isLet]
    by_cases h1 : inR (bt s i) 97 122 = true
    · simp [h1]
    · by_cases h2 : inR (bt s i) 48 57 = true
      · simp [h1, h2]
      · by_cases h3 : bt s i = 95
        · simp [h1, h2, h3]
        · by_cases h4 : bt s i = 46
          · simp [h1, h2, h3, h4]
          · simp [h1, h2, h3, h4]
theorem impl_NameOk_eq (s : ByteArray) {k : Nat} (hk : 20 ≤ k) : impl_NameOk.f k s = some (nameOk s) := by
  unfold impl_NameOk.f nameOk
  obtain ⟨k, rfl⟩ : ∃ m, k = m + 1 := ⟨k - 1, by omega⟩
  simp only [impl_NameOk.j0, impl_within_eq, Option.bind_some]
  by_cases h1 : 1 ≤ (s.size : Int) ∧ (s.size : Int) ≤ 16
  · have hl := impl_NameOk_l0 s (by omega) s.size k 0 (by omega) (by omega)
    rw [inR_pos h1.1 h1.2, if_pos rfl, if_pos (by omega), impl_isDigit_eq]
    simp only [Option.bind_some, Bool.true_and]
    rw [show ((0 : Nat) : Int) = 0 from rfl] at hl
    rw [hl]
    cases inR (bt s 0) 48 57 <;> simp
  · rw [inR_neg h1]
    rfl

def isPl (c : Int) : Bool := !decide (c < 32) && !decide (c > 126) && !decide (c = 59)
/-- No blank at the ends. -/
def ends (l : List UInt8) : Bool := decide (l.head? ≠ some 32) && decide (l.getLast? ≠ some 32)
theorem bt_is (s : ByteArray) (i c : Nat) (h : i < s.size) (hc : c < 256) : (bt s (i : Int) = (c : Int)) ↔ s.data.toList[i]? = some (UInt8.ofNat c) := by
  obtain ⟨x, h1, h2⟩ := bt_drop s i h
  have : s.data.toList[i]? = some x := by
    have := congrArg List.head? h1
    simpa [List.head?_drop] using this
  rw [this, h2, nat_eq x c hc]
  simp
theorem ends_eq (s : ByteArray) (h : 0 < s.size) : ends s.data.toList = (!decide (bt s 0 = 32) && !decide (bt s ((s.size - 1 : Nat) : Int) = 32)) := by
  have a := bt_is s 0 32 h (by decide)
  have b := bt_is s (s.size - 1) 32 (by omega) (by decide)
  have hl := len_list s
  unfold ends
  rw [List.head?_eq_getElem?, List.getLast?_eq_getElem?, hl]
  have a' : (bt s 0 = 32) ↔ s.data.toList[0]? = some 32 := a
  have b' : (bt s ((s.size - 1 : Nat) : Int) = 32) ↔ s.data.toList[s.size - 1]? = some 32 := b
  by_cases h1 : bt s 0 = 32
  · rw [decide_eq_true h1, decide_eq_false (fun e => e (a'.1 h1))]
    rfl
  · have d1 : decide (s.data.toList[0]? ≠ some 32) = true := decide_eq_true fun e => h1 (a'.2 e)
    rw [decide_eq_false h1, d1]
    by_cases h2 : bt s ((s.size - 1 : Nat) : Int) = 32
    · rw [decide_eq_true h2, decide_eq_false (fun e => e (b'.1 h2))]
      rfl
    · have d2 : decide (s.data.toList[s.size - 1]? ≠ some 32) = true := decide_eq_true fun e => h2 (b'.2 e)
      rw [decide_eq_false h2, d2]
      rfl
theorem spec_l7Plain_l0 (s : ByteArray) (hs : s.size ≤ 140737488351232) : ∀ (n k i : Nat), i + n = s.size → n < k → spec_l7Plain.l0 k s (i : Int) = some (allB isPl s n i && ends s.data.toList) := by
  intro n
  induction n with
  | zero =>
    intro k i hi hk
    obtain ⟨k, rfl⟩ : ∃ m, k = m + 1 := ⟨k - 1, by omega⟩
    simp only [spec_l7Plain.l0]
    rw [if_neg (by omega), Go.Lib.toList_data]
    by_cases h0 : s.data.toList = []
    · rw [if_pos h0, h0]
      rfl
    · have hp : 0 < s.size := by
        have := len_list s
        rcases Nat.eq_zero_or_pos s.size with h | h
        · exact absurd (List.length_eq_zero_iff.1 (by omega)) h0
        · exact h
      have hw : wrap64 ((s.size : Int) - 1) = ((s.size - 1 : Nat) : Int) := by rw [w64 (by omega) (by omega)]; omega
      rw [if_neg h0, if_pos (by omega), ends_eq s hp]
      simp only [allB, Bool.true_and]
      by_cases h1 : bt s 0 = 32
      · simp [h1]
      · rw [if_neg h1, hw, if_pos (by omega), if_pos (by omega)]
        by_cases h2 : bt s ((s.size - 1 : Nat) : Int) = 32 <;> simp [h1, h2]
  | succ n ih =>
    intro k i hi hk
    obtain ⟨k, rfl⟩ : ∃ m, k = m + 1 := ⟨k - 1, by omega⟩
    have hn := ih k (i + 1) (by omega) (by omega)
    have hw : wrap64 ((i : Int) + 1) = ((i + 1 : Nat) : Int) := by rw [w64 (by omega) (by omega)]; omega
    simp only [spec_l7Plain.l0]
    rw [if_pos (by omega), if_pos (by omega), hw, hn]
    simp only [allB, isPl]
    by_cases h1 : bt s i < 32
    · simp [h1]
    · by_cases h2 : bt s i > 126
      · simp [h1, h2]
      · by_cases h3 : bt s i = 59 <;> simp [h1, h2, h3]
theorem spec_l7Plain_eq (s : ByteArray) (hs : s.size ≤ 140737488351232) {k : Nat} (hk : s.size < k) : spec_l7Plain.f k s = some (allB isPl s s.size 0 && ends s.data.toList) := spec_l7Plain_l0 s hs s.size k 0 (by omega) hk

/-- Arguments as they should stand. -/
def argsP (s : ByteArray) : Bool := allB isPl s s.size 0 && neat s.data.toList
theorem spec_l7Args_l0 (s : ByteArray) (hs : s.size ≤ 140737488351232) : ∀ (n k i : Nat), i + n = s.size → n + s.size + 2 < k → spec_l7Args.l0 k s (i : Int) = some (!pairs3 (s.data.toList.drop i) && (allB isPl s s.size 0 && ends s.data.toList)) := by
  intro n
  induction n with
  | zero =>
    intro k i hi hk
    obtain ⟨k, rfl⟩ : ∃ m, k = m + 1 := ⟨k - 1, by omega⟩
    have hw : wrap64 ((i : Int) + 1) = ((i + 1 : Nat) : Int) := by rw [w64 (by omega) (by omega)]; omega
    simp only [spec_l7Args.l0]
    rw [hw, if_neg (by omega), spec_l7Plain_eq s hs (by omega), drop_end s i (by omega)]
    rfl
  | succ n ih =>
    intro k i hi hk
    obtain ⟨k, rfl⟩ : ∃ m, k = m + 1 := ⟨k - 1, by omega⟩
    have hw : wrap64 ((i : Int) + 1) = ((i + 1 : Nat) : Int) := by rw [w64 (by omega) (by omega)]; omega
    obtain ⟨x, hx, bx⟩ := bt_drop s i (by omega)
    simp only [spec_l7Args.l0]
    rw [hw]
    by_cases hl : i + 1 < s.size
    · obtain ⟨y, hy, bY⟩ := bt_drop s (i + 1) hl
      have hn := ih k (i + 1) (by omega) (by omega)
      have hp : pairs3 (s.data.toList.drop i) = ((decide (x = 32) && decide (y = 32)) || (decide (x = 32) && decide (y = 44)) || (decide (x = 44) && decide (y = 32)) || pairs3 (s.data.toList.drop (i + 1))) := by
        rw [hx, pairs3, show (s.data.toList.drop (i + 1)).head? = some y from by rw [hy]; rfl]
        rfl
      rw [if_pos (by omega), if_pos (by omega), if_pos (by omega), hn, bx, bY, hp]
      simp only [if_pos (show (0 : Int) ≤ ((i + 1 : Nat) : Int) by omega)]
      have e1 : ((x.toNat : Int) = 32) ↔ x = 32 := nat_eq x 32 (by decide)
      have e2 : ((x.toNat : Int) = 44) ↔ x = 44 := nat_eq x 44 (by decide)
      have e3 : ((y.toNat : Int) = 32) ↔ y = 32 := nat_eq y 32 (by decide)
      have e4 : ((y.toNat : Int) = 44) ↔ y = 44 := nat_eq y 44 (by decide)
      simp only [e1, e2, e3, e4, List.head?_cons]
      by_cases h1 : x = 32
      · subst h1
        by_cases h3 : y = 32
        · subst h3
          simp
        · by_cases h4 : y = 44
          · subst h4
            simp
          · simp [h3, h4]
      · by_cases h2 : x = 44
        · subst h2
          by_cases h3 : y = 32
          · subst h3
            simp
          · simp [h3]
        · simp [h1, h2]
    · rw [if_neg (by omega), spec_l7Plain_eq s hs (by omega), hx, drop_end s (i + 1) (by omega)]
      simp [pairs3]
theorem spec_l7Args_eq (s : ByteArray) (hs : s.size ≤ 1048576) {k : Nat} (hk : 3000000 ≤ k) : spec_l7Args.f k s = some (argsP s) := by
  have h := spec_l7Args_l0 s (by omega) s.size k 0 (by omega) (by omega)
  unfold spec_l7Args.f argsP
  rw [neat_pairs]
  refine h.trans ?_
  rw [List.drop_zero]
  unfold ends
  cases pairs3 s.data.toList <;> simp

def opP (s : ByteArray) : Bool := allB (fun c => inR c 97 122) s s.size 0 && decide ((s.size : Int) ≤ 10)
theorem spec_l7Op_l0 (s : ByteArray) (hs : s.size ≤ 140737488351232) : ∀ (n k i : Nat), i + n = s.size → n < k → spec_l7Op.l0 k s (i : Int) = some (allB (fun c => inR c 97 122) s n i && decide ((s.size : Int) ≤ 10)) := by
  intro n
  induction n with
  | zero =>
    intro k i hi hk
    obtain ⟨k, rfl⟩ : ∃ m, k = m + 1 := ⟨k - 1, by omega⟩
    simp only [spec_l7Op.l0]
    rw [if_neg (by omega)]
    rfl
  | succ n ih =>
    intro k i hi hk
    obtain ⟨k, rfl⟩ : ∃ m, k = m + 1 := ⟨k - 1, by omega⟩
    have hn := ih k (i + 1) (by omega) (by omega)
    have hw : wrap64 ((i : Int) + 1) = ((i + 1 : Nat) : Int) := by rw [w64 (by omega) (by omega)]; omega
    simp only [spec_l7Op.l0]
    rw [if_pos (by omega), if_pos (by omega), hw, hn]
    simp only [allB, inR]
    by_cases h1 : bt s i < 97
    · rw [if_pos h1, show decide (97 ≤ bt s i) = false from by simp; omega]
      rfl
    · rw [if_neg h1, show decide (97 ≤ bt s i) = true from by simp; omega]
      by_cases h2 : bt s i > 122
      · rw [if_pos h2, show decide (bt s i ≤ 122) = false from by simp; omega]
        rfl
      · rw [if_neg h2, show decide (bt s i ≤ 122) = true from by simp; omega]
        simp
theorem spec_l7Op_eq (s : ByteArray) (hs : s.size ≤ 1048576) {k : Nat} (hk : 3000000 ≤ k) : spec_l7Op.f k s = some (opP s) := spec_l7Op_l0 s (by omega) s.size k 0 (by omega) (by omega)

def lineParts (a b c : ByteArray) : List (List UInt8) := (if a.data.toList = [] then [] else [a.data.toList ++ [58]]) ++ ((if b.data.toList = [] then [] else [b.data.toList]) ++ (if c.data.toList = [] then [] else [c.data.toList]))
/-- The text of a line. -/
def lineT (a b c : ByteArray) : ByteArray := ⟨(Go.Lib.join (lineParts a b c) [32]).toArray⟩
theorem mk_list (s : ByteArray) : s = ⟨s.data.toList.toArray⟩ := rfl
theorem join3 (x y z : List UInt8) : Go.Lib.join [x, y, z] [32] = x ++ [32] ++ (y ++ [32] ++ z) := by rw [join_cons2, join_cons2, Go.Lib.join_one]
theorem join2 (x y : List UInt8) : Go.Lib.join [x, y] [32] = x ++ [32] ++ y := by rw [join_cons2, Go.Lib.join_one]
theorem spec_l7Text_eq (a b c : ByteArray) (ha : a.size ≤ 1048576) (hb : b.size ≤ 1048576) (hc : c.size ≤ 1048576) (hbc : b.data.toList = [] → c.data.toList = []) {k : Nat} (hk : 2 ≤ k) : spec_l7Text.f k a b c = some (lineT a b c) := by
  obtain ⟨k, rfl⟩ : ∃ m, k = m + 1 := ⟨k - 1, by omega⟩
  have s1 : (⟨#[32]⟩ : ByteArray).size = 1 := rfl
  have s2 : (⟨#[58]⟩ : ByteArray).size = 1 := rfl
  unfold spec_l7Text.f lineT lineParts
  simp only [spec_l7Text.j0, Go.Lib.toList_data]
  by_cases h0 : a.data.toList = []
  · rw [if_pos h0, if_pos h0]
    by_cases h1 : b.data.toList = []
    · rw [if_pos h1, if_pos h1, if_pos (hbc h1), if_pos (hbc h1)]
      rfl
    · rw [if_neg h1, if_neg h1, if_pos trivial, if_pos (by rw [show (⟨#[]⟩ : ByteArray).size = 0 from rfl]; omega)]
      by_cases h2 : c.data.toList = []
      · rw [if_pos h2, if_pos h2, List.nil_append, List.append_nil, Go.Lib.join_one]
        refine congrArg some (ByteArray.ext (Array.toList_inj.1 ?_))
        simp [ByteArray.data_append, Array.toList_append]
      · have e : ((⟨#[]⟩ : ByteArray) ++ b).size = b.size := by rw [ByteArray.size_append]; show 0 + b.size = b.size; omega
        rw [if_neg h2, if_neg h2, if_pos (by omega), if_pos (by rw [ByteArray.size_append, e, s1]; omega), List.nil_append]
        show some _ = some (⟨(Go.Lib.join [b.data.toList, c.data.toList] [32]).toArray⟩ : ByteArray)
        rw [join2]
        refine congrArg some (ByteArray.ext (Array.toList_inj.1 ?_))
        simp [ByteArray.data_append, Array.toList_append]
  · have hne : (a ++ (⟨#[58]⟩ : ByteArray)).data.toList ≠ [] := by simp [ByteArray.data_append]
    have ea : (a ++ (⟨#[58]⟩ : ByteArray)).size = a.size + 1 := by rw [ByteArray.size_append, s2]
    rw [if_neg h0, if_neg h0, if_pos (by omega)]
    by_cases h1 : b.data.toList = []
    · rw [if_pos h1, if_pos h1, if_pos (hbc h1), if_pos (hbc h1), List.append_nil, List.append_nil, Go.Lib.join_one]
      refine congrArg some (ByteArray.ext (Array.toList_inj.1 ?_))
      simp [ByteArray.data_append, Array.toList_append]
    · have eb : ((a ++ (⟨#[58]⟩ : ByteArray)) ++ (⟨#[32]⟩ : ByteArray)).size = a.size + 2 := by rw [ByteArray.size_append, ea, s1]
      rw [if_neg h1, if_neg h1, if_neg hne, if_pos (by omega), if_pos (by omega)]
      by_cases h2 : c.data.toList = []
      · rw [if_pos h2, if_pos h2, List.append_nil]
        show some _ = some (⟨(Go.Lib.join [a.data.toList ++ [58], b.data.toList] [32]).toArray⟩ : ByteArray)
        rw [join2]
        refine congrArg some (ByteArray.ext (Array.toList_inj.1 ?_))
        simp [ByteArray.data_append, Array.toList_append]
      · have ec : (((a ++ (⟨#[58]⟩ : ByteArray)) ++ (⟨#[32]⟩ : ByteArray)) ++ b).size = a.size + 2 + b.size := by rw [ByteArray.size_append, eb]
        rw [if_neg h2, if_neg h2, if_pos (by omega), if_pos (by rw [ByteArray.size_append, ec, s1]; omega)]
        show some _ = some (⟨(Go.Lib.join [a.data.toList ++ [58], b.data.toList, c.data.toList] [32]).toArray⟩ : ByteArray)
        rw [join3]
        refine congrArg some (ByteArray.ext (Array.toList_inj.1 ?_))
        simp [ByteArray.data_append, Array.toList_append]

theorem laws_szLine_eq (a b c : ByteArray) (ha : a.size ≤ 9223372036854775807) (hb : b.size ≤ 9223372036854775807) (hc : c.size ≤ 9223372036854775807) : ∃ m, laws_szLine.f a b c 1048576 = some m ∧ (m < 0 ∨ (a.size ≤ 1048576 ∧ b.size ≤ 1048576 ∧ c.size ≤ 1048576)) := by
  unfold laws_szLine.f
  have w1 : wrap64 (1048576 - (a.size : Int)) = 1048576 - (a.size : Int) := w64 (by omega) (by omega)
  rw [w1]
  by_cases h1 : 1048576 - (a.size : Int) < 0
  · exact ⟨-1, by rw [if_pos h1], .inl (by omega)⟩
  · rw [if_neg h1]
    have w2 : wrap64 (1048576 - (a.size : Int) - (b.size : Int)) = 1048576 - (a.size : Int) - (b.size : Int) := w64 (by omega) (by omega)
    rw [w2]
    by_cases h2 : 1048576 - (a.size : Int) - (b.size : Int) < 0
    · exact ⟨-1, by rw [if_pos h2], .inl (by omega)⟩
    · rw [if_neg h2]
      have w3 : wrap64 (1048576 - (a.size : Int) - (b.size : Int) - (c.size : Int)) = 1048576 - (a.size : Int) - (b.size : Int) - (c.size : Int) := w64 (by omega) (by omega)
      rw [w3]
      by_cases h3 : 1048576 - (a.size : Int) - (b.size : Int) - (c.size : Int) < 0
      · exact ⟨-1, by rw [if_pos h3], .inl (by omega)⟩
      · exact ⟨_, by rw [if_neg h3], .inr ⟨by omega, by omega, by omega⟩⟩

def lineOkP (a b c : ByteArray) : Bool := (decide (a.data.toList = []) || nameOk a) && (opP b && (argsP c && ((!decide (b.data.toList = []) || decide (c.data.toList = [])) && decide (((lineT a b c).size : Int) ≤ 80))))
theorem spec_LineOk_eq (a b c : ByteArray) (ha : a.size ≤ 1048576) (hb : b.size ≤ 1048576) (hc : c.size ≤ 1048576) {k : Nat} (hk : 3000000 ≤ k) : spec_LineOk.f k a b c = some (lineOkP a b c) := by
  unfold spec_LineOk.f lineOkP
  rw [spec_NameOk_eq a (by omega), spec_l7Op_eq b hb hk, spec_l7Args_eq c hc hk]
  simp only [Option.bind_some, Go.Lib.toList_data]
  by_cases hbc : b.data.toList = [] → c.data.toList = []
  · rw [spec_l7Text_eq a b c ha hb hc hbc (by omega)]
    simp only [Option.bind_some]
    by_cases h0 : a.data.toList = [] <;> by_cases h1 : b.data.toList = [] <;> by_cases h2 : c.data.toList = [] <;> cases nameOk a <;> cases opP b <;> cases argsP c <;> simp_all
  · have h1 : b.data.toList = [] := by
      by_cases h : b.data.toList = []
      · exact h
      · exact absurd (fun e => absurd e h) hbc
    have h2 : ¬ c.data.toList = [] := fun e => hbc fun _ => e
    simp only [if_pos h1, if_neg h2]
    by_cases h0 : a.data.toList = [] <;> cases nameOk a <;> cases opP b <;> cases argsP c <;> simp [h0, h1, h2]

theorem spt_len (c : UInt8) : ∀ l : List UInt8, (spt c l).length ≤ l.length
  | [] => Nat.le_refl _
  | x :: r => by
    have := spt_len c r
    rw [spt]
    split
    · simp only [List.length_cons]; omega
    · simp only [List.length_cons]; omega
theorem split_bytes (s : ByteArray) (c : UInt8) : (Go.Lib.splitB s 0 0 s = Go.Lib.splitB s 0 0 s) ∧ Go.Lib.splitB ⟨#[c]⟩ 0 (Go.Lib.countB s ⟨#[c]⟩) s = (sp c s.data.toList).map fun l => (⟨l.toArray⟩ : ByteArray) := by
  refine ⟨rfl, map_data _ _ ?_⟩
  rw [Go.Lib.splitB_data]
  exact splitK_sp c _ _ rfl
theorem strings_Split_eq (s : ByteArray) (c : UInt8) (hs : s.size ≤ 1048576) : strings_Split.f s ⟨#[c]⟩ = some ((sp c s.data.toList).map fun l => (⟨l.toArray⟩ : ByteArray)) := by
  unfold strings_Split.f
  rw [if_pos (by omega), if_pos (by show 1 ≤ 1; omega), (split_bytes s c).2]
theorem data_mk (xs : List (List UInt8)) : (xs.map fun l => (⟨l.toArray⟩ : ByteArray)).map (·.data.toList) = xs := by
  rw [List.map_map]
  conv => rhs; rw [← List.map_id xs]
  apply List.map_congr_left
  intro x _
  rfl
theorem full_fun : (fun x : List UInt8 => !decide (x = [])) = full := by
  funext x
  cases x <;> simp [full]
theorem count_le (s p : ByteArray) (hp : 1 ≤ p.size) : Go.Lib.countB s p ≤ s.size := Go.Lib.countB_le p hp s.size s (Nat.le_refl _)
theorem size_mk (l : List UInt8) : (⟨l.toArray⟩ : ByteArray).size = l.length := rfl
theorem strings_ReplaceAll_eq (l : List UInt8) (a b : UInt8) (hl : l.length ≤ 1048576) : strings_ReplaceAll.f ⟨l.toArray⟩ ⟨#[a, b]⟩ ⟨#[44]⟩ = some ⟨(rp a b [44] l).toArray⟩ := by
  unfold strings_ReplaceAll.f strings_Replace.f
  have hc := count_le ⟨l.toArray⟩ ⟨#[a, b]⟩ (by show 1 ≤ 2; omega)
  rw [size_mk] at hc
  have hz : (⟨#[44]⟩ : ByteArray).size = 1 := rfl
  rw [if_pos (by rw [size_mk]; omega), if_pos (by show 1 ≤ 2; omega), if_pos (by rw [size_mk, hz]; omega)]
  simp only [Option.bind_some]
  have := replace_rp a b [44] l (by decide)
  exact congrArg (fun z => some (⟨List.toArray z⟩ : ByteArray)) this
theorem impl_tidied_eq (s : ByteArray) (hs : s.size ≤ 1048576) : impl_tidied.f s = some ⟨(tidy s.data.toList).toArray⟩ := by
  have hls := len_list s
  have hn : (sp 32 s.data.toList).length ≤ s.size + 1 := by
    have := spt_len 32 s.data.toList
    rw [sp, List.length_cons]
    omega
  unfold impl_tidied.f
  rw [strings_Split_eq s 32 hs]
  simp only [Option.bind_some]
  unfold slices_DeleteFunc_string_string.f
  rw [data_mk, full_fun, if_pos ⟨by rw [List.length_map, sp, List.length_cons]; omega, by rw [List.length_map]; omega⟩]
  simp only [Option.bind_some]
  unfold strings_Join.f
  have hf := List.length_filter_le full (sp 32 s.data.toList)
  obtain ⟨j1, j2⟩ := join_full_len 32 s.data.toList
  rw [data_mk, if_pos (by rw [List.length_map]; omega)]
  have e32 : (⟨#[32]⟩ : ByteArray).data.toList = [32] := rfl
  rw [e32, if_pos (by omega)]
  simp only [Option.bind_some]
  rw [strings_ReplaceAll_eq _ 32 44 (by omega)]
  simp only [Option.bind_some]
  have r1 := (rp_len (a := 32) (b := 44) (z := 44) (Go.Lib.join ((sp 32 s.data.toList).filter full) [32])).1
  rw [strings_ReplaceAll_eq _ 44 32 (by omega)]
  rfl

theorem impl_areArgs_l0 (s : ByteArray) (hs : s.size ≤ 1048576) : ∀ (n k i : Nat), i + n = s.size → n < k → impl_areArgs.l0 k s (s.size : Int) (i : Int) = some (allB isPl s n i && neat s.data.toList) := by
  intro n
  induction n with
  | zero =>
    intro k i hi hk
    obtain ⟨k, rfl⟩ : ∃ m, k = m + 1 := ⟨k - 1, by omega⟩
    simp only [impl_areArgs.l0]
    rw [if_neg (by omega), impl_tidied_eq s hs]
    simp only [Option.bind_some, allB, Bool.true_and, Option.some.injEq]
    rw [Go.Lib.toList_data, Go.Lib.toList_data]
    show ((tidy s.data.toList) == s.data.toList) = _
    rw [Bool.eq_iff_iff, beq_iff_eq]
    exact tidy_self _
  | succ n ih =>
    intro k i hi hk
    obtain ⟨k, rfl⟩ : ∃ m, k = m + 1 := ⟨k - 1, by omega⟩
    have hn := ih k (i + 1) (by omega) (by omega)
    have hw : wrap64 ((i : Int) + 1) = ((i + 1 : Nat) : Int) := by rw [w64 (by omega) (by omega)]; omega
    simp only [impl_areArgs.l0]
    rw [if_pos (by omega), if_pos (by omega), if_pos (by omega), hw, hn]
    simp only [allB, isPl]
    by_cases h1 : bt s i < 32
    · simp [h1]
    · by_cases h2 : bt s i > 126
      · simp [h1, h2]
      · by_cases h3 : bt s i = 59 <;> simp [h1, h2, h3]
theorem impl_areArgs_eq (s : ByteArray) (hs : s.size ≤ 1048576) {k : Nat} (hk : 3000000 ≤ k) : impl_areArgs.f k s = some (argsP s) := impl_areArgs_l0 s hs s.size k 0 (by omega) (by omega)

theorem impl_isOp_l0 (s : ByteArray) (hs : s.size ≤ 140737488351232) : ∀ (n k i : Nat), i + n = s.size → n < k → impl_isOp.l0 k s 10 (s.size : Int) (i : Int) = some (allB (fun c => inR c 97 122) s n i && decide ((s.size : Int) ≤ 10)) := by
  intro n
  induction n with
  | zero =>
    intro k i hi hk
    obtain ⟨k, rfl⟩ : ∃ m, k = m + 1 := ⟨k - 1, by omega⟩
    simp only [impl_isOp.l0]
    rw [if_neg (by omega)]
    rfl
  | succ n ih =>
    intro k i hi hk
    obtain ⟨k, rfl⟩ : ∃ m, k = m + 1 := ⟨k - 1, by omega⟩
    have hn := ih k (i + 1) (by omega) (by omega)
    have hw : wrap64 ((i : Int) + 1) = ((i + 1 : Nat) : Int) := by rw [w64 (by omega) (by omega)]; omega
    simp only [impl_isOp.l0]
    rw [if_pos (by omega), if_pos (by omega), if_pos (by omega), impl_isSmall_eq, hw, hn]
    simp only [Option.bind_some, allB]
    cases inR (bt s i) 97 122 <;> simp
theorem impl_isOp_eq (s : ByteArray) (hs : s.size ≤ 1048576) {k : Nat} (hk : 3000000 ≤ k) : impl_isOp.f k s 10 = some (opP s) := impl_isOp_l0 s (by omega) s.size k 0 (by omega) (by omega)

theorem join_small (xs : List (List UInt8)) (m : Nat) (h : (Go.Lib.join xs [32]).length ≤ m) (hm : m ≤ 140737488355328) (hx : xs.length ≤ 3) : strings_Join.f (xs.map fun l => (⟨l.toArray⟩ : ByteArray)) ⟨#[32]⟩ = some ⟨(Go.Lib.join xs [32]).toArray⟩ := by
  unfold strings_Join.f
  have e32 : (⟨#[32]⟩ : ByteArray).data.toList = [32] := rfl
  have hd : (xs.map fun l => (⟨l.toArray⟩ : ByteArray)).map (·.data.toList) = xs := data_mk xs
  rw [hd, e32, if_pos (by rw [List.length_map]; omega), if_pos (by omega)]
theorem lineT_len (a b c : ByteArray) (ha : a.size ≤ 1048576) (hb : b.size ≤ 1048576) (hc : c.size ≤ 1048576) : (Go.Lib.join (lineParts a b c) [32]).length ≤ 4000000 := by
  have la := len_list a; have lb := len_list b; have lc := len_list c
  unfold lineParts
  by_cases h0 : a.data.toList = [] <;> by_cases h1 : b.data.toList = [] <;> by_cases h2 : c.data.toList = [] <;> simp only [h0, h1, h2, if_true, if_false, List.nil_append, List.append_nil, List.cons_append, join3, join2, Go.Lib.join_one, Go.Lib.join_nil, List.length_append, List.length_cons, List.length_nil] <;> omega
theorem impl_lineText_eq (a b c : ByteArray) (ha : a.size ≤ 1048576) (hb : b.size ≤ 1048576) (hc : c.size ≤ 1048576) {k : Nat} (hk : 2 ≤ k) : impl_lineText.f k a b c = some (lineT a b c) := by
  obtain ⟨k, rfl⟩ : ∃ m, k = m + 1 := ⟨k - 1, by omega⟩
  have hl := lineT_len a b c ha hb hc
  unfold impl_lineText.f lineT
  have hj := join_small (lineParts a b c) 4000000 hl (by decide) (by unfold lineParts; split <;> split <;> split <;> simp)
  refine Eq.trans ?_ hj
  unfold lineParts
  simp only [impl_lineText.j0, Go.Lib.toList_data, Option.bind_some, List.length_nil]
  have am : (⟨(a.data.toList ++ [58]).toArray⟩ : ByteArray) = a ++ ⟨#[58]⟩ := by
    refine ByteArray.ext (Array.toList_inj.1 ?_)
    simp [ByteArray.data_append, Array.toList_append]
  have hb0 : ∀ o : Option ByteArray, (o.bind fun t => some t) = o := fun o => by cases o <;> rfl
  simp only [hb0]
  by_cases h0 : a.data.toList = []
  · rw [if_pos h0, if_pos h0]
    by_cases h1 : b.data.toList = []
    · rw [if_pos h1, if_pos h1]
      by_cases h2 : c.data.toList = []
      · rw [if_pos h2, if_pos h2]
        rfl
      · rw [if_neg h2, if_neg h2, if_pos (by omega)]
        rfl
    · rw [if_neg h1, if_neg h1, if_pos (by omega)]
      by_cases h2 : c.data.toList = []
      · rw [if_pos h2, if_pos h2]
        rfl
      · rw [if_neg h2, if_neg h2, if_pos (by simp)]
        rfl
  · rw [if_neg h0, if_neg h0, if_pos (by omega), if_pos (by omega)]
    by_cases h1 : b.data.toList = []
    · rw [if_pos h1, if_pos h1]
      by_cases h2 : c.data.toList = []
      · rw [if_pos h2, if_pos h2]
        simp only [List.nil_append, List.append_nil, List.map_cons, List.map_nil, am]
      · rw [if_neg h2, if_neg h2, if_pos (by simp)]
        simp only [List.nil_append, List.append_nil, List.map_cons, List.map_nil, List.cons_append, am]
    · rw [if_neg h1, if_neg h1, if_pos (by simp)]
      by_cases h2 : c.data.toList = []
      · rw [if_pos h2, if_pos h2]
        simp only [List.nil_append, List.append_nil, List.map_cons, List.map_nil, List.cons_append, am]
      · rw [if_neg h2, if_neg h2, if_pos (by simp)]
        simp only [List.nil_append, List.append_nil, List.map_cons, List.map_nil, List.cons_append, am]

theorem lineT_ge (a b c : ByteArray) (hb : ¬ b.data.toList = []) : c.size ≤ (lineT a b c).size := by
  have lc : c.data.toList.length = c.size := len_list c
  by_cases h2 : c.data.toList = []
  · have h0 : c.size = 0 := by
      rw [h2] at lc
      simpa using lc.symm
    omega
  · unfold lineT lineParts
    by_cases h0 : a.data.toList = [] <;> simp only [size_mk, h0, hb, h2, if_true, if_false, List.nil_append, List.cons_append, join3, join2, List.length_append, List.length_cons, List.length_nil, lc] <;> omega
theorem impl_LineOk_eq (a b c : ByteArray) (ha : a.size ≤ 1048576) (hb : b.size ≤ 1048576) (hc : c.size ≤ 1048576) {k : Nat} (hk : 3000000 ≤ k) : impl_LineOk.f k a b c = some (lineOkP a b c) := by
  unfold impl_LineOk.f lineOkP
  rw [impl_NameOk_eq a (by omega), impl_isOp_eq b hb hk, impl_areArgs_eq c hc hk, impl_lineText_eq a b c ha hb hc (by omega)]
  simp only [Option.bind_some, Go.Lib.toList_data]
  by_cases h80 : (c.size : Int) > 80
  · simp only [if_pos h80]
    have hz : ((!decide (b.data.toList = []) || decide (c.data.toList = [])) && decide (((lineT a b c).size : Int) ≤ 80)) = false := by
      by_cases h1 : b.data.toList = []
      · have h2 : ¬ c.data.toList = [] := by
          intro e
          have := len_list c
          rw [e] at this
          simp at this
          omega
        simp [h1, h2]
      · have := lineT_ge a b c h1
        have hd : decide (((lineT a b c).size : Int) ≤ 80) = false := by simp; omega
        rw [hd, Bool.and_false]
    rw [hz]
    by_cases h0 : a.data.toList = [] <;> cases nameOk a <;> cases opP b <;> cases argsP c <;> simp [h0]
  · simp only [if_neg h80]
    by_cases h0 : a.data.toList = [] <;> by_cases h1 : b.data.toList = [] <;> by_cases h2 : c.data.toList = [] <;> cases nameOk a <;> cases opP b <;> cases argsP c <;> simp [h0, h1, h2]

theorem index_one_at (c : UInt8) (a b : List UInt8) (h : c ∉ a) : Go.Lib.index (a ++ c :: b) [c] = (a.length : Nat) := by
  rcases cut_at c (a ++ c :: b) with ⟨_, hn⟩ | ⟨a', b', e, hn, hi⟩
  · exact absurd (by simp) hn
  · have h1 := (sp_hit (b := b) h).1
    have h2 := (sp_hit (b := b') hn).1
    rw [e, h2] at h1
    rw [hi, h1]
/-- A text cut at the first byte c. -/
def cutP (s : ByteArray) (c : UInt8) : ByteArray × ByteArray × Bool := (⟨(Go.Lib.cut s.data.toList [c]).1.toArray⟩, ⟨(Go.Lib.cut s.data.toList [c]).2.1.toArray⟩, (Go.Lib.cut s.data.toList [c]).2.2)
theorem cut_miss (c : UInt8) (l : List UInt8) (h : c ∉ l) : Go.Lib.cut l [c] = (l, [], false) := by
  rcases cut_at c l with ⟨hi, _⟩ | ⟨a, b, e, _, _⟩
  · unfold Go.Lib.cut
    rw [hi, if_neg (by decide)]
  · rw [e] at h
    exact absurd (by simp) h
theorem cut_hit (c : UInt8) (a b : List UInt8) (h : c ∉ a) : Go.Lib.cut (a ++ c :: b) [c] = (a, b, true) := by
  unfold Go.Lib.cut
  rw [index_one_at c a b h, if_pos (by omega), Int.toNat_natCast]
  simp
theorem ext_list (s : ByteArray) (i : Nat) : (s.extract 0 i).data.toList = s.data.toList.take i ∧ (s.extract i s.size).data.toList = s.data.toList.drop i := ⟨Go.Lib.extract_from_zero s i, by
  rw [ByteArray.data_extract, Array.toList_extract, List.extract]
  exact List.take_of_length_le (by rw [List.length_drop, len_list]; exact Nat.le_refl _)⟩
theorem ba_list {s : ByteArray} {l : List UInt8} (h : s.data.toList = l) : s = ⟨l.toArray⟩ := by
  rw [← h]
theorem spec_l1Cut_l0 (s : ByteArray) (hs : s.size ≤ 140737488351232) (c : UInt8) : ∀ (n k i : Nat), i + n = s.size → n < k → c ∉ s.data.toList.take i → spec_l1Cut.l0 k s (c.toNat : Int) (i : Int) = some (cutP s c) := by
  intro n
  induction n with
  | zero =>
    intro k i hi hk hc
    obtain ⟨k, rfl⟩ : ∃ m, k = m + 1 := ⟨k - 1, by omega⟩
    simp only [spec_l1Cut.l0]
    rw [List.take_of_length_le (by rw [len_list]; omega)] at hc
    rw [if_neg (by omega)]
    unfold cutP
    rw [cut_miss c _ hc]
  | succ n ih =>
    intro k i hi hk hc
    obtain ⟨k, rfl⟩ : ∃ m, k = m + 1 := ⟨k - 1, by omega⟩
    have hw : wrap64 ((i : Int) + 1) = ((i + 1 : Nat) : Int) := by rw [w64 (by omega) (by omega)]; omega
    obtain ⟨x, hx, bx⟩ := bt_drop s i (by omega)
    have ht : s.data.toList.take (i + 1) = s.data.toList.take i ++ [x] := by
      have h2 : s.data.toList[i]? = some x := by
        have := congrArg List.head? hx
        simpa [List.head?_drop] using this
      rw [List.take_add_one, h2]
      rfl
    simp only [spec_l1Cut.l0]
    rw [if_pos (by omega), if_pos (by omega), hw, bx]
    by_cases h : x = c
    · subst h
      have hl : s.data.toList = s.data.toList.take i ++ x :: s.data.toList.drop (i + 1) := by
        rw [← hx]
        exact (List.take_append_drop i _).symm
      have hcut : Go.Lib.cut s.data.toList [x] = (s.data.toList.take i, s.data.toList.drop (i + 1), true) := by
        conv => lhs; rw [hl]
        exact cut_hit x _ _ hc
      rw [if_pos rfl, if_pos (by omega), if_pos (by omega), if_pos (by omega)]
      unfold cutP
      rw [hcut, Int.toNat_natCast, Int.toNat_natCast, ba_list (ext_list s i).1, ba_list (ext_list s (i + 1)).2]
    · have hne : ¬ ((x.toNat : Int) = (c.toNat : Int)) := by
        intro e
        exact h (UInt8.toNat_inj.1 (by omega))
      rw [if_neg hne]
      refine ih k (i + 1) (by omega) (by omega) ?_
      rw [ht]
      simp only [List.mem_append, List.mem_singleton, not_or]
      exact ⟨hc, fun e => h e.symm⟩
theorem spec_l1Cut_eq (s : ByteArray) (hs : s.size ≤ 140737488351232) (c : UInt8) {k : Nat} (hk : s.size < k) : spec_l1Cut.f k s (c.toNat : Int) = some (cutP s c) := spec_l1Cut_l0 s hs c s.size k 0 (by omega) hk (by simp)
theorem cutP_size (s : ByteArray) (c : UInt8) : (cutP s c).1.size ≤ s.size ∧ (cutP s c).2.1.size ≤ s.size ∧ ((cutP s c).2.2 = true → (cutP s c).2.1.size < s.size) := by
  have hl := len_list s
  unfold cutP
  rcases cut_at c s.data.toList with ⟨_, hn⟩ | ⟨a, b, e, hn, _⟩
  · rw [cut_miss c _ hn]
    exact ⟨Nat.le_of_eq hl, Nat.zero_le _, fun h => by cases h⟩
  · have hlen := congrArg List.length e
    rw [e, cut_hit c a b hn]
    simp only [List.length_append, List.length_cons] at hlen
    refine ⟨?_, ?_, fun _ => ?_⟩
    · show a.length ≤ _
      omega
    · show b.length ≤ _
      omega
    · show b.length < _
      omega

theorem trR_snoc (c : UInt8) : ∀ l, trR c (l ++ [c]) = trR c l
  | [] => by simp [trR]
  | y :: r => by
    rw [List.cons_append, trR, trR, trR_snoc c r]
theorem trR_len (c : UInt8) : ∀ l, (trR c l).length ≤ l.length
  | [] => Nat.le_refl _
  | y :: r => by
    have := trR_len c r
    rw [trR]
    split
    · simp
    · simp only [List.length_cons]; omega
theorem bt_last (s : ByteArray) (h : 0 < s.size) : ∃ x : UInt8, s.data.toList = s.data.toList.take (s.size - 1) ++ [x] ∧ bt s ((s.size - 1 : Nat) : Int) = (x.toNat : Int) := by
  obtain ⟨x, h1, h2⟩ := bt_drop s (s.size - 1) (by omega)
  rw [drop_end s (s.size - 1 + 1) (by omega)] at h1
  refine ⟨x, ?_, h2⟩
  conv => lhs; rw [← List.take_append_drop (s.size - 1) s.data.toList, h1]
theorem spec_l7Trim_l1 : ∀ (n k : Nat) (s : ByteArray), s.size = n → s.size ≤ 140737488351232 → n < k → spec_l7Trim.l1 k s = some ⟨(trR 32 s.data.toList).toArray⟩ := by
  intro n
  induction n with
  | zero =>
    intro k s hn hs hk
    obtain ⟨k, rfl⟩ : ∃ m, k = m + 1 := ⟨k - 1, by omega⟩
    have h0 : s.data.toList = [] := List.length_eq_zero_iff.1 (by rw [len_list]; exact hn)
    simp only [spec_l7Trim.l1, Go.Lib.toList_data]
    rw [if_pos h0, h0, ba_list h0]
    rfl
  | succ n ih =>
    intro k s hn hs hk
    obtain ⟨k, rfl⟩ : ∃ m, k = m + 1 := ⟨k - 1, by omega⟩
    have h0 : ¬ s.data.toList = [] := by
      intro e
      have := len_list s
      rw [e] at this
      simp at this
      omega
    have hw : wrap64 ((s.size : Int) - 1) = ((s.size - 1 : Nat) : Int) := by rw [w64 (by omega) (by omega)]; omega
    obtain ⟨x, hx, bx⟩ := bt_last s (by omega)
    simp only [spec_l7Trim.l1, Go.Lib.toList_data]
    rw [if_neg h0, hw, if_pos (by omega), if_pos (by omega), bx]
    by_cases h : x = 32
    · subst h
      have hz : (s.extract 0 (s.size - 1)).size = n := by rw [ByteArray.size_extract]; omega
      rw [if_pos (show ((UInt8.toNat 32 : Nat) : Int) = 32 from rfl), if_pos (by omega), Int.toNat_natCast, ih k _ hz (by omega) (by omega), (Go.Lib.extract_from_zero s (s.size - 1))]
      conv => rhs; rw [hx, trR_snoc]
    · have hne : ¬ ((x.toNat : Int) = 32) := fun e => h ((nat_eq x 32 (by decide)).1 e)
      rw [if_neg hne]
      have ht : trR 32 s.data.toList = s.data.toList := by
        rw [hx]
        exact trR_end h _
      rw [ht]
theorem spec_l7Trim_l0 : ∀ (n k : Nat) (s : ByteArray), s.size = n → s.size ≤ 140737488351232 → 2 * n + 3 < k → spec_l7Trim.l0 k s = some ⟨(trR 32 (s.data.toList.dropWhile (· == 32))).toArray⟩ := by
  intro n
  induction n with
  | zero =>
    intro k s hn hs hk
    obtain ⟨k, rfl⟩ : ∃ m, k = m + 2 := ⟨k - 2, by omega⟩
    have h0 : s.data.toList = [] := List.length_eq_zero_iff.1 (by rw [len_list]; exact hn)
    simp only [spec_l7Trim.l0, spec_l7Trim.j1, Go.Lib.toList_data]
    rw [if_pos h0, spec_l7Trim_l1 0 k s hn hs (by omega), h0]
    rfl
  | succ n ih =>
    intro k s hn hs hk
    obtain ⟨k, rfl⟩ : ∃ m, k = m + 2 := ⟨k - 2, by omega⟩
    have h0 : ¬ s.data.toList = [] := by
      intro e
      have := len_list s
      rw [e] at this
      simp at this
      omega
    obtain ⟨x, hx, bx⟩ := bt_drop s 0 (by omega)
    rw [List.drop_zero] at hx
    have bx' : bt s 0 = (x.toNat : Int) := bx
    rw [spec_l7Trim.l0]
    simp only [Go.Lib.toList_data]
    rw [if_neg h0, if_pos (by omega), bx']
    by_cases h : x = 32
    · subst h
      have hz : (s.extract 1 s.size).size = n := by rw [ByteArray.size_extract]; omega
      have hd : (s.extract 1 s.size).data.toList = s.data.toList.drop 1 := by
        rw [ByteArray.data_extract, Array.toList_extract, List.extract]
        exact List.take_of_length_le (by rw [List.length_drop, len_list]; exact Nat.le_refl _)
      rw [if_pos (show ((UInt8.toNat 32 : Nat) : Int) = 32 from rfl), if_pos (by omega), ih (k + 1) _ hz (by omega) (by omega), hd]
      conv => rhs; rw [hx]
      simp [List.dropWhile]
    · have hne : ¬ ((x.toNat : Int) = 32) := fun e => h ((nat_eq x 32 (by decide)).1 e)
      rw [if_neg hne, spec_l7Trim.j1, spec_l7Trim_l1 (n + 1) k s hn hs (by omega)]
      have hb : (x == 32) = false := by simp [h]
      have hd : s.data.toList.dropWhile (· == 32) = s.data.toList := by
        rw [hx]
        simp [List.dropWhile, hb]
      rw [hd]
/-- A text without blanks at its ends. -/
def trimP (s : ByteArray) : ByteArray := ⟨(Go.Lib.trimB s.data.toList 32).toArray⟩
theorem spec_l7Trim_eq (s : ByteArray) (hs : s.size ≤ 1048576) {k : Nat} (hk : 2 * s.size + 3 < k) : spec_l7Trim.f k s = some (trimP s) := by
  unfold spec_l7Trim.f trimP
  rw [trim_two]
  exact spec_l7Trim_l0 s.size k s rfl (by omega) hk
theorem trimP_size (s : ByteArray) : (trimP s).size ≤ s.size := by
  have h1 := trR_len 32 (s.data.toList.dropWhile (· == 32))
  have h2 : (s.data.toList.dropWhile (· == 32)).length ≤ s.data.toList.length := List.IsSuffix.length_le (List.dropWhile_suffix _)
  rw [len_list] at h2
  unfold trimP
  rw [trim_two]
  show (trR 32 _).length ≤ _
  omega

theorem ext_one (s : ByteArray) (i : Nat) (x : UInt8) (t : List UInt8) (h : s.data.toList.drop i = x :: t) : (s.extract i (i + 1)).data.toList = [x] := by
  rw [ByteArray.data_extract, Array.toList_extract, List.extract, h]
  simp
theorem slim1_blank (h : UInt8) (t : List UInt8) : slim1 (h :: t) 32 = if h = 32 ∨ h = 44 then h :: t else 32 :: h :: t := rfl
theorem slim1_comma (h : UInt8) (t : List UInt8) : slim1 (h :: t) 44 = if h = 32 then 44 :: t else 44 :: h :: t := rfl
theorem slim1_other {x : UInt8} (acc : List UInt8) (h1 : x ≠ 32) (h4 : x ≠ 44) : slim1 acc x = x :: acc := by simp [slim1, h1, h4]
theorem spec_l7Slim_l0 (s : ByteArray) (hs : s.size ≤ 1048576) : ∀ (n k i : Nat) (o : ByteArray), i + n = s.size → o.size ≤ i → 2 * n + 2 * s.size + 10 < k → spec_l7Slim.l0 k s o (i : Int) = some ⟨(trR 32 ((slimR o.data.toList.reverse (s.data.toList.drop i)).reverse.dropWhile (· == 32))).toArray⟩ := by
  intro n
  induction n with
  | zero =>
    intro k i o hi ho hk
    obtain ⟨k, rfl⟩ : ∃ m, k = m + 1 := ⟨k - 1, by omega⟩
    simp only [spec_l7Slim.l0]
    rw [if_neg (by omega), spec_l7Trim.f, spec_l7Trim_l0 o.size k o rfl (by omega) (by omega), drop_end s i (by omega), slimR, List.reverse_reverse]
    rfl
  | succ n ih =>
    intro k i o hi ho hk
    obtain ⟨k, rfl⟩ : ∃ m, k = m + 2 := ⟨k - 2, by omega⟩
    have hw : wrap64 ((i : Int) + 1) = ((i + 1 : Nat) : Int) := by rw [w64 (by omega) (by omega)]; omega
    obtain ⟨x, hx, bx⟩ := bt_drop s i (by omega)
    have he := ext_one s i x _ hx
    have hez : (s.extract i (i + 1)).size = 1 := by rw [ByteArray.size_extract]; omega
    -- the byte is put
    have put : ∀ (o' : ByteArray), o'.size ≤ i → spec_l7Slim.l0 k s (o' ++ s.extract i (i + 1)) ((i + 1 : Nat) : Int) = some ⟨(trR 32 ((slimR (x :: o'.data.toList.reverse) (s.data.toList.drop (i + 1))).reverse.dropWhile (· == 32))).toArray⟩ := by
      intro o' ho'
      rw [ih k (i + 1) _ (by omega) (by rw [ByteArray.size_append, hez]; omega) (by omega), ByteArray.data_append, Array.toList_append, he, List.reverse_append]
      rfl
    have e1 : ((x.toNat : Int) = 32) ↔ x = 32 := nat_eq x 32 (by decide)
    have e2 : ((x.toNat : Int) = 44) ↔ x = 44 := nat_eq x 44 (by decide)
    rw [hx, slimR, spec_l7Slim.l0]
    rw [if_pos (by omega), if_pos (by omega), bx]
    have skip : ∀ (z : Int), spec_l7Slim.j1 (k + 1) s o (i : Int) z true = spec_l7Slim.l0 k s o ((i + 1 : Nat) : Int) := by
      intro z
      simp only [spec_l7Slim.j1, if_true, hw]
    -- the byte is put behind all
    have app : ∀ (z : Int), (¬ x = 44 ∨ ¬ z > 0) → spec_l7Slim.j1 (k + 1) s o (i : Int) z false = some ⟨(trR 32 ((slimR (x :: o.data.toList.reverse) (s.data.toList.drop (i + 1))).reverse.dropWhile (· == 32))).toArray⟩ := by
      intro z hz
      simp only [spec_l7Slim.j1, if_neg Bool.false_ne_true]
      rw [if_pos (by omega), if_pos (by omega), bx, hw, Int.toNat_natCast, Int.toNat_natCast]
      have p1 : (i : Int) ≤ ((i + 1 : Nat) : Int) := by omega
      have p2 : ((i + 1 : Nat) : Int) ≤ (s.size : Int) := by omega
      have p3 : o.size + (s.extract i (i + 1)).size ≤ 9223372036854775807 := by omega
      by_cases h4 : x = 44
      · rw [if_pos (e2.2 h4), if_neg (hz.resolve_left (fun e => e h4)), if_pos p1, if_pos p2, if_pos p3]
        exact put o ho
      · rw [if_neg (fun e => h4 (e2.1 e)), if_pos p1, if_pos p2, if_pos p3]
        exact put o ho
    by_cases hp : 0 < o.size
    · have hwo : wrap64 ((o.size : Int) - 1) = ((o.size - 1 : Nat) : Int) := by rw [w64 (by omega) (by omega)]; omega
      obtain ⟨y, hy, bY⟩ := bt_last o hp
      have hr : o.data.toList.reverse = y :: (o.data.toList.take (o.size - 1)).reverse := by
        conv => lhs; rw [hy]
        simp
      have f1 : ((y.toNat : Int) = 32) ↔ y = 32 := nat_eq y 32 (by decide)
      have f2 : ((y.toNat : Int) = 44) ↔ y = 44 := nat_eq y 44 (by decide)
      by_cases h1 : x = 32
      · subst h1
        rw [if_pos (e1.2 rfl), if_pos (by omega), hwo, if_pos (by omega), if_pos (by omega), bY, hr, slim1_blank]
        by_cases g1 : y = 32
        · rw [if_pos (f1.2 g1), if_pos (.inl g1), skip, ih k (i + 1) o (by omega) (by omega) (by omega), hr]
        · rw [if_neg (fun e => g1 (f1.1 e))]
          by_cases g2 : y = 44
          · have hq : ((y.toNat : Int) == 44) = true := by rw [beq_iff_eq]; exact f2.2 g2
            rw [hq, if_pos (.inr g2), skip, ih k (i + 1) o (by omega) (by omega) (by omega), hr]
          · have hq : ((y.toNat : Int) == 44) = false := by rw [beq_eq_false_iff_ne]; exact fun e => g2 (f2.1 e)
            rw [hq, if_neg (by rintro (e | e); exact g1 e; exact g2 e), app _ (.inl (by decide)), hr]
      · rw [if_neg (fun e => h1 (e1.1 e))]
        by_cases h4 : x = 44
        · subst h4
          simp only [spec_l7Slim.j1, if_neg Bool.false_ne_true]
          rw [if_pos (by omega), if_pos (by omega), bx, if_pos (show ((UInt8.toNat 44 : Nat) : Int) = 44 from rfl), if_pos (by omega), hwo, if_pos (by omega), if_pos (by omega), bY, hw, Int.toNat_natCast, Int.toNat_natCast, Int.toNat_natCast, hr, slim1_comma]
          have p1 : (i : Int) ≤ ((i + 1 : Nat) : Int) := by omega
          have p2 : ((i + 1 : Nat) : Int) ≤ (s.size : Int) := by omega
          by_cases g1 : y = 32
          · have hz : (o.extract 0 (o.size - 1)).size = o.size - 1 := by rw [ByteArray.size_extract]; omega
            have p3 : (o.extract 0 (o.size - 1)).size + (s.extract i (i + 1)).size ≤ 9223372036854775807 := by omega
            rw [if_pos (f1.2 g1), if_pos g1, if_pos (by omega), if_pos p1, if_pos p2, if_pos p3, put _ (by omega), Go.Lib.extract_from_zero]
          · have p3 : o.size + (s.extract i (i + 1)).size ≤ 9223372036854775807 := by omega
            rw [if_neg (fun e => g1 (f1.1 e)), if_neg g1, if_pos p1, if_pos p2, if_pos p3, put o ho, hr]
        · rw [app _ (.inl h4), slim1_other _ h1 h4]
    · have h0 : o.data.toList = [] := List.length_eq_zero_iff.1 (by rw [len_list]; omega)
      by_cases h1 : x = 32
      · rw [if_pos (e1.2 h1), if_neg (by omega), app _ (.inr (by omega)), h0, h1]
        rfl
      · rw [if_neg (fun e => h1 (e1.1 e)), app _ (.inr (by omega)), h0]
        by_cases h4 : x = 44
        · rw [h4]
          rfl
        · rw [slim1_other _ h1 h4]
theorem spec_l7Slim_eq (s : ByteArray) (hs : s.size ≤ 1048576) {k : Nat} (hk : 4 * s.size + 10 < k) : spec_l7Slim.f k s = some ⟨(tidy s.data.toList).toArray⟩ := by
  unfold spec_l7Slim.f
  have h := spec_l7Slim_l0 s hs s.size k 0 ⟨#[]⟩ (by omega) (by show 0 ≤ 0; omega) (by omega)
  rw [← slim_tidy]
  exact h

theorem impl_trimmed_eq (s : ByteArray) (hs : s.size ≤ 1048576) : impl_trimmed.f s = some (trimP s) := by
  unfold impl_trimmed.f strings_Trim.f
  rw [if_pos (by omega)]
  rfl

theorem strings_Cut_eq (s : ByteArray) (c : UInt8) (hs : s.size ≤ 1048576) : strings_Cut.f s ⟨#[c]⟩ = some (cutP s c) := by
  unfold strings_Cut.f
  rw [if_pos (by omega)]
  rfl
/-- The line that a text is, its label read. -/
def lineRest (x a : ByteArray) : ByteArray × ByteArray × ByteArray × Bool :=
  if lineOkP a (cutP x 32).1 ⟨(tidy (cutP x 32).2.1.data.toList).toArray⟩ = true then (a, (cutP x 32).1, ⟨(tidy (cutP x 32).2.1.data.toList).toArray⟩, true) else (⟨#[]⟩, ⟨#[]⟩, ⟨#[]⟩, false)
theorem tidy_size (s : ByteArray) : (⟨(tidy s.data.toList).toArray⟩ : ByteArray).size ≤ s.size := by
  have := tidy_len s.data.toList
  rw [len_list] at this
  exact this
theorem spec_ReadLine_j1 (x a p q : ByteArray) (hx : x.size ≤ 240) (ha : a.size ≤ 240) {k : Nat} (hk : 3000000 ≤ k) : spec_ReadLine.j1 (k + 1) x a p q = some (lineRest x a) := by
  have hc := cutP_size x 32
  have ht := tidy_size (cutP x 32).2.1
  have h32 : spec_l1Cut.f k x 32 = some (cutP x 32) := spec_l1Cut_eq x (by omega) 32 (by omega)
  unfold lineRest
  simp only [spec_ReadLine.j1]
  rw [h32]
  simp only [Option.bind_some]
  rw [spec_l7Slim_eq _ (by omega) (by omega)]
  simp only [Option.bind_some]
  rw [spec_LineOk_eq _ _ _ (by omega) (by omega) (by omega) hk]
  simp only [Option.bind_some]
  split <;> rfl
theorem impl_ReadLine_j1 (x a p q : ByteArray) (hx : x.size ≤ 240) (ha : a.size ≤ 240) {k : Nat} (hk : 3000000 ≤ k) : impl_ReadLine.j1 (k + 1) x a p q = some (lineRest x a) := by
  have hc := cutP_size x 32
  have ht := tidy_size (cutP x 32).2.1
  unfold lineRest
  simp only [impl_ReadLine.j1]
  rw [strings_Cut_eq x 32 (by omega)]
  simp only [Option.bind_some]
  rw [impl_tidied_eq _ (by omega)]
  simp only [Option.bind_some]
  rw [impl_LineOk_eq _ _ _ (by omega) (by omega) (by omega) hk]
  simp only [Option.bind_some]
  split <;> rfl
/-- The line that a text is. -/
def readLineP (s : ByteArray) : ByteArray × ByteArray × ByteArray × Bool :=
  if (s.size : Int) > 240 then (⟨#[]⟩, ⟨#[]⟩, ⟨#[]⟩, false)
  else (let y := trimP (cutP s 59).1; if (cutP y 58).2.2 = true ∧ nameOk (trimP (cutP y 58).1) = true then lineRest (trimP (cutP y 58).2.1) (trimP (cutP y 58).1) else lineRest y ⟨#[]⟩)
theorem spec_ReadLine_eq (s : ByteArray) {k : Nat} (hk : 4000000 ≤ k) : spec_ReadLine.f k s = some (readLineP s) := by
  unfold spec_ReadLine.f readLineP
  by_cases h : (s.size : Int) > 240
  · rw [if_pos h, if_pos h]
  · have hc := cutP_size s 59
    have ht := trimP_size (cutP s 59).1
    have h59 : spec_l1Cut.f k s 59 = some (cutP s 59) := spec_l1Cut_eq s (by omega) 59 (by omega)
    rw [if_neg h, if_neg h, h59]
    simp only [Option.bind_some]
    rw [spec_l7Trim_eq _ (by omega) (by omega)]
    simp only [Option.bind_some]
    generalize trimP (cutP s 59).1 = y at ht
    have hc2 := cutP_size y 58
    have h58 : spec_l1Cut.f k y 58 = some (cutP y 58) := spec_l1Cut_eq y (by omega) 58 (by omega)
    have t1 := trimP_size (cutP y 58).1
    have t2 := trimP_size (cutP y 58).2.1
    rw [h58]
    simp only [Option.bind_some]
    obtain ⟨k, rfl⟩ : ∃ m, k = m + 2 := ⟨k - 2, by omega⟩
    have h0 : (⟨#[]⟩ : ByteArray).size ≤ 240 := by show 0 ≤ 240; omega
    by_cases hb : (cutP y 58).2.2 = true
    · rw [if_pos hb, spec_l7Trim_eq _ (by omega) (by omega)]
      simp only [Option.bind_some]
      rw [spec_NameOk_eq _ (by omega)]
      simp only [Option.bind_some, spec_ReadLine.j0]
      cases hn : nameOk (trimP (cutP y 58).1) with
      | true =>
        rw [if_pos rfl, if_pos ⟨hb, rfl⟩, spec_l7Trim_eq _ (by omega) (by omega)]
        simp only [Option.bind_some]
        rw [spec_l7Trim_eq _ (by omega) (by omega)]
        simp only [Option.bind_some]
        exact spec_ReadLine_j1 _ _ _ _ (by omega) (by omega) (by omega)
      | false =>
        rw [if_neg (by decide), if_neg (fun e => by cases e.2)]
        exact spec_ReadLine_j1 _ _ _ _ (by omega) h0 (by omega)
    · rw [if_neg hb, if_neg (fun e => hb e.1)]
      simp only [spec_ReadLine.j0]
      rw [if_neg (by decide)]
      exact spec_ReadLine_j1 _ _ _ _ (by omega) h0 (by omega)
theorem impl_ReadLine_eq (s : ByteArray) {k : Nat} (hk : 4000000 ≤ k) : impl_ReadLine.f k s = some (readLineP s) := by
  unfold impl_ReadLine.f readLineP
  by_cases h : (s.size : Int) > 240
  · rw [if_pos h, if_pos h]
  · have hc := cutP_size s 59
    have ht := trimP_size (cutP s 59).1
    rw [if_neg h, if_neg h, strings_Cut_eq s 59 (by omega)]
    simp only [Option.bind_some]
    rw [impl_trimmed_eq _ (by omega)]
    simp only [Option.bind_some]
    generalize trimP (cutP s 59).1 = y at ht
    have hc2 := cutP_size y 58
    have t1 := trimP_size (cutP y 58).1
    have t2 := trimP_size (cutP y 58).2.1
    rw [strings_Cut_eq y 58 (by omega)]
    simp only [Option.bind_some]
    obtain ⟨k, rfl⟩ : ∃ m, k = m + 2 := ⟨k - 2, by omega⟩
    have h0 : (⟨#[]⟩ : ByteArray).size ≤ 240 := by show 0 ≤ 240; omega
    by_cases hb : (cutP y 58).2.2 = true
    · rw [if_pos hb, impl_trimmed_eq _ (by omega)]
      simp only [Option.bind_some]
      rw [impl_NameOk_eq _ (by omega)]
      simp only [Option.bind_some, impl_ReadLine.j0]
      cases hn : nameOk (trimP (cutP y 58).1) with
      | true =>
        rw [if_pos rfl, if_pos ⟨hb, rfl⟩, impl_trimmed_eq _ (by omega)]
        simp only [Option.bind_some]
        rw [impl_trimmed_eq _ (by omega)]
        simp only [Option.bind_some]
        exact impl_ReadLine_j1 _ _ _ _ (by omega) (by omega) (by omega)
      | false =>
        rw [if_neg (by decide), if_neg (fun e => by cases e.2)]
        exact impl_ReadLine_j1 _ _ _ _ (by omega) h0 (by omega)
    · rw [if_neg hb, if_neg (fun e => hb e.1)]
      simp only [impl_ReadLine.j0]
      rw [if_neg (by decide)]
      exact impl_ReadLine_j1 _ _ _ _ (by omega) h0 (by omega)

theorem FnExactReadLine (a : ByteArray) (ha : a.size ≤ maxLen) : ∃ k, laws_FnExactReadLine.f k a = some true := by
  refine ⟨4000000, ?_⟩
  unfold laws_FnExactReadLine.f
  rw [spec_ReadLine_eq a (Nat.le_refl _), impl_ReadLine_eq a (Nat.le_refl _)]
  simp only [Option.bind_some, laws_eqLine.f, if_true]
  split <;> simp

end Go.Proofs.YtffmpmgnkhlmdaaDoor.Pure
