/-
A text's bytes, from a place on, as a list; plain texts; with no program in sight.
-/
import Derived.Test.YtffmpmgnkhlmdaaDoorAidK
namespace Go.Proofs.YtffmpmgnkhlmdaaDoor.Aid
open Go.RowKit Go.Proofs.YtffmpmgnkhlmdaaDoorW.PrintWords
set_option linter.unusedSimpArgs false
set_option linter.unusedVariables false
theorem bt_drop (s : ByteArray) (i : Nat) (h : i < s.size) : ∃ x : UInt8, s.data.toList.drop i = x :: s.data.toList.drop (i + 1) ∧ bt s (i : Int) = (x.toNat : Int) := by
  have hl : i < s.data.toList.length := by rw [Array.length_toList]; exact h
  refine ⟨s.data.toList[i], List.drop_eq_getElem_cons hl, ?_⟩
  unfold bt
  rw [dif_pos (by simpa using h)]
  rfl
theorem drop_end (s : ByteArray) (i : Nat) (h : s.size ≤ i) : s.data.toList.drop i = [] := List.drop_eq_nil_of_le (by rw [Array.length_toList]; exact h)
theorem len_list (s : ByteArray) : s.data.toList.length = s.size := by rw [Array.length_toList]; rfl
theorem nat_eq (x : UInt8) (n : Nat) (hn : n < 256) : ((x.toNat : Int) = (n : Int)) ↔ x = UInt8.ofNat n := by
  constructor
  · intro h
    have : x.toNat = n := by omega
    rw [← this]
    simp
  · rintro rfl
    simp [Nat.mod_eq_of_lt hn]
def plainB (x : UInt8) : Bool := decide (32 ≤ x.toNat) && decide (x.toNat ≤ 126) && decide (x ≠ 59)
def pairs3 : List UInt8 → Bool
  | [] => false
  | x :: r => (decide (x = 32) && (r.head? == some 32)) || (decide (x = 32) && (r.head? == some 44)) || (decide (x = 44) && (r.head? == some 32)) || pairs3 r
theorem pairs3_eq : ∀ l, pairs3 l = (has2 32 32 l || has2 32 44 l || has2 44 32 l)
  | [] => rfl
  | x :: r => by
    rw [pairs3, has2, has2, has2, pairs3_eq r]
    cases (decide (x = 32) && (r.head? == some 32)) <;> cases (decide (x = 32) && (r.head? == some 44)) <;> cases (decide (x = 44) && (r.head? == some 32)) <;> cases has2 32 32 r <;> cases has2 32 44 r <;> cases has2 44 32 r <;> rfl
/-- Arguments as they should stand. -/
def argsP (s : ByteArray) : Bool := s.data.toList.all plainB && neat s.data.toList
theorem neat_pairs (l : List UInt8) : neat l = (!pairs3 l && (decide (l.head? ≠ some 32) && decide (l.getLast? ≠ some 32))) := by
  rw [pairs3_eq]
  unfold neat
  cases has2 32 32 l <;> cases has2 32 44 l <;> cases has2 44 32 l <;> simp
end Go.Proofs.YtffmpmgnkhlmdaaDoor.Aid
