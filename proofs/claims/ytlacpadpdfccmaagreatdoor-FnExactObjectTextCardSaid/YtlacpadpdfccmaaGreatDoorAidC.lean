/-
Lists by index, and right expressions, in plain Lean, with no program in sight.
-/
import Derived.Test.YtlacpadpdfccmaaGreatDoorAidB
import Derived.Lib.Bytealg
import Derived.Lib.Strings
namespace Go.Proofs.YtlacpadpdfccmaaGreatDoor.Aid
open Go.RowKit Go.Proofs.YtlacpadpdfccmaaGreatDoorW.PrintWords Go.Proofs.YtlacpadpdfccmaaGreatDoorW.PrintLast Go.Proofs.YtlacpadpdfccmaaGreatDoorW.PrintMore
set_option linter.unusedVariables false

theorem drop_at {α : Type} (z : α) (l : List α) (i : Nat) (h : i < l.length) : l.drop i = l.getD i z :: l.drop (i + 1) := by
  rw [List.drop_eq_getElem_cons h, List.getD_eq_getElem?_getD, List.getElem?_eq_getElem h]
  rfl
theorem getD_mem {α : Type} (z : α) (l : List α) (i : Nat) (h : i < l.length) : l.getD i z ∈ l := by
  rw [List.getD_eq_getElem?_getD, List.getElem?_eq_getElem h]
  exact List.getElem_mem h
theorem up1 {i n : Nat} (h : i < n) (hn : n ≤ 4611686018427387904) : wrap64 ((i : Int) + 1) = ((i + 1 : Nat) : Int) := by
  rw [w64 (by omega) (by omega)]
  omega
/-- A list that is filled place by place. -/
theorem fill_step {α β : Type} (z : α) (c : α → β) (l : List α) (y : List β) (i : Nat) (hi : i < l.length) (hy : y.length = l.length) (ht : y.take i = (l.map c).take i) :
    (y.set i (c (l.getD i z))).length = l.length ∧ (y.set i (c (l.getD i z))).take (i + 1) = (l.map c).take (i + 1) := by
  refine ⟨by simpa using hy, ?_⟩
  apply List.ext_getElem?
  intro j
  by_cases hj : j < i + 1
  · rw [List.getElem?_take_of_lt hj, List.getElem?_take_of_lt hj]
    by_cases hji : j = i
    · subst hji
      rw [List.getElem?_set_self (by omega), List.getElem?_map, List.getD_eq_getElem?_getD, List.getElem?_eq_getElem hi]
      rfl
    · rw [List.getElem?_set_ne (by omega)]
      have := congrArg (·[j]?) ht
      simpa [List.getElem?_take_of_lt (show j < i by omega)] using this
  · rw [List.getElem?_eq_none (by simp; omega), List.getElem?_eq_none (by simp; omega)]
theorem fill_end {α β : Type} (c : α → β) (l : List α) (y : List β) (hy : y.length = l.length) (ht : y.take l.length = (l.map c).take l.length) : y = l.map c := by
  rw [List.take_of_length_le (by omega), List.take_of_length_le (by simp)] at ht
  exact ht
theorem toList_inj {a b : ByteArray} (h : a.toList = b.toList) : a = b := by
  rw [ByteArray.toList_eq, ByteArray.toList_eq] at h
  cases a
  cases b
  simp at h
  rw [h]

/-! right expressions -/
abbrev Nd := Int × Int × ByteArray
def takes (kind : Int) : Int := if inR kind 1 3 = true then 0 else if inR kind 4 7 = true then 1 else if inR kind 8 17 = true then 2 else -1
def nodeOk (x : Nd) : Bool :=
  if x.1 = 1 then inR x.2.1 0 65535 && (x.2.2.toList == ([] : List UInt8))
  else if x.1 = 2 ∨ x.1 = 3 then x.2.1 == 0 && nameOk x.2.2
  else inR x.1 4 17 && (x.2.1 == 0 && (x.2.2.toList == ([] : List UInt8)))
theorem nodeOk_kind {x : Nd} (h : nodeOk x = true) : 1 ≤ x.1 ∧ x.1 ≤ 17 := by
  unfold nodeOk at h
  by_cases h1 : x.1 = 1
  · omega
  · by_cases h2 : x.1 = 2 ∨ x.1 = 3
    · omega
    · rw [if_neg h1, if_neg h2] at h
      simp [inR] at h
      omega
def exprGo : List Nd → Int → Bool
  | [], d => d == 1
  | x :: r, d => nodeOk x && (decide (takes x.1 ≤ d) && exprGo r (d - takes x.1 + 1))
def exprOk (l : List Nd) : Bool := decide ((l.length : Int) ≤ 30) && exprGo l 0
theorem takes_in (k : Int) : -1 ≤ takes k ∧ takes k ≤ 2 := by
  unfold takes
  split
  · omega
  · split
    · omega
    · split <;> omega

/-! numbers as texts -/
end Go.Proofs.YtlacpadpdfccmaaGreatDoor.Aid
