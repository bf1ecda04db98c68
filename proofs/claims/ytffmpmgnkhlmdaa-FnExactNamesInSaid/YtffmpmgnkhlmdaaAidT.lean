/-
Texts that rise: putting one in its place, sorting and striking doubles come to the same; with no program in sight.
-/
import Derived.Test.YtffmpmgnkhlmdaaAidC
import Derived.Lib.SlicesCompact
namespace Go.Proofs.Ytffmpmgnkhlmdaa.Aid
open Go.RowKit Go.Proofs.YtffmpmgnkhlmdaaW.PrintWords Go.Proofs.YtffmpmgnkhlmdaaW.PrintLast Go.Proofs.YtffmpmgnkhlmdaaW.PrintMore
set_option linter.unusedVariables false

theorem less_eq : ∀ (x y : List UInt8), Op.bytesLess x y = decide (x < y)
  | [], [] => by simp [Op.bytesLess]
  | _ :: _, [] => by simp [Op.bytesLess]
  | [], _ :: _ => by simp [Op.bytesLess]
  | a :: x, b :: y => by
    rw [Op.bytesLess, less_eq x y]
    simp only [List.cons_lt_cons_iff]
    by_cases h1 : a < b <;> by_cases h2 : a = b <;> by_cases h3 : x < y <;> simp [h1, h2, h3]

abbrev Txt := List UInt8
def Rises (l : List Txt) : Prop := l.Pairwise (· < ·)
theorem txt_lt_of {a b : Txt} (h : ¬ a < b) (hne : a ≠ b) : b < a := by
  have h1 : b ≤ a := List.not_lt.1 h
  have h2 : ¬ a ≤ b := fun k => hne (List.le_antisymm k h1)
  exact List.not_le.1 h2
/-- Two rising lists of the same texts are one. -/
theorem rises_ext : ∀ {l m : List Txt}, Rises l → Rises m → (∀ x, x ∈ l ↔ x ∈ m) → l = m
  | [], [], _, _, _ => rfl
  | [], y :: m, _, _, h => by have := (h y).2 List.mem_cons_self; simp at this
  | x :: l, [], _, _, h => by have := (h x).1 List.mem_cons_self; simp at this
  | x :: l, y :: m, hl, hm, h => by
    have hl' := List.pairwise_cons.1 hl
    have hm' := List.pairwise_cons.1 hm
    have e : x = y := by
      rcases List.mem_cons.1 ((h x).1 List.mem_cons_self) with e | e
      · exact e
      · rcases List.mem_cons.1 ((h y).2 List.mem_cons_self) with e2 | e2
        · exact e2.symm
        · exact absurd (List.lt_trans (hm'.1 x e) (hl'.1 y e2)) (List.lt_irrefl _)
    subst e
    have := rises_ext hl'.2 hm'.2 (fun z => by
      constructor
      · intro hz
        rcases List.mem_cons.1 ((h z).1 (List.mem_cons_of_mem _ hz)) with e | e
        · subst e
          exact absurd (hl'.1 z hz) (List.lt_irrefl _)
        · exact e
      · intro hz
        rcases List.mem_cons.1 ((h z).2 (List.mem_cons_of_mem _ hz)) with e | e
        · subst e
          exact absurd (hm'.1 z hz) (List.lt_irrefl _)
        · exact e)
    rw [this]
/-- A text in its place, if it isn't there. -/
def putTxt : List Txt → Txt → List Txt
  | [], s => [s]
  | x :: l, s => if x < s then x :: putTxt l s else if x = s then x :: l else s :: x :: l
theorem mem_putTxt : ∀ {l : List Txt} {s x : Txt}, x ∈ putTxt l s ↔ x = s ∨ x ∈ l
  | [], s, x => by simp [putTxt]
  | y :: l, s, x => by
    unfold putTxt
    split
    · rw [List.mem_cons, mem_putTxt, List.mem_cons]
      constructor
      · rintro (h | h | h)
        · exact .inr (.inl h)
        · exact .inl h
        · exact .inr (.inr h)
      · rintro (h | h | h)
        · exact .inr (.inl h)
        · exact .inl h
        · exact .inr (.inr h)
    · split
      · rename_i e
        subst e
        constructor
        · exact .inr
        · rintro (h | h)
          · exact h ▸ List.mem_cons_self
          · exact h
      · rw [List.mem_cons]
theorem rises_putTxt : ∀ {l : List Txt} {s : Txt}, Rises l → Rises (putTxt l s)
  | [], s, _ => by simp [putTxt, Rises]
  | y :: l, s, h => by
    have h' := List.pairwise_cons.1 h
    unfold putTxt
    split
    · rename_i hlt
      refine List.pairwise_cons.2 ⟨fun z hz => ?_, rises_putTxt h'.2⟩
      rcases mem_putTxt.1 hz with rfl | hz
      · exact hlt
      · exact h'.1 z hz
    · rename_i hlt
      split
      · exact h
      · rename_i hne
        have hs := txt_lt_of hlt hne
        refine List.pairwise_cons.2 ⟨fun z hz => ?_, h⟩
        rcases List.mem_cons.1 hz with rfl | hz
        · exact hs
        · exact List.lt_trans hs (h'.1 z hz)
def putAll : List Txt → List Txt → List Txt
  | l, [] => l
  | l, s :: r => putAll (putTxt l s) r
theorem mem_putAll : ∀ {r l : List Txt} {x : Txt}, x ∈ putAll l r ↔ x ∈ l ∨ x ∈ r
  | [], l, x => by simp [putAll]
  | s :: r, l, x => by
    simp only [putAll, mem_putAll, mem_putTxt, List.mem_cons]
    constructor
    · rintro ((h | h) | h)
      · exact .inr (.inl h)
      · exact .inl h
      · exact .inr (.inr h)
    · rintro (h | h | h)
      · exact .inl (.inr h)
      · exact .inl (.inl h)
      · exact .inr h
theorem rises_putAll : ∀ {r l : List Txt}, Rises l → Rises (putAll l r)
  | [], _, h => h
  | s :: r, _, h => rises_putAll (r := r) (rises_putTxt h)

theorem mem_compact {zs : List Txt} {x : Txt} : x ∈ Go.Lib.compact zs ↔ x ∈ zs := by
  unfold Go.Lib.compact Go.Lib.compactUpTo
  rw [List.mem_map]
  constructor
  · rintro ⟨j, hj, rfl⟩
    have hj' : j < zs.length := by
      have := (List.mem_filter.1 hj).1
      simpa using this
    simp [getElem!_pos, hj']
  · intro hx
    obtain ⟨j, hj, rfl⟩ := List.mem_iff_getElem.1 hx
    have key : ∀ j, (hj : j < zs.length) → ∃ a, a ∈ (List.range zs.length).filter (Go.Lib.keeps zs.toArray) ∧ zs.toArray[a]! = zs[j] := by
      intro j
      induction j with
      | zero =>
        intro hj
        refine ⟨0, List.mem_filter.2 ⟨by simpa using hj, Go.Lib.keeps_lt_one _ 0 (by decide)⟩, by simp [getElem!_pos, hj]⟩
      | succ j ih =>
        intro hj
        by_cases hk : Go.Lib.keeps zs.toArray (j + 1) = true
        · exact ⟨j + 1, List.mem_filter.2 ⟨by simpa using hj, hk⟩, by simp [getElem!_pos, hj]⟩
        · obtain ⟨a, ha, he⟩ := ih (by omega)
          refine ⟨a, ha, he.trans ?_⟩
          have h0 : ¬ (j + 1 = 0 ∨ zs.toArray[j + 1]! ≠ zs.toArray[j + 1 - 1]!) := by simpa [Go.Lib.keeps] using hk
          have h1 : zs.toArray[j + 1]! = zs.toArray[j]! := by
            refine Classical.byContradiction fun hne => h0 (.inr ?_)
            exact hne
          have hj0 : j < zs.length := by omega
          simp [getElem!_pos, hj, hj0] at h1
          exact h1.symm
    exact key j hj
theorem rises_compact {zs : List Txt} (h : zs.Pairwise (· ≤ ·)) : Rises (Go.Lib.compact zs) := by
  unfold Go.Lib.compact Go.Lib.compactUpTo Rises
  rw [List.pairwise_map]
  have hr : ((List.range zs.length).filter (Go.Lib.keeps zs.toArray)).Pairwise (· < ·) := List.Pairwise.filter _ List.pairwise_lt_range
  refine List.Pairwise.imp_of_mem ?_ hr
  intro i j hi hj hij
  have hjl : j < zs.length := by
    have := (List.mem_filter.1 hj).1
    simpa using this
  have hk := (List.mem_filter.1 hj).2
  have h0 : j = 0 ∨ zs.toArray[j]! ≠ zs.toArray[j - 1]! := by simpa [Go.Lib.keeps] using hk
  have hne : zs.toArray[j]! ≠ zs.toArray[j - 1]! := by
    rcases h0 with h0 | h0
    · omega
    · exact h0
  have le_of : ∀ a b, a ≤ b → b < zs.length → zs.toArray[a]! ≤ zs.toArray[b]! := by
    intro a b hab hb
    have ha : a < zs.length := by omega
    simp [getElem!_pos, ha, hb]
    by_cases e : a = b
    · subst e
      exact List.le_refl _
    · exact List.pairwise_iff_getElem.1 h a b ha hb (by omega)
  have h1 := le_of i (j - 1) (by omega) (by omega)
  have h2 := le_of (j - 1) j (by omega) hjl
  have h3 : zs.toArray[j - 1]! < zs.toArray[j]! := by
    refine Classical.byContradiction fun hn => hne ?_
    exact List.le_antisymm (List.not_lt.1 hn) h2
  exact List.lt_of_le_of_lt h1 h3
theorem sorted_le (l : List Txt) : (l.mergeSort fun x y => decide (x ≤ y)).Pairwise (· ≤ ·) := by
  have := List.pairwise_mergeSort (le := fun x y : Txt => decide (x ≤ y)) (fun a b c h k => by simp at *; exact List.le_trans h k) (fun a b => by simp; exact List.le_total a b) l
  exact this.imp (fun h => by simpa using h)
theorem sort_compact (l : List Txt) : Go.Lib.compact (l.mergeSort fun x y => decide (x ≤ y)) = putAll [] l :=
  rises_ext (rises_compact (sorted_le l)) (rises_putAll List.Pairwise.nil) (fun x => by rw [mem_compact, List.mem_mergeSort, mem_putAll]; simp)

/-! the same of strings -/
abbrev bytesB (b : ByteArray) : Txt := b.data.toList
abbrev mkB (l : Txt) : ByteArray := ⟨l.toArray⟩
theorem mkB_bytes (b : ByteArray) : mkB (bytesB b) = b := by
  cases b
  simp [mkB, bytesB]
theorem map_mkB (l : List ByteArray) : (l.map bytesB).map mkB = l := by
  rw [List.map_map]
  have : (mkB ∘ bytesB) = id := by
    funext b
    exact mkB_bytes b
  rw [this, List.map_id]
def putB : List ByteArray → ByteArray → List ByteArray
  | [], s => [s]
  | x :: l, s => if bytesB x < bytesB s then x :: putB l s else if bytesB x = bytesB s then x :: l else s :: x :: l
theorem putB_bytes : ∀ (l : List ByteArray) (s : ByteArray), (putB l s).map bytesB = putTxt (l.map bytesB) (bytesB s)
  | [], s => rfl
  | x :: l, s => by
    simp only [putB, putTxt, List.map_cons]
    split
    · rw [List.map_cons, putB_bytes l s]
    · split <;> rfl
theorem putB_len : ∀ (l : List ByteArray) (s : ByteArray), (putB l s).length ≤ l.length + 1
  | [], s => by simp [putB]
  | x :: l, s => by
    unfold putB
    have := putB_len l s
    split
    · simp only [List.length_cons]
      omega
    · split <;> simp
def putAllB : List ByteArray → List ByteArray → List ByteArray
  | l, [] => l
  | l, s :: r => putAllB (putB l s) r
theorem putAllB_bytes : ∀ (r l : List ByteArray), (putAllB l r).map bytesB = putAll (l.map bytesB) (r.map bytesB)
  | [], l => rfl
  | s :: r, l => by
    simp only [putAllB, List.map_cons, putAll]
    rw [putAllB_bytes r, putB_bytes]
theorem putAllB_eq (r : List ByteArray) : putAllB [] r = (Go.Lib.compact ((r.map bytesB).mergeSort fun x y => decide (x ≤ y))).map mkB := by
  rw [sort_compact, ← map_mkB (putAllB [] r), putAllB_bytes]
  rfl
def namesB (l : List Nd) : List ByteArray := (l.map (·.2.2)).filter fun s => decide (s.toList ≠ [])

end Go.Proofs.Ytffmpmgnkhlmdaa.Aid
