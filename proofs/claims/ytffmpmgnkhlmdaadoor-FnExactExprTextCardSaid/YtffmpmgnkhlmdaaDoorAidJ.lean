/-
Texts cut at a byte, put together again, and pairs of bytes replaced in them, with no program in sight.
-/
import Derived.Test.YtffmpmgnkhlmdaaDoorAidA
import Derived.Lib.SplitLaws
import Derived.Lib.Join
import Derived.Lib.Replace
namespace Go.Proofs.YtffmpmgnkhlmdaaDoor.Aid
set_option linter.unusedSimpArgs false
set_option linter.unusedVariables false
/-- What stands ahead of the first byte c. -/
def sph (c : UInt8) : List UInt8 → List UInt8
  | [] => []
  | x :: r => if x = c then [] else x :: sph c r
/-- The pieces behind the first byte c. -/
def spt (c : UInt8) : List UInt8 → List (List UInt8)
  | [] => []
  | x :: r => if x = c then sph c r :: spt c r else spt c r
/-- A text cut at each byte c. -/
def sp (c : UInt8) (l : List UInt8) : List (List UInt8) := sph c l :: spt c l
theorem sp_miss {c : UInt8} : ∀ {l : List UInt8}, c ∉ l → sph c l = l ∧ spt c l = []
  | [], _ => ⟨rfl, rfl⟩
  | x :: r, h => by
    have hx : x ≠ c := fun e => h (e ▸ List.mem_cons_self)
    have hr : c ∉ r := fun e => h (List.mem_cons_of_mem _ e)
    obtain ⟨h1, h2⟩ := sp_miss hr
    simp [sph, spt, hx, h1, h2]
theorem sp_hit {c : UInt8} : ∀ {a b : List UInt8}, c ∉ a → sph c (a ++ c :: b) = a ∧ spt c (a ++ c :: b) = sph c b :: spt c b
  | [], b, _ => by simp [sph, spt]
  | x :: r, b, h => by
    have hx : x ≠ c := fun e => h (e ▸ List.mem_cons_self)
    have hr : c ∉ r := fun e => h (List.mem_cons_of_mem _ e)
    obtain ⟨h1, h2⟩ := sp_hit (b := b) hr
    simp [sph, spt, hx, h1, h2]
theorem cut_at (c : UInt8) : ∀ l : List UInt8, (Go.Lib.index l [c] = -1 ∧ c ∉ l) ∨ ∃ a b, l = a ++ c :: b ∧ c ∉ a ∧ Go.Lib.index l [c] = (a.length : Nat)
  | [] => .inl ⟨rfl, by simp⟩
  | x :: r => by
    by_cases hx : x = c
    · subst hx
      exact .inr ⟨[], r, rfl, by simp, by rw [Go.Lib.index]; simp [List.isPrefixOf]⟩
    · have hp : ([c] : List UInt8).isPrefixOf (x :: r) = false := by simp [List.isPrefixOf, Ne.symm hx]
      have hix : Go.Lib.index (x :: r) [c] = if Go.Lib.index r [c] == -1 then -1 else Go.Lib.index r [c] + 1 := by rw [Go.Lib.index, hp]; simp
      rcases cut_at c r with ⟨h1, h2⟩ | ⟨a, b, h1, h2, h3⟩
      · exact .inl ⟨by rw [hix, h1]; rfl, by simp [Ne.symm hx, h2]⟩
      · refine .inr ⟨x :: a, b, by rw [h1]; rfl, by simp [Ne.symm hx, h2], ?_⟩
        rw [hix, h3, if_neg (fun e => by have := beq_iff_eq.1 e; omega)]
        simp
theorem splitK_sp (c : UInt8) : ∀ (k : Nat) (l : List UInt8), Go.Lib.count l [c] = k → Go.Lib.splitK [c] 0 k l = sp c l
  | 0, l, h => by
    rcases cut_at c l with ⟨h1, h2⟩ | ⟨a, b, h1, h2, h3⟩
    · obtain ⟨e1, e2⟩ := sp_miss h2
      simp [Go.Lib.splitK, sp, e1, e2]
    · have := Go.Lib.count_hit (sub := [c]) (by simp) h3
      omega
  | k + 1, l, h => by
    rcases cut_at c l with ⟨h1, h2⟩ | ⟨a, b, h1, h2, h3⟩
    · rw [Go.Lib.count_miss h1] at h
      cases h
    · have hc := Go.Lib.count_hit (sub := [c]) (by simp) h3
      have hd : l.drop (a.length + ([c] : List UInt8).length) = b := by rw [h1]; simp
      have ht : l.take (a.length + 0) = a := by rw [h1]; simp
      obtain ⟨e1, e2⟩ := sp_hit (b := b) h2
      rw [← h1] at e1 e2
      rw [hd] at hc
      rw [Go.Lib.splitK, if_neg (fun e => by have := beq_iff_eq.1 e; omega), h3, Int.toNat_natCast, hd, ht, splitK_sp c k b (by omega), sp, sp, e1, e2]
theorem split_sp (c : UInt8) (l : List UInt8) : Go.Lib.split l [c] = sp c l := splitK_sp c _ l rfl
theorem map_data (xs : List ByteArray) (ys : List (List UInt8)) (h : xs.map (·.data.toList) = ys) : xs = ys.map fun l => (⟨l.toArray⟩ : ByteArray) := by
  rw [← h, List.map_map]
  conv => lhs; rw [← List.map_id xs]
  apply List.map_congr_left
  intro x _
  rfl
theorem jtail_cons (s y : List UInt8) (r : List (List UInt8)) : Go.Lib.joinTail s (y :: r) = s ++ y ++ Go.Lib.joinTail s r := by simp [Go.Lib.joinTail]
theorem join_cons2 (x y s : List UInt8) (r : List (List UInt8)) : Go.Lib.join (x :: y :: r) s = x ++ s ++ Go.Lib.join (y :: r) s := by
  rw [Go.Lib.join_cons, Go.Lib.join_cons, jtail_cons]
  simp
theorem join_sp (c : UInt8) : ∀ l, Go.Lib.join (sp c l) [c] = l
  | [] => by simp [sp, sph, spt, Go.Lib.join_one]
  | x :: r => by
    have ih := join_sp c r
    rw [sp, Go.Lib.join_cons] at ih ⊢
    by_cases hx : x = c
    · subst hx
      simp only [sph, spt, if_pos]
      rw [jtail_cons]
      simpa using ih
    · simp only [sph, spt, if_neg hx]
      simpa using ih
def tot (xs : List (List UInt8)) : Nat := (xs.map List.length).sum
theorem jtail_len (c : UInt8) : ∀ r : List (List UInt8), (Go.Lib.joinTail [c] r).length = tot r + r.length
  | [] => rfl
  | y :: r => by
    rw [jtail_cons]
    simp only [List.length_append, jtail_len c r, tot, List.map_cons, List.sum_cons, List.length_cons, List.length_nil]
    omega
theorem join_len (c : UInt8) (x : List UInt8) (r : List (List UInt8)) : (Go.Lib.join (x :: r) [c]).length = tot (x :: r) + r.length := by
  rw [Go.Lib.join_cons, List.length_append, jtail_len]
  simp only [tot, List.map_cons, List.sum_cons]
  omega
def full (p : List UInt8) : Bool := !p.isEmpty
theorem tot_full : ∀ P : List (List UInt8), tot (P.filter full) = tot P
  | [] => rfl
  | [] :: P => by
    have := tot_full P
    simp only [tot] at this ⊢
    simp [full, List.filter] at this ⊢
    exact this
  | (x :: p) :: P => by
    have := tot_full P
    simp only [tot] at this ⊢
    simp [full, List.filter] at this ⊢
    exact this
/-- The pieces that are not empty, put together again: no longer than all of them; as long as all only if none was empty, or there was nothing. -/
theorem join_full_len (c : UInt8) (l : List UInt8) : (Go.Lib.join ((sp c l).filter full) [c]).length ≤ l.length ∧ ((Go.Lib.join ((sp c l).filter full) [c]).length = l.length → l = [] ∨ (sp c l).filter full = sp c l) := by
  have h0 := congrArg List.length (join_sp c l)
  rw [sp, join_len] at h0
  rw [← sp] at h0
  have h1 := tot_full (sp c l)
  have h2 := List.length_filter_le full (sp c l)
  have h3 : (sp c l).length = (spt c l).length + 1 := rfl
  cases hF : (sp c l).filter full with
  | nil =>
    rw [Go.Lib.join_nil]
    refine ⟨by simp, fun h => .inl (List.length_eq_zero_iff.1 h.symm)⟩
  | cons x r =>
    rw [join_len]
    rw [hF] at h1 h2
    simp only [List.length_cons] at h2
    refine ⟨by omega, fun h => .inr ?_⟩
    rw [← hF]
    refine List.filter_eq_self.2 (List.length_filter_eq_length_iff.1 ?_)
    rw [hF]
    simp only [List.length_cons]
    omega
/-- A pair of bytes stands in a text. -/
def has2 (a b : UInt8) : List UInt8 → Bool
  | [] => false
  | x :: r => (decide (x = a) && (r.head? == some b)) || has2 a b r
/-- Each pair of bytes replaced, from the left. -/
def rp (a b : UInt8) (new : List UInt8) : List UInt8 → List UInt8
  | x :: y :: r => if x = a ∧ y = b then new ++ rp a b new r else x :: rp a b new (y :: r)
  | [x] => [x]
  | [] => []
theorem rp_same {a b : UInt8} {new : List UInt8} : ∀ {l : List UInt8}, has2 a b l = false → rp a b new l = l
  | [], _ => rfl
  | [x], _ => rfl
  | x :: y :: r, h => by
    rw [has2, Bool.or_eq_false_iff] at h
    have hn : ¬ (x = a ∧ y = b) := by
      rintro ⟨rfl, rfl⟩
      simp at h
    rw [rp, if_neg hn, rp_same h.2]
theorem rp_len {a b z : UInt8} : ∀ l : List UInt8, (rp a b [z] l).length ≤ l.length ∧ ((rp a b [z] l).length = l.length → has2 a b l = false)
  | [] => ⟨Nat.le_refl _, fun _ => rfl⟩
  | [x] => ⟨Nat.le_refl _, fun _ => by simp [has2]⟩
  | x :: y :: r => by
    by_cases h : x = a ∧ y = b
    · have := (rp_len (a := a) (b := b) (z := z) r).1
      rw [rp, if_pos h]
      simp only [List.length_append, List.length_cons, List.length_nil]
      exact ⟨by omega, fun e => by omega⟩
    · have ih := rp_len (a := a) (b := b) (z := z) (y :: r)
      rw [rp, if_neg h]
      simp only [List.length_cons] at ih ⊢
      refine ⟨by omega, fun e => ?_⟩
      rw [has2, ih.2 (by omega), Bool.or_false]
      simp only [List.head?_cons]
      by_cases hx : x = a
      · have hy : y ≠ b := fun e => h ⟨hx, e⟩
        simp [hy]
      · simp [hx]
theorem rp_short {a b z : UInt8} (l : List UInt8) (h : has2 a b l = true) : (rp a b [z] l).length < l.length := by
  obtain ⟨h1, h2⟩ := rp_len (a := a) (b := b) (z := z) l
  rcases Nat.lt_or_ge (rp a b [z] l).length l.length with h3 | h3
  · exact h3
  · rw [h2 (by omega)] at h
    cases h
theorem cut_two (a b : UInt8) (new : List UInt8) : ∀ l : List UInt8, (Go.Lib.index l [a, b] = -1 ∧ rp a b new l = l) ∨ ∃ u v, l = u ++ a :: b :: v ∧ Go.Lib.index l [a, b] = (u.length : Nat) ∧ rp a b new l = u ++ (new ++ rp a b new v)
  | [] => .inl ⟨rfl, rfl⟩
  | [x] => .inl ⟨by simp [Go.Lib.index, List.isPrefixOf], rfl⟩
  | x :: y :: r => by
    by_cases h : x = a ∧ y = b
    · obtain ⟨rfl, rfl⟩ := h
      refine .inr ⟨[], r, rfl, ?_, by rw [rp, if_pos ⟨rfl, rfl⟩]; rfl⟩
      rw [Go.Lib.index]
      simp [List.isPrefixOf]
    · have hp : ([a, b] : List UInt8).isPrefixOf (x :: y :: r) = false := by
        simp only [List.isPrefixOf, Bool.and_true, Bool.and_eq_false_iff, beq_eq_false_iff_ne]
        by_cases hx : a = x
        · exact .inr fun e => h ⟨hx.symm, e.symm⟩
        · exact .inl hx
      have hix : Go.Lib.index (x :: y :: r) [a, b] = if Go.Lib.index (y :: r) [a, b] == -1 then -1 else Go.Lib.index (y :: r) [a, b] + 1 := by
        conv => lhs; rw [Go.Lib.index, hp]
        simp
      rw [rp, if_neg h, hix]
      rcases cut_two a b new (y :: r) with ⟨h1, h2⟩ | ⟨u, v, h1, h2, h3⟩
      · exact .inl ⟨by rw [h1]; rfl, by rw [h2]⟩
      · refine .inr ⟨x :: u, v, by rw [h1]; rfl, ?_, by rw [h3]; rfl⟩
        rw [h2, if_neg (fun e => by have := beq_iff_eq.1 e; omega)]
        simp
theorem replaceK_rp (a b : UInt8) (new : List UInt8) : ∀ (k : Nat) (l : List UInt8), Go.Lib.count l [a, b] = k → Go.Lib.replaceK [a, b] new k l = rp a b new l
  | 0, l, h => by
    rcases cut_two a b new l with ⟨h1, h2⟩ | ⟨u, v, h1, h2, h3⟩
    · rw [h2]
      rfl
    · have := Go.Lib.count_hit (sub := [a, b]) (by simp) h2
      omega
  | k + 1, l, h => by
    rcases cut_two a b new l with ⟨h1, h2⟩ | ⟨u, v, h1, h2, h3⟩
    · rw [Go.Lib.count_miss h1] at h
      cases h
    · have hc := Go.Lib.count_hit (sub := [a, b]) (by simp) h2
      have hd : l.drop (u.length + ([a, b] : List UInt8).length) = v := by rw [h1]; simp
      have ht : l.take u.length = u := by rw [h1]; simp
      rw [hd] at hc
      rw [Go.Lib.replaceK_hit _ _ _ _ u.length h2, hd, ht, replaceK_rp a b new k v (by omega), h3, List.append_assoc]
theorem replace_rp (a b : UInt8) (new l : List UInt8) (h : new.length < 2) : Go.Lib.replace l [a, b] new (-1) = rp a b new l := by
  unfold Go.Lib.replace
  have hne : ¬ (([a, b] : List UInt8) == new) = true := by
    intro e
    have := congrArg List.length (beq_iff_eq.1 e)
    simp at this
    omega
  rw [if_neg hne]
  exact replaceK_rp a b new _ l (by unfold Go.Lib.replaceNum; rw [if_pos (.inl (by omega))])
theorem sph_nil (c : UInt8) : ∀ l : List UInt8, sph c l ≠ [] ↔ l ≠ [] ∧ l.head? ≠ some c
  | [] => by simp [sph]
  | x :: r => by
    by_cases h : x = c <;> simp [sph, h]
theorem spt_full (c : UInt8) : ∀ l : List UInt8, (∀ p ∈ spt c l, p ≠ []) ↔ has2 c c l = false ∧ l.getLast? ≠ some c
  | [] => by simp [spt, has2]
  | [x] => by
    by_cases h : x = c
    · subst h
      simp [spt, sph, has2]
    · simp [spt, has2, h]
  | x :: y :: r => by
    have ih := spt_full c (y :: r)
    have hl : (x :: y :: r).getLast? = (y :: r).getLast? := by simp [List.getLast?_cons]
    rw [hl, has2]
    by_cases h : x = c
    · subst h
      rw [spt, if_pos rfl]
      simp only [List.forall_mem_cons, ih, sph_nil]
      simp [and_assoc]
    · rw [spt, if_neg h, ih]
      simp [h]
theorem full_iff (c : UInt8) (l : List UInt8) : (sp c l).filter full = sp c l ↔ l ≠ [] ∧ has2 c c l = false ∧ l.head? ≠ some c ∧ l.getLast? ≠ some c := by
  rw [List.filter_eq_self]
  have hf : ∀ p : List UInt8, full p = true ↔ p ≠ [] := by intro p; cases p <;> simp [full]
  simp only [hf, sp, List.forall_mem_cons, sph_nil, spt_full]
  constructor
  · rintro ⟨⟨h1, h2⟩, h3, h4⟩
    exact ⟨h1, h3, h2, h4⟩
  · rintro ⟨h1, h3, h2, h4⟩
    exact ⟨⟨h1, h2⟩, h3, h4⟩
/-- A list of arguments in its form. -/
def tidy (l : List UInt8) : List UInt8 := rp 44 32 [44] (rp 32 44 [44] (Go.Lib.join ((sp 32 l).filter full) [32]))
def neat (l : List UInt8) : Bool := !has2 32 32 l && !has2 32 44 l && !has2 44 32 l && decide (l.head? ≠ some 32) && decide (l.getLast? ≠ some 32)
theorem tidy_self (l : List UInt8) : tidy l = l ↔ neat l = true := by
  unfold tidy neat
  simp only [Bool.and_eq_true, Bool.not_eq_true', decide_eq_true_eq]
  constructor
  · intro h
    have hl := congrArg List.length h
    obtain ⟨a1, a2⟩ := join_full_len 32 l
    obtain ⟨b1, b2⟩ := rp_len (a := 32) (b := 44) (z := 44) (Go.Lib.join ((sp 32 l).filter full) [32])
    obtain ⟨c1, c2⟩ := rp_len (a := 44) (b := 32) (z := 44) (rp 32 44 [44] (Go.Lib.join ((sp 32 l).filter full) [32]))
    have d2 := c2 (by omega)
    have d1 := b2 (by omega)
    rw [rp_same d1] at d2
    rcases a2 (by omega) with rfl | h3
    · simp [has2]
    · rw [h3, join_sp] at d1 d2
      obtain ⟨-, e1, e2, e3⟩ := (full_iff 32 l).1 h3
      exact ⟨⟨⟨⟨e1, d1⟩, d2⟩, e2⟩, e3⟩
  · rintro ⟨⟨⟨⟨e1, d1⟩, d2⟩, e2⟩, e3⟩
    by_cases h0 : l = []
    · subst h0
      rfl
    · rw [(full_iff 32 l).2 ⟨h0, e1, e2, e3⟩, join_sp, rp_same d1, rp_same d2]
/-- No tidied text is longer. -/
theorem tidy_len (l : List UInt8) : (tidy l).length ≤ l.length :=
  Nat.le_trans (rp_len _).1 (Nat.le_trans (rp_len _).1 (join_full_len 32 l).1)
end Go.Proofs.YtffmpmgnkhlmdaaDoor.Aid
