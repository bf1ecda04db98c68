/-
Blanks taken out of a text in two ways that come to the same, with no program in sight.
-/
import Derived.Test.YtffmpmgnkhlmdaaDoorAidJ
import Derived.Lib.TrimByte
namespace Go.Proofs.YtffmpmgnkhlmdaaDoor.Aid
set_option linter.unusedSimpArgs false
set_option linter.unusedVariables false
/-- A text without the bytes c at its end. -/
def trR (c : UInt8) : List UInt8 → List UInt8
  | [] => []
  | x :: r => if trR c r = [] ∧ x = c then [] else x :: trR c r
theorem trR_eq (c : UInt8) : ∀ l, Go.Lib.trimRightB l c = trR c l
  | [] => rfl
  | x :: r => by
    have ih := trR_eq c r
    unfold Go.Lib.trimRightB at ih ⊢
    rw [List.reverse_cons, List.dropWhile_append, trR]
    rw [← ih]
    by_cases h : (r.reverse.dropWhile (· == c)) = []
    · rw [h]
      by_cases hx : x = c
      · simp [hx]
      · have hb : (x == c) = false := by simp [hx]
        simp [hx, List.dropWhile, hb]
    · have he : (r.reverse.dropWhile (· == c)).isEmpty = false := by simpa using h
      rw [he]
      simp [h]
theorem trim_two (c : UInt8) : ∀ l, Go.Lib.trimB l c = trR c (l.dropWhile (· == c)) := by
  intro l
  unfold Go.Lib.trimB Go.Lib.trimLeftB
  rw [trR_eq]
  induction l with
  | nil => rfl
  | cons x r ih =>
    rw [trR]
    by_cases hx : x = c
    · subst hx
      by_cases hr : trR x r = []
      · rw [if_pos ⟨hr, rfl⟩]
        rw [hr] at ih
        simp [← ih]
      · rw [if_neg (fun h => hr h.1)]
        simpa using ih
    · rw [if_neg (fun h => hx h.2)]
      have hb : (x == c) = false := by simp [hx]
      simp [List.dropWhile, hb, hx, trR]
/-- The one form: b, a blank was read behind what was put last; q, a blank may stand behind it. -/
def nrm : Bool → Bool → List UInt8 → List UInt8
  | _, _, [] => []
  | q, b, x :: r => if x = 32 then nrm q true r else (if q && b && decide (x ≠ 44) then [32] else []) ++ x :: nrm (decide (x ≠ 44)) false r
def jn : Bool → Bool → List UInt8 → List UInt8
  | _, _, [] => []
  | q, b, x :: r => if x = 32 then jn q true r else (if q && b then [32] else []) ++ x :: jn true false r
def jb : Bool → Bool → List UInt8 → List UInt8
  | _, _, [] => []
  | q, b, x :: r => if x = 32 then jb q true r else (if q && b && decide (x ≠ 44) then [32] else []) ++ x :: jb true false r
theorem jn_false : ∀ (l : List UInt8), jn false true l = jn false false l
  | [] => rfl
  | x :: r => by simp [jn]
theorem filter_cons_full (c : UInt8) (x : UInt8) (r : List UInt8) : (sp c (x :: r)).filter full = if x = c then (sp c r).filter full else (x :: sph c r) :: (spt c r).filter full := by
  by_cases h : x = c <;> simp [sp, sph, spt, h, full]
theorem jn_words : ∀ l : List UInt8, sph 32 l ++ Go.Lib.joinTail [32] ((spt 32 l).filter full) = jn true false l ∧ Go.Lib.joinTail [32] ((sp 32 l).filter full) = jn true true l ∧ Go.Lib.join ((sp 32 l).filter full) [32] = jn false false l
  | [] => by simp [sp, sph, spt, full, jn, Go.Lib.joinTail, Go.Lib.join_nil]
  | x :: r => by
    obtain ⟨h1, h2, h3⟩ := jn_words r
    by_cases hx : x = 32
    · subst hx
      refine ⟨?_, ?_, ?_⟩
      · rw [jn, if_pos rfl, ← h2]
        simp [sph, spt, sp]
      · rw [jn, if_pos rfl, ← h2, filter_cons_full, if_pos rfl]
      · rw [jn, if_pos rfl, jn_false, ← h3, filter_cons_full, if_pos rfl]
    · refine ⟨?_, ?_, ?_⟩
      · rw [jn, if_neg hx, ← h1]
        simp [sph, spt, hx]
      · rw [jn, if_neg hx, ← h1, filter_cons_full, if_neg hx, jtail_cons]
        simp
      · rw [jn, if_neg hx, ← h1, filter_cons_full, if_neg hx, Go.Lib.join_cons]
        simp
theorem rp_ne {a b : UInt8} {new : List UInt8} {x : UInt8} (t : List UInt8) (h : x ≠ a) : rp a b new (x :: t) = x :: rp a b new t := by
  cases t with
  | nil => rfl
  | cons y t => rw [rp, if_neg (fun e => h e.1)]
theorem rp_two {a b : UInt8} {new : List UInt8} {x y : UInt8} (t : List UInt8) (h : y ≠ b) : rp a b new (x :: y :: t) = x :: rp a b new (y :: t) := by
  rw [rp, if_neg (fun e => h e.2)]
theorem jb_rp : ∀ (l : List UInt8) (q b : Bool), rp 32 44 [44] (jn q b l) = jb q b l
  | [], _, _ => rfl
  | x :: r, q, b => by
    have ih := jb_rp r
    by_cases hx : x = 32
    · rw [jn, jb, if_pos hx, if_pos hx, ih]
    · rw [jn, jb, if_neg hx, if_neg hx]
      cases hqb : (q && b) with
      | false => simp only [Bool.false_and, if_neg Bool.false_ne_true, List.nil_append]; rw [rp_ne _ hx, ih]
      | true =>
        by_cases h4 : x = 44
        · subst h4
          simp [rp, ih]
        · have hd : decide (x ≠ 44) = true := by simpa using h4
          rw [hd]
          simp only [Bool.true_and, if_true, List.cons_append, List.nil_append]
          rw [rp_two _ h4, rp_ne _ hx, ih]
theorem rp_comma {x : UInt8} (t : List UInt8) (h : x ≠ 32) : rp 44 32 [44] (44 :: x :: t) = 44 :: rp 44 32 [44] (x :: t) := rp_two t h
theorem nrm_rp : ∀ (l : List UInt8) (b : Bool), rp 44 32 [44] (jb true b l) = nrm true b l ∧ rp 44 32 [44] (44 :: jb true b l) = 44 :: nrm false b l ∧ rp 44 32 [44] (jb false b l) = nrm false b l
  | [], _ => ⟨rfl, rfl, rfl⟩
  | x :: r, b => by
    obtain ⟨h1, h2, h3⟩ := nrm_rp r true
    obtain ⟨g1, g2, g3⟩ := nrm_rp r false
    by_cases hx : x = 32
    · simp only [jb, nrm, if_pos hx]
      exact ⟨h1, h2, h3⟩
    · have hrest : rp 44 32 [44] (x :: jb true false r) = x :: nrm (decide (x ≠ 44)) false r := by
        by_cases h4 : x = 44
        · subst h4
          rw [g2]
          simp
        · rw [rp_ne _ h4, g1]
          simp [h4]
      simp only [jb, nrm, if_neg hx, Bool.true_and, Bool.false_and, if_neg Bool.false_ne_true, List.nil_append]
      refine ⟨?_, ?_, hrest⟩
      · cases hb : (b && decide (x ≠ 44)) with
        | false => simpa using hrest
        | true =>
          simp only [if_true, List.cons_append, List.nil_append]
          rw [rp_ne _ (by decide), hrest]
      · cases hb : (b && decide (x ≠ 44)) with
        | false =>
          simp only [if_neg Bool.false_ne_true, List.nil_append]
          rw [rp_comma _ hx, hrest]
        | true =>
          simp only [if_true, List.cons_append, List.nil_append]
          rw [rp, if_pos ⟨rfl, rfl⟩, hrest]
          rfl
theorem tidy_nrm (l : List UInt8) : tidy l = nrm false false l := by
  unfold tidy
  rw [(jn_words l).2.2, jb_rp, (nrm_rp l false).2.2]
/-- The other way: what is put so far, backwards. -/
def slim1 (acc : List UInt8) (x : UInt8) : List UInt8 :=
  if x = 32 then (match acc with | [] => [32] | h :: t => if h = 32 ∨ h = 44 then h :: t else 32 :: h :: t)
  else if x = 44 then (match acc with | [] => [44] | h :: t => if h = 32 then 44 :: t else 44 :: h :: t)
  else x :: acc
def slimR : List UInt8 → List UInt8 → List UInt8
  | acc, [] => acc
  | acc, x :: r => slimR (slim1 acc x) r
/-- What is put so far, but for a blank that waits. -/
def SlimAt (acc : List UInt8) (q b : Bool) (core : List UInt8) : Prop :=
  (core = [] ∧ q = false ∧ acc = if b then [32] else []) ∨ ∃ h t, core = h :: t ∧ h ≠ 32 ∧ q = decide (h ≠ 44) ∧ acc = if b && q then 32 :: h :: t else h :: t
theorem slim_run : ∀ (l acc : List UInt8) (q b : Bool) (core : List UInt8), SlimAt acc q b core → ∃ b' q' lead, SlimAt (slimR acc l) q' b' ((nrm q b l).reverse ++ (if core = [] then lead else core)) ∧ (lead = [] ∨ lead = [32])
  | [], acc, q, b, core, h => by
    refine ⟨b, q, [], ?_, .inl rfl⟩
    by_cases hc : core = []
    · subst hc
      simpa [nrm, slimR] using h
    · simpa [nrm, slimR, hc] using h
  | x :: r, acc, q, b, core, h => by
    rw [slimR]
    by_cases hx : x = 32
    · rw [nrm, if_pos hx]
      refine slim_run r _ q true core ?_
      rcases h with ⟨rfl, rfl, rfl⟩ | ⟨h, t, rfl, h1, rfl, rfl⟩
      · refine .inl ⟨rfl, rfl, ?_⟩
        cases b <;> simp [slim1, hx]
      · refine .inr ⟨h, t, rfl, h1, rfl, ?_⟩
        by_cases h4 : h = 44
        · subst h4
          simp [slim1, hx]
        · cases b <;> simp [slim1, hx, h1, h4]
    · rw [nrm, if_neg hx]
      by_cases h4 : x = 44
      · subst h4
        have step : SlimAt (slim1 acc 44) false false (44 :: core) := by
          rcases h with ⟨rfl, rfl, rfl⟩ | ⟨h, t, rfl, h1, rfl, rfl⟩
          · refine .inr ⟨44, [], rfl, by decide, by simp, ?_⟩
            cases b <;> simp [slim1]
          · refine .inr ⟨44, h :: t, rfl, by decide, by simp, ?_⟩
            by_cases h4 : h = 44
            · subst h4
              simp [slim1]
            · cases b <;> simp [slim1, h1, h4]
        obtain ⟨b', q', lead, e1, e2⟩ := slim_run r _ _ _ _ step
        refine ⟨b', q', [], ?_, .inl rfl⟩
        have e : (if core = [] then ([] : List UInt8) else core) = core := by
          split
          · rename_i hc; exact hc.symm
          · rfl
        rw [e]
        simpa using e1
      · have hd : decide (x ≠ 44) = true := by simpa using h4
        rw [hd]
        rcases h with ⟨rfl, rfl, rfl⟩ | ⟨h, t, rfl, h1, rfl, rfl⟩
        · have step : SlimAt (slim1 (if b then [32] else []) x) true false (x :: (if b then [32] else [])) := by
            refine .inr ⟨x, _, rfl, hx, by simp [h4], ?_⟩
            simp [slim1, hx, h4]
          obtain ⟨b', q', lead, e1, e2⟩ := slim_run r _ _ _ _ step
          refine ⟨b', q', if b then [32] else [], ?_, by cases b <;> simp⟩
          simpa using e1
        · have step : SlimAt (slim1 (if b && decide (h ≠ 44) then 32 :: h :: t else h :: t) x) true false (x :: ((if b && decide (h ≠ 44) then [32] else []) ++ h :: t)) := by
            refine .inr ⟨x, _, rfl, hx, by simp [h4], ?_⟩
            cases hbq : (b && decide (h ≠ 44)) <;> simp [slim1, hx, h4]
          obtain ⟨b', q', lead, e1, e2⟩ := slim_run r _ _ _ _ step
          refine ⟨b', q', [], ?_, .inl rfl⟩
          have ec : (decide (h ≠ 44) && b && true) = (b && decide (h ≠ 44)) := by rw [Bool.and_true, Bool.and_comm]
          rw [ec]
          cases hbq : (b && decide (h ≠ 44)) with
          | false => rw [hbq] at e1; simpa using e1
          | true => rw [hbq] at e1; simpa using e1
theorem nrm_head : ∀ (l : List UInt8) (b : Bool), (nrm false b l).head? ≠ some 32
  | [], _ => by simp [nrm]
  | x :: r, b => by
    by_cases hx : x = 32
    · rw [nrm, if_pos hx]
      exact nrm_head r true
    · rw [nrm, if_neg hx]
      simpa using hx
theorem trR_end {c x : UInt8} (hx : x ≠ c) : ∀ l, trR c (l ++ [x]) = l ++ [x]
  | [] => by simp [trR, hx]
  | y :: r => by
    have := trR_end hx r
    rw [List.cons_append, trR, this, if_neg (by simp)]
theorem trR_end2 {c x : UInt8} (hx : x ≠ c) : ∀ l, trR c (l ++ [x, c]) = l ++ [x]
  | [] => by simp [trR, hx]
  | y :: r => by
    have := trR_end2 hx r
    rw [List.cons_append, trR, this, if_neg (by simp)]
    rfl
theorem slim_tidy (l : List UInt8) : trR 32 ((slimR [] l).reverse.dropWhile (· == 32)) = tidy l := by
  rw [tidy_nrm]
  obtain ⟨b', q', lead, h, hlead⟩ := slim_run l [] false false [] (.inl ⟨rfl, rfl, rfl⟩)
  rw [if_pos rfl] at h
  have hh := nrm_head l false
  generalize nrm false false l = o at h hh
  generalize slimR [] l = acc at h
  rcases h with ⟨hc, rfl, rfl⟩ | ⟨x, t, hc, hx, rfl, rfl⟩
  · have : o = [] := by
      have h2 := (List.append_eq_nil_iff.1 hc).1
      simpa using h2
    subst this
    cases b' <;> rfl
  · cases hor : o.reverse with
    | nil =>
      exfalso
      rw [hor, List.nil_append] at hc
      rcases hlead with rfl | rfl
      · cases hc
      · exact hx (List.cons.inj hc).1.symm
    | cons y s =>
      rw [hor, List.cons_append] at hc
      obtain ⟨rfl, rfl⟩ := List.cons.inj hc
      have ho : o = s.reverse ++ [y] := by
        have := congrArg List.reverse hor
        simpa using this
      have hdw : ∀ (e : List UInt8), (lead ++ (o ++ e)).dropWhile (· == 32) = o ++ e := by
        intro e
        have hd0 : (o ++ e).dropWhile (· == 32) = o ++ e := by
          cases ho' : o with
          | nil => rw [ho'] at ho; simp at ho
          | cons z o' =>
            have hz : z ≠ 32 := by rw [ho'] at hh; simpa using hh
            simp [List.dropWhile, hz]
        rcases hlead with rfl | rfl
        · simpa using hd0
        · simpa using hd0
      have hlr : lead.reverse = lead := by rcases hlead with rfl | rfl <;> rfl
      cases hbq : (b' && decide (y ≠ 44)) with
      | false =>
        have e : (if false = true then 32 :: y :: (s ++ lead) else y :: (s ++ lead)).reverse = lead ++ (o ++ []) := by
          rw [ho]
          simp [hlr]
        rw [e, hdw, List.append_nil, ho]
        exact trR_end hx _
      | true =>
        have e : (if true = true then 32 :: y :: (s ++ lead) else y :: (s ++ lead)).reverse = lead ++ (o ++ [32]) := by
          rw [ho]
          simp [hlr]
        rw [e, hdw, ho, List.append_assoc]
        exact trR_end2 hx _
end Go.Proofs.YtffmpmgnkhlmdaaDoor.Aid
