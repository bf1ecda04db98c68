/-
The law FnExactReadIns, told as a plain function of its text and place, answers true for every input.
-/
import Derived.Test.YtmiebnpmckjidaaDoorPFnExactReadInsx0
import Derived.Test.YtmiebnpmckjidaaDoorAidA
import Derived.Test.YtmiebnpmckjidaaDoorAidB
import Derived.Test.YtmiebnpmckjidaaDoorAidI
import Derived.Test.YtmiebnpmckjidaaDoorAidH
import Derived.Test.YtmiebnpmckjidaaDoorAidC
namespace Go.Proofs.YtmiebnpmckjidaaDoor.Pure
open Go.RowKit Go.Proofs.YtmiebnpmckjidaaDoor.Aid Go.Proofs.YtmiebnpmckjidaaDoor.PFnExactReadIns Go.Proofs.YtmiebnpmckjidaaDoor.PFnExactLengthOf Go.Proofs.YtmiebnpmckjidaaDoor.PFnExactTemplateOf Go.Proofs.YtmiebnpmckjidaaDoorW.PrintWords Go.Proofs.YtmiebnpmckjidaaDoorW.PrintLast Go.Proofs.YtmiebnpmckjidaaDoorW.PrintMore
set_option linter.unusedVariables false
set_option linter.unusedSimpArgs false

theorem spec_l1In_eq (a b c : Int) : spec_l1In.f a b c = some (inR a b c) := by
  unfold spec_l1In.f inR
  by_cases h : a ≥ b
  · rw [if_pos h, decide_eq_true (show b ≤ a from h)]
    rfl
  · rw [if_neg h, decide_eq_false (show ¬ b ≤ a from h)]
    rfl

theorem impl_within_eq (a b c : Int) : impl_within.f a b c = some (inR a b c) := by
  unfold impl_within.f inR
  by_cases h : a ≥ b
  · rw [if_pos h, decide_eq_true (show b ≤ a from h)]
    rfl
  · rw [if_neg h, decide_eq_false (show ¬ b ≤ a from h)]
    rfl

theorem impl_isByte_eq (a : Int) : impl_isByte.f a = some (inR a 0 255) := by
  unfold impl_isByte.f
  rw [impl_within_eq]
  rfl

theorem impl_isWord_eq (a : Int) : impl_isWord.f a = some (inR a 0 65535) := by
  unfold impl_isWord.f
  rw [impl_within_eq]
  rfl

theorem spec_HexOf_l0 (d : Nat) (hd : d ≤ 4) : ∀ (m k i a : Nat) (s : List UInt8), i + m = d → m < k → a < 65536 → s.length + m ≤ 4 → spec_HexOf.l0 k (a : Int) (d : Int) ⟨s.toArray⟩ (i : Int) = some (if a / 16 ^ m = 0 then ⟨(36 :: (hexFix m a ++ s)).toArray⟩ else ⟨#[]⟩) := by
  intro m
  induction m with
  | zero =>
    intro k i a s hi hk ha hs
    obtain ⟨k, rfl⟩ : ∃ q, k = q + 1 := ⟨k - 1, by omega⟩
    simp only [spec_HexOf.l0]
    rw [if_neg (by omega)]
    by_cases h : a = 0
    · subst h
      rw [if_neg (by omega), if_pos (by rw [bytes_size]; omega), if_pos (by simp), show (⟨#[36]⟩ : ByteArray) = ⟨[36].toArray⟩ from rfl, bytes_append]
      rfl
    · rw [if_pos (by omega), if_neg (by simp; exact h)]
  | succ m ih =>
    intro k i a s hi hk ha hs
    obtain ⟨k, rfl⟩ : ∃ q, k = q + 1 := ⟨k - 1, by omega⟩
    simp only [spec_HexOf.l0]
    have e1 : Int.tmod (a : Int) 16 = ((a % 16 : Nat) : Int) := by
      rw [Int.tmod_eq_emod_of_nonneg (by omega)]; omega
    have e2 : wrap64 (Int.tdiv (a : Int) 16) = ((a / 16 : Nat) : Int) := by
      rw [Int.tdiv_eq_ediv_of_nonneg (by omega), w64 (by omega) (by omega)]; omega
    have e3 : wrap64 (((a % 16 : Nat) : Int) + 1) = ((a % 16 + 1 : Nat) : Int) := by
      rw [w64 (by omega) (by omega)]; omega
    have e4 : wrap64 ((i : Int) + 1) = ((i + 1 : Nat) : Int) := by
      rw [w64 (by omega) (by omega)]; omega
    simp only [e1, e2, e3, e4, Int.toNat_natCast]
    rw [if_pos (by omega), if_pos (by omega), if_pos (by omega), if_pos (by omega), digit_cut (a % 16) (by omega), if_pos (by rw [bytes_size, bytes_size]; simp; omega), bytes_append, ih k (i + 1) (a / 16) _ (by omega) (by omega) (by omega) (by simp; omega)]
    rw [Nat.pow_succ, Nat.mul_comm, ← Nat.div_div_eq_div_mul]
    simp [hexFix]
theorem spec_HexOf_eq (n d : Int) {k : Nat} (hk : 10 ≤ k) : spec_HexOf.f k n d = some (if inR d 1 4 = true then (if inR n 0 65535 = true then hexText d.toNat n.toNat else ⟨#[]⟩) else ⟨#[]⟩) := by
  obtain ⟨k, rfl⟩ : ∃ q, k = q + 1 := ⟨k - 1, by omega⟩
  unfold spec_HexOf.f
  simp only [spec_l1In_eq, Option.bind_some]
  by_cases h1 : inR d 1 4 = true
  · by_cases h2 : inR n 0 65535 = true
    · simp only [h1, h2, if_true, spec_HexOf.j0, Bool.not_true, Bool.false_eq_true, if_false]
      rw [inR_iff] at h1 h2
      obtain ⟨a, rfl⟩ : ∃ a : Nat, n = (a : Int) := ⟨n.toNat, by omega⟩
      obtain ⟨e, rfl⟩ : ∃ e : Nat, d = (e : Int) := ⟨d.toNat, by omega⟩
      have := spec_HexOf_l0 e (by omega) e k 0 a [] (by omega) (by omega) (by omega) (by simp; omega)
      rw [show ((0 : Nat) : Int) = 0 from rfl, show (⟨([] : List UInt8).toArray⟩ : ByteArray) = ⟨#[]⟩ from rfl, List.append_nil] at this
      rw [this]
      rfl
    · rw [Bool.not_eq_true] at h2
      simp only [h1, h2, if_true, spec_HexOf.j0, Bool.not_false, Bool.false_eq_true, if_false]
  · rw [Bool.not_eq_true] at h1
    simp only [h1, spec_HexOf.j0, Bool.false_eq_true, if_false, if_true]

theorem impl_hexDigits_eq (n d : Nat) (hn : n < 65536) (hd0 : 1 ≤ d) (hd : d ≤ 4) (hz : n / 16 ^ d = 0) : impl_hexDigits.f (n : Int) (d : Int) = some ⟨(hexFix d n).toArray⟩ := by
  unfold impl_hexDigits.f strconv_FormatInt.f
  rw [if_neg (by decide), if_pos rfl, if_pos (by omega), if_pos (by omega)]
  simp only [Option.bind_some, Int.toNat_natCast]
  have hl := hexLow_len n
  unfold strings_ToUpper.f
  rw [if_pos (by rw [bytes_size]; omega), if_pos (by rw [List.all_eq_true]; intro b hb; exact decide_eq_true (hexLow_small n hn b (by simpa using hb)))]
  simp only [Option.bind_some]
  have hsz : (⟨(Go.Lib.toUpperA (hexLow n).toArray.toList).toArray⟩ : ByteArray).size = (hexLow n).length := by rw [bytes_size]; simp [Go.Lib.toUpperA]
  rw [hsz]
  have hm : mx 0 (wrap64 ((d : Int) - ((hexLow n).length : Int))) = ((d - (hexLow n).length : Nat) : Int) := by
    rw [w64 (by omega) (by omega)]
    unfold mx
    split <;> omega
  rw [hm]
  unfold strings_Repeat.f
  rw [if_pos (by omega), if_pos (by omega), if_pos (by rw [show (⟨#[48]⟩ : ByteArray).size = 1 from rfl]; omega)]
  simp only [Option.bind_some, Int.toNat_natCast]
  have hr : (⟨(Go.Lib.repeatL (⟨#[48]⟩ : ByteArray).data.toList (d - (hexLow n).length)).toArray⟩ : ByteArray).size = d - (hexLow n).length := by
    rw [bytes_size, Go.Lib.repeatL_length]; simp
  rw [hr, if_pos (by omega), bytes_append]
  have := hexPad d n hd0 hd hz hn
  rw [← this]
  simp [Go.Lib.toUpperA]
theorem shr_hex (n d : Nat) (hd : d ≤ 4) : shr .i64 (n : Int) (4 * (d : Int)) = ((n / 16 ^ d : Nat) : Int) := by
  unfold shr
  have e : min (4 * (d : Int)).toNat IntKind.i64.bits = 4 * d := by
    rw [show (4 * (d : Int)).toNat = 4 * d by omega]
    exact Nat.min_eq_left (by show 4 * d ≤ 64; omega)
  have hp : (2 : Int) ^ (4 * d) = ((16 ^ d : Nat) : Int) := by
    have h4 : d = 0 ∨ d = 1 ∨ d = 2 ∨ d = 3 ∨ d = 4 := by omega
    rcases h4 with rfl | rfl | rfl | rfl | rfl <;> rfl
  rw [e, hp]
  rfl
theorem impl_HexOf_eq (n d : Int) : impl_HexOf.f n d = some (if inR d 1 4 = true then (if inR n 0 65535 = true then hexText d.toNat n.toNat else ⟨#[]⟩) else ⟨#[]⟩) := by
  unfold impl_HexOf.f
  simp only [impl_within_eq, impl_isWord_eq, Option.bind_some]
  by_cases h1 : inR d 1 4 = true
  · by_cases h2 : inR n 0 65535 = true
    · simp only [h1, h2, if_true]
      rw [inR_iff] at h1 h2
      obtain ⟨a, rfl⟩ : ∃ a : Nat, n = (a : Int) := ⟨n.toNat, by omega⟩
      obtain ⟨e, rfl⟩ : ∃ e : Nat, d = (e : Int) := ⟨d.toNat, by omega⟩
      rw [w64 (by omega) (by omega), if_pos (by omega), shr_hex a e (by omega)]
      unfold hexText
      simp only [Int.toNat_natCast]
      by_cases hz : a / 16 ^ e = 0
      · rw [hz, if_neg (by decide), impl_hexDigits_eq a e (by omega) (by omega) (by omega) hz, if_pos rfl]
        simp only [Option.bind_some]
        rw [if_pos (by rw [bytes_size, hexFix_len]; omega), show (⟨#[36]⟩ : ByteArray) = ⟨[36].toArray⟩ from rfl, bytes_append]
        rfl
      · rw [if_pos (show ((a / 16 ^ e : Nat) : Int) > 0 from Int.natCast_pos.2 (Nat.pos_of_ne_zero hz)), if_neg hz]
    · rw [Bool.not_eq_true] at h2
      simp only [h1, h2, if_true, Bool.false_eq_true, if_false]
  · rw [Bool.not_eq_true] at h1
    simp only [h1, Bool.false_eq_true, if_false]

theorem ext_data (t : ByteArray) (i n : Nat) (h : i + n ≤ t.size) : (t.extract i (i + n)).data.toList = (t.data.toList.drop i).take n := by
  simp [ByteArray.data_extract, Array.toList_extract, List.extract]
theorem ext_occ (t p : ByteArray) (i : Nat) (h : i + p.size ≤ t.size) : ((t.extract i (i + p.size)).toList = p.toList) ↔ Go.Lib.occAt t.data.toList p.data.toList i = true := by
  have e := ext_data t i p.size h
  have hl : p.data.toList.length = p.size := by rw [Array.length_toList]; rfl
  unfold Go.Lib.occAt
  rw [List.isPrefixOf_iff_prefix, List.prefix_iff_eq_take, hl, ← e]
  constructor
  · intro hh
    rw [toList_inj hh]
  · intro hh
    have : p = t.extract i (i + p.size) := ByteArray.ext (Array.toList_inj.1 hh)
    rw [← this]
theorem spec_l3Hole_l1 (t : ByteArray) (hs : List ByteArray) (q : Nat) (hq : q < hs.length) (hql : hs.length ≤ 10) (p : ByteArray) (hp : rdOf ByteArray.empty hs (q : Int) = p) (hp0 : 1 ≤ p.size) (hp1 : p.size ≤ 10) (ht : t.size ≤ 1000) (K : Nat) (r : Int × ByteArray)
    (hr : ∀ k, K ≤ k → spec_l3Hole.l0 k t hs ((q + 1 : Nat) : Int) = some r) :
    ∀ (m k i : Nat), i + m = t.size + 1 → K + m + 2 ≤ k → Go.Lib.NoOcc t.data.toList p.data.toList i → spec_l3Hole.l1 k t hs (q : Int) (i : Int) = some (if 0 ≤ Go.Lib.index t.data.toList p.data.toList then (Go.Lib.index t.data.toList p.data.toList, p) else r) := by
  have hlt : t.data.toList.length = t.size := by rw [Array.length_toList]; rfl
  have hlp : p.data.toList.length = p.size := by rw [Array.length_toList]; rfl
  have hpn : p.data.toList ≠ [] := by intro h; rw [h] at hlp; simp at hlp; omega
  have hup : wrap64 ((q : Int) + 1) = ((q + 1 : Nat) : Int) := by rw [w64 (by omega) (by omega)]; omega
  intro m
  induction m with
  | zero =>
    intro k i hi hk hno
    obtain ⟨k, rfl⟩ : ∃ z, k = z + 1 := ⟨k - 1, by omega⟩
    rw [spec_l3Hole.l1]
    rw [if_pos (by omega), if_pos (by omega), hp, w64 (by omega) (by omega), if_neg (by omega), hup, hr k (by omega)]
    have := Go.Lib.index_past hpn hno (by omega)
    rw [this]
    rfl
  | succ m ih =>
    intro k i hi hk hno
    obtain ⟨k, rfl⟩ : ∃ z, k = z + 1 := ⟨k - 1, by omega⟩
    rw [spec_l3Hole.l1]
    rw [if_pos (by omega), if_pos (by omega), hp, w64 (by omega) (by omega)]
    by_cases hfit : i + p.size ≤ t.size
    · rw [if_pos (by omega), if_pos (by omega), if_pos (by omega), show ((i : Int) + (p.size : Int)).toNat = i + p.size by omega, Int.toNat_natCast]
      by_cases ho : Go.Lib.occAt t.data.toList p.data.toList i = true
      · rw [if_pos ((ext_occ t p i hfit).2 ho)]
        have hx := Go.Lib.index_hit hno (by omega) ho
        rw [hx, if_pos (by omega)]
      · rw [if_neg (fun h => ho ((ext_occ t p i hfit).1 h))]
        have hui : wrap64 ((i : Int) + 1) = ((i + 1 : Nat) : Int) := by rw [w64 (by omega) (by omega)]; omega
        rw [hui]
        exact ih k (i + 1) (by omega) (by omega) (hno.succ (by simpa using ho))
    · rw [if_neg (by omega), hup, hr k (by omega)]
      have := Go.Lib.index_past hpn hno (by omega)
      rw [this]
      rfl
def pN16 : ByteArray := ⟨#[110, 49, 54]⟩
def pN8 : ByteArray := ⟨#[110, 56]⟩
def pE8 : ByteArray := ⟨#[101, 56]⟩
/-- The hole of a text: where, and which. -/
def holeAt (t : ByteArray) : Int × ByteArray :=
  if 0 ≤ Go.Lib.index t.data.toList pN16.data.toList then (Go.Lib.index t.data.toList pN16.data.toList, pN16)
  else if 0 ≤ Go.Lib.index t.data.toList pN8.data.toList then (Go.Lib.index t.data.toList pN8.data.toList, pN8)
  else if 0 ≤ Go.Lib.index t.data.toList pE8.data.toList then (Go.Lib.index t.data.toList pE8.data.toList, pE8)
  else (-1, ⟨#[]⟩)
theorem spec_l3Hole_eq (t : ByteArray) (ht : t.size ≤ 1000) {k : Nat} (hk : 5000 ≤ k) : spec_l3Hole.f k t = some (holeAt t) := by
  unfold spec_l3Hole.f
  have h3 : ∀ k, 1 ≤ k → spec_l3Hole.l0 k t [pN16, pN8, pE8] ((3 : Nat) : Int) = some (-1, ⟨#[]⟩) := by
    intro k hk
    obtain ⟨k, rfl⟩ : ∃ z, k = z + 1 := ⟨k - 1, by omega⟩
    rw [spec_l3Hole.l0, if_neg (by decide)]
  have step : ∀ (q : Nat) (p : ByteArray) (K : Nat) (r : Int × ByteArray), q < 3 → rdOf ByteArray.empty [pN16, pN8, pE8] (q : Int) = p → 1 ≤ p.size → p.size ≤ 10 → (∀ k, K ≤ k → spec_l3Hole.l0 k t [pN16, pN8, pE8] ((q + 1 : Nat) : Int) = some r) →
      ∀ k, K + t.size + 4 ≤ k → spec_l3Hole.l0 k t [pN16, pN8, pE8] (q : Int) = some (if 0 ≤ Go.Lib.index t.data.toList p.data.toList then (Go.Lib.index t.data.toList p.data.toList, p) else r) := by
    intro q p K r hq hp h0 h1 hr k hk
    obtain ⟨k, rfl⟩ : ∃ z, k = z + 1 := ⟨k - 1, by omega⟩
    rw [spec_l3Hole.l0, if_pos (by simp only [List.length_cons, List.length_nil]; omega)]
    exact spec_l3Hole_l1 t _ q (by simpa using hq) (by decide) p hp h0 h1 ht K r hr (t.size + 1) k 0 (by omega) (by omega) (Go.Lib.NoOcc.zero _ _)
  have s2 := step 2 pE8 1 _ (by decide) rfl (by decide) (by decide) h3
  have s1 := step 1 pN8 _ _ (by decide) rfl (by decide) (by decide) s2
  have s0 := step 0 pN16 _ _ (by decide) rfl (by decide) (by decide) s1
  exact s0 k (by omega)
theorem names_holes : impl_names.f (⟨#[110, 49, 54, 32, 110, 56, 32, 101, 56]⟩ : ByteArray) = some [pN16, pN8, pE8] := by kernel_rfl
theorem impl_holeOf_eq (t : ByteArray) (ht : t.size ≤ 1000) {k : Nat} (hk : 10 ≤ k) : impl_holeOf.f k t = some (holeAt t).2 := by
  obtain ⟨k, rfl⟩ : ∃ z, k = z + 4 := ⟨k - 4, by omega⟩
  unfold impl_holeOf.f
  rw [names_holes]
  simp only [Option.bind_some]
  have hc : ∀ p : ByteArray, strings_Contains.f t p = some (decide (0 ≤ Go.Lib.index t.data.toList p.data.toList)) := by
    intro p
    unfold strings_Contains.f
    rw [if_pos (by omega)]
    rfl
  unfold holeAt
  rw [impl_holeOf.l0, if_pos (by decide), if_pos (by decide), if_pos (by decide), show rdOf ByteArray.empty [pN16, pN8, pE8] 0 = pN16 from rfl, hc]
  simp only [Option.bind_some, decide_eq_true_eq]
  by_cases c0 : 0 ≤ Go.Lib.index t.data.toList pN16.data.toList
  · rw [if_pos c0, if_pos c0]
  · rw [if_neg c0, if_neg c0, show wrap64 (0 + 1) = 1 from by unfold wrap64; decide, impl_holeOf.l0, if_pos (by decide), if_pos (by decide), if_pos (by decide), show rdOf ByteArray.empty [pN16, pN8, pE8] 1 = pN8 from rfl, hc]
    simp only [Option.bind_some, decide_eq_true_eq]
    by_cases c1 : 0 ≤ Go.Lib.index t.data.toList pN8.data.toList
    · rw [if_pos c1, if_pos c1]
    · rw [if_neg c1, if_neg c1, show wrap64 (1 + 1) = 2 from by unfold wrap64; decide, impl_holeOf.l0, if_pos (by decide), if_pos (by decide), if_pos (by decide), show rdOf ByteArray.empty [pN16, pN8, pE8] 2 = pE8 from rfl, hc]
      simp only [Option.bind_some, decide_eq_true_eq]
      by_cases c2 : 0 ≤ Go.Lib.index t.data.toList pE8.data.toList
      · rw [if_pos c2, if_pos c2]
      · rw [if_neg c2, if_neg c2, show wrap64 (2 + 1) = 3 from by unfold wrap64; decide, impl_holeOf.l0, if_neg (by decide)]
theorem holeAt_kind (t : ByteArray) : (holeAt t).2 = pN16 ∨ (holeAt t).2 = pN8 ∨ (holeAt t).2 = pE8 ∨ (holeAt t).2 = ⟨#[]⟩ := by
  unfold holeAt
  split
  · exact .inl rfl
  · split
    · exact .inr (.inl rfl)
    · split
      · exact .inr (.inr (.inl rfl))
      · exact .inr (.inr (.inr rfl))

def lenT (t : ByteArray) (cb : Bool) : Int := if t.size = 0 then 0 else if cb = true then 2 else if (holeAt t).2 = ⟨#[]⟩ then 1 else if (holeAt t).2 = pN16 then 3 else 2
def lenOf (c : Int) (cb : Bool) : Int := if 0 ≤ c ∧ c < 256 then lenT (tmplT c.toNat cb) cb else 0
theorem tmplT_size : ∀ n : Nat, n < 256 → ∀ cb : Bool, (tmplT n cb).size ≤ 100 := by decide +kernel
theorem bytes_toList (l : List UInt8) : (⟨l.toArray⟩ : ByteArray).toList = l := by rw [ByteArray.toList_eq]
theorem list_of (s : ByteArray) (l : List UInt8) : s.toList = l ↔ s = ⟨l.toArray⟩ := by
  constructor
  · intro h
    apply toList_inj
    rw [h, bytes_toList]
  · intro h
    rw [h, bytes_toList]
theorem spec_l3Length_eq (c : Int) (cb : Bool) (h : 0 ≤ c ∧ c < 256) {k : Nat} (hk : 5000 ≤ k) : spec_l3Length.f k c cb = some (lenT (tmplT c.toNat cb) cb) := by
  unfold spec_l3Length.f spec_l3Template.f
  rw [if_pos h]
  simp only [Option.bind_some]
  have hs := tmplT_size c.toNat (by omega) cb
  generalize tmplT c.toNat cb = t at hs
  unfold lenT
  by_cases h0 : t.size = 0
  · rw [if_pos h0, if_pos (size_zero.2 h0)]
  · rw [if_neg h0, if_neg (fun h => h0 (size_zero.1 h))]
    by_cases hc : cb = true
    · rw [if_pos hc, if_pos hc]
    · rw [if_neg hc, if_neg hc, spec_l3Hole_eq t (by omega) hk]
      simp only [Option.bind_some]
      have e1 : ((holeAt t).2.toList = ([] : List UInt8)) ↔ (holeAt t).2 = ⟨#[]⟩ := list_of _ _
      have e2 : ((holeAt t).2.toList = ([110, 49, 54] : List UInt8)) ↔ (holeAt t).2 = pN16 := list_of _ _
      by_cases x1 : (holeAt t).2 = ⟨#[]⟩
      · rw [if_pos x1, if_pos (e1.2 x1)]
      · rw [if_neg x1, if_neg (fun h => x1 (e1.1 h))]
        by_cases x2 : (holeAt t).2 = pN16
        · rw [if_pos x2, if_pos (e2.2 x2)]
        · rw [if_neg x2, if_neg (fun h => x2 (e2.1 h))]
theorem impl_LengthOf_eq (c : Int) (cb : Bool) {k : Nat} (hk : 5000 ≤ k) : impl_LengthOf.f k c cb = some (lenOf c cb) := by
  obtain ⟨k, rfl⟩ : ∃ z, k = z + 1 := ⟨k - 1, by omega⟩
  unfold impl_LengthOf.f impl_TemplateOf.f lenOf
  simp only [Option.bind_some]
  by_cases h : 0 ≤ c ∧ c < 256
  · rw [if_pos h, if_pos h]
    have hs := tmplT_size c.toNat (by omega) cb
    generalize tmplT c.toNat cb = t at hs
    unfold lenT
    rw [impl_holeOf_eq t (by omega) (by omega)]
    simp only [Option.bind_some]
    have e1 : ((holeAt t).2.toList = ([110, 56] : List UInt8)) ↔ (holeAt t).2 = pN8 := list_of _ _
    have e2 : ((holeAt t).2.toList = ([110, 49, 54] : List UInt8)) ↔ (holeAt t).2 = pN16 := list_of _ _
    have e3 : ((holeAt t).2.toList = ([101, 56] : List UInt8)) ↔ (holeAt t).2 = pE8 := list_of _ _
    by_cases h0 : t.size = 0
    · rw [if_pos h0, if_pos (size_zero.2 h0)]
    · rw [if_neg h0, if_neg (fun h => h0 (size_zero.1 h))]
      by_cases hc : cb = true
      · rw [if_pos hc, if_pos hc, impl_LengthOf.j0, if_pos rfl]
      · rw [if_neg hc, if_neg hc]
        rcases holeAt_kind t with hp | hp | hp | hp
        · rw [if_neg (fun h => absurd (hp.symm.trans (e1.1 h)) (by decide)), impl_LengthOf.j0, if_neg (by rw [beq_iff_eq]; intro h; exact absurd (hp.symm.trans (e3.1 h)) (by decide)), if_pos (e2.2 hp), hp, if_neg (by decide), if_pos rfl]
        · rw [if_pos (e1.2 hp), impl_LengthOf.j0, if_pos rfl, hp, if_neg (by decide), if_neg (by decide)]
        · rw [if_neg (fun h => absurd (hp.symm.trans (e1.1 h)) (by decide)), impl_LengthOf.j0, if_pos (by rw [beq_iff_eq]; exact e3.2 hp), hp, if_neg (by decide), if_neg (by decide)]
        · rw [if_neg (fun h => absurd (hp.symm.trans (e1.1 h)) (by decide)), impl_LengthOf.j0, if_neg (by rw [beq_iff_eq]; intro h; exact absurd (hp.symm.trans (e3.1 h)) (by decide)), if_neg (fun h => absurd (hp.symm.trans (e2.1 h)) (by decide)), hp, if_pos rfl]
  · rw [if_neg h, if_neg h]
    have hh : holeAt ⟨#[]⟩ = (-1, ⟨#[]⟩) := by decide
    rw [impl_holeOf_eq ⟨#[]⟩ (by decide) (by omega)]
    simp only [Option.bind_some]
    rw [if_pos (size_zero.2 rfl)]
theorem spec_LengthOf_eq (c : Int) (cb : Bool) {k : Nat} (hk : 5000 ≤ k) : spec_LengthOf.f k c cb = some (lenOf c cb) := by
  unfold spec_LengthOf.f lenOf
  rw [spec_l1In_eq]
  simp only [Option.bind_some]
  by_cases h : 0 ≤ c ∧ c < 256
  · rw [if_pos h, if_pos (inR_pos h.1 (by omega)), spec_l3Length_eq c cb h hk]
    rfl
  · rw [if_neg h, if_neg (by rw [inR_iff]; omega)]

theorem or_byte {x y : Nat} (hx : x < 65536) (hy : y < 256) : Go.bits .or .i64 ((x : Int) * 256) (y : Int) = ((x * 256 + y : Nat) : Int) := by
  show IntKind.i64.wrap (((BitVec.ofInt 64 ((x : Int) * 256)) ||| (BitVec.ofInt 64 (y : Int))).toNat : Int) = _
  have e1 : BitVec.ofInt 64 ((x : Int) * 256) = BitVec.ofNat 64 (x * 256) := by
    rw [show (x : Int) * 256 = ((x * 256 : Nat) : Int) by omega, BitVec.ofInt_natCast]
  rw [e1, BitVec.ofInt_natCast, BitVec.toNat_or, BitVec.toNat_ofNat, BitVec.toNat_ofNat, Nat.mod_eq_of_lt (by omega), Nat.mod_eq_of_lt (by omega)]
  have e2 : x * 256 ||| y = x * 256 + y := by
    have h := Nat.shiftLeft_add_eq_or_of_lt (show y < 2 ^ 8 by omega) x
    rw [Nat.shiftLeft_eq, show (2 : Nat) ^ 8 = 256 from rfl] at h
    exact h.symm
  rw [e2, IntKind.wrap_i64]
  omega
theorem bt_ext (s : ByteArray) (i j : Nat) (h : i + j < s.size) : bt (s.extract i s.size) (j : Int) = bt s ((i + j : Nat) : Int) := by
  unfold bt
  have hsz : (s.extract i s.size).size = s.size - i := by simp
  rw [dif_pos (by rw [Int.toNat_natCast, hsz]; omega), dif_pos (by rw [Int.toNat_natCast]; exact h)]
  simp only [Int.toNat_natCast, ByteArray.getElem_extract]
theorem lenOf_cases (c : Int) : lenOf c false = 0 ∨ lenOf c false = 1 ∨ lenOf c false = 2 ∨ lenOf c false = 3 := by
  unfold lenOf
  split
  · unfold lenT
    split
    · exact .inl rfl
    · rw [if_neg (by decide)]
      split
      · exact .inr (.inl rfl)
      · split
        · exact .inr (.inr (.inr rfl))
        · exact .inr (.inr (.inl rfl))
  · exact .inl rfl
theorem l3At_eq (s : ByteArray) (i : Nat) (h : i < s.size) : spec_l3At.f s (i : Int) = some (bt s (i : Int)) := by
  unfold spec_l3At.f
  rw [if_pos (by omega), if_pos (by omega), wbt]
theorem read_both (s : ByteArray) (hs : s.size ≤ 1048576) (a : Int) (ha : -9223372036854775808 ≤ a ∧ a ≤ 9223372036854775807) {k : Nat} (hk : 6000 ≤ k) : ∃ r, spec_ReadIns.f k s a = some r ∧ impl_ReadIns.f k s a = some r := by
  obtain ⟨k, rfl⟩ : ∃ z, k = z + 4 := ⟨k - 4, by omega⟩
  unfold spec_ReadIns.f impl_ReadIns.f
  rw [impl_within_eq]
  simp only [Option.bind_some]
  have hw2 : wrap64 ((s.size : Int) - 1) = (s.size : Int) - 1 := w64 (by omega) (by omega)
  rw [hw2]
  by_cases h0 : a < 0
  · rw [if_pos h0, spec_ReadIns.j0, if_pos rfl, if_neg (by rw [inR_iff]; omega)]
    exact ⟨_, rfl, rfl⟩
  rw [if_neg h0, show wrap64 ((s.size : Int) - a) = (s.size : Int) - a from w64 (by omega) (by omega), spec_ReadIns.j0]
  by_cases h1 : (s.size : Int) - a < 1
  · rw [decide_eq_true h1, if_pos rfl, if_neg (by rw [inR_iff]; omega)]
    exact ⟨_, rfl, rfl⟩
  obtain ⟨i, rfl⟩ : ∃ i : Nat, a = (i : Int) := ⟨a.toNat, by omega⟩
  have hi : i < s.size := by omega
  have hA : (0 : Int) ≤ (i : Int) := by omega
  have hB : (i : Int) ≤ (s.size : Int) := by omega
  have hC : (0 : Int) < ((s.size - i : Nat) : Int) := by omega
  have hsz : (s.extract i s.size).size = s.size - i := by simp
  have hb0 : bt (s.extract i s.size) 0 = bt s (i : Int) := bt_ext s i 0 (by omega)
  have hR : inR (i : Int) 0 ((s.size : Int) - 1) = true := inR_pos (by omega) (by omega)
  have hF : ¬ (false = true) := by decide
  rw [decide_eq_false h1, hR]
  simp only [if_neg hF, if_true, if_pos hA, if_pos hB, Int.toNat_natCast, hsz, hb0, if_pos hC]
  rw [l3At_eq s i hi]
  simp only [Option.bind_some]
  have hc0 := bt_nonneg s (i : Int)
  have hc1 := bt_le s (i : Int)
  have hup1 : wrap64 ((i : Int) + 1) = ((i + 1 : Nat) : Int) := by rw [w64 (by omega) (by omega)]; omega
  have hup2 : wrap64 ((i : Int) + 2) = ((i + 2 : Nat) : Int) := by rw [w64 (by omega) (by omega)]; omega
  by_cases h203 : bt s (i : Int) = 203
  · simp only [if_pos h203]
    by_cases h2 : (s.size : Int) - (i : Int) < 2
    · have h2' : ((s.size - i : Nat) : Int) < 2 := by omega
      simp only [if_pos h2, if_pos h2']
      exact ⟨_, rfl, rfl⟩
    · have h2' : ¬ ((s.size - i : Nat) : Int) < 2 := by omega
      have h2'' : (1 : Int) < ((s.size - i : Nat) : Int) := by omega
      have he1 : bt (s.extract i s.size) 1 = bt s ((i + 1 : Nat) : Int) := bt_ext s i 1 (by omega)
      simp only [if_neg h2, if_neg h2', if_pos h2'', hup1, he1, wbt]
      rw [l3At_eq s (i + 1) (by omega)]
      exact ⟨_, rfl, rfl⟩
  · rw [if_neg h203, if_neg h203, wbt, impl_LengthOf_eq _ false (by omega), spec_l3Length_eq _ false (by omega) (by omega)]
    simp only [Option.bind_some]
    have hl : lenT (tmplT (bt s (i : Int)).toNat false) false = lenOf (bt s (i : Int)) false := by unfold lenOf; rw [if_pos (by omega)]
    rw [hl]
    have hlc := lenOf_cases (bt s (i : Int))
    generalize lenOf (bt s (i : Int)) false = n at hlc
    by_cases hn0 : n = 0
    · rw [if_pos hn0, if_pos hn0, spec_ReadIns.j1, if_pos rfl, impl_ReadIns.j0, if_pos rfl]
      exact ⟨_, rfl, rfl⟩
    · rw [if_neg hn0, if_neg hn0, spec_ReadIns.j1, impl_ReadIns.j0]
      by_cases hbig : n > (s.size : Int) - (i : Int)
      · rw [decide_eq_true hbig, if_pos rfl, decide_eq_true (show ((s.size - i : Nat) : Int) < n by omega), if_pos rfl]
        exact ⟨_, rfl, rfl⟩
      · rw [decide_eq_false hbig, decide_eq_false (show ¬ ((s.size - i : Nat) : Int) < n by omega)]
        simp only [if_neg hF]
        rcases hlc with rfl | rfl | rfl | rfl
        · exact absurd rfl hn0
        · have w1 : wrap64 (1 - 1) = 0 := by unfold wrap64; decide
          have g1 : ¬ ((1 : Int) > 1) := by decide
          have g2 : ¬ ((1 : Int) > 2) := by decide
          have g3 : ¬ ((0 : Int) > 0) := by decide
          simp only [w1, if_neg g1, if_neg g2]
          rw [impl_ReadIns.l0]
          simp only [if_neg g3]
          exact ⟨_, rfl, rfl⟩
        · have w1 : wrap64 (2 - 1) = 1 := by unfold wrap64; decide
          have w2 : wrap64 (1 - 1) = 0 := by unfold wrap64; decide
          have g1 : (2 : Int) > 1 := by decide
          have g2 : ¬ ((2 : Int) > 2) := by decide
          have g3 : ¬ ((0 : Int) > 0) := by decide
          have g4 : (1 : Int) > 0 := by decide
          have g5 : (0 : Int) ≤ 1 := by decide
          have g6 : (1 : Int) < ((s.size - i : Nat) : Int) := by omega
          have he1 : bt (s.extract i s.size) 1 = bt s ((i + 1 : Nat) : Int) := bt_ext s i 1 (by omega)
          simp only [w1, if_pos g1, if_neg g2, hup1]
          rw [l3At_eq s (i + 1) (by omega), impl_ReadIns.l0]
          simp only [if_pos g4, if_pos g5, hsz, if_pos g6, w2, he1, wbt, Option.bind_some]
          rw [impl_ReadIns.l0]
          simp only [if_neg g3]
          have b0 := bt_nonneg s ((i + 1 : Nat) : Int)
          have b1 := bt_le s ((i + 1 : Nat) : Int)
          obtain ⟨y, hy⟩ : ∃ y : Nat, bt s ((i + 1 : Nat) : Int) = (y : Int) := ⟨(bt s ((i + 1 : Nat) : Int)).toNat, by omega⟩
          rw [hy, show wrap64 (0 * 256) = ((0 : Nat) : Int) * 256 from by unfold wrap64; decide, or_byte (by decide) (by omega)]
          exact ⟨_, rfl, by simp⟩
        · have w1 : wrap64 (3 - 1) = 2 := by unfold wrap64; decide
          have w2 : wrap64 (2 - 1) = 1 := by unfold wrap64; decide
          have w3 : wrap64 (1 - 1) = 0 := by unfold wrap64; decide
          have g1 : (3 : Int) > 1 := by decide
          have g2 : (3 : Int) > 2 := by decide
          have g3 : ¬ ((0 : Int) > 0) := by decide
          have g4 : (1 : Int) > 0 := by decide
          have g5 : (0 : Int) ≤ 1 := by decide
          have g7 : (2 : Int) > 0 := by decide
          have g8 : (0 : Int) ≤ 2 := by decide
          have g6 : (1 : Int) < ((s.size - i : Nat) : Int) := by omega
          have g9 : (2 : Int) < ((s.size - i : Nat) : Int) := by omega
          have he1 : bt (s.extract i s.size) 1 = bt s ((i + 1 : Nat) : Int) := bt_ext s i 1 (by omega)
          have he2 : bt (s.extract i s.size) 2 = bt s ((i + 2 : Nat) : Int) := bt_ext s i 2 (by omega)
          simp only [w1, if_pos g1, if_pos g2, hup1, hup2]
          rw [l3At_eq s (i + 1) (by omega), l3At_eq s (i + 2) (by omega), impl_ReadIns.l0]
          simp only [if_pos g7, if_pos g8, hsz, if_pos g9, w2, he2, wbt, Option.bind_some]
          rw [impl_ReadIns.l0]
          simp only [if_pos g4, if_pos g5, hsz, if_pos g6, w3, he1, wbt]
          rw [impl_ReadIns.l0]
          simp only [if_neg g3]
          have b0 := bt_nonneg s ((i + 1 : Nat) : Int)
          have b1 := bt_le s ((i + 1 : Nat) : Int)
          have b2 := bt_nonneg s ((i + 2 : Nat) : Int)
          have b3 := bt_le s ((i + 2 : Nat) : Int)
          obtain ⟨y, hy⟩ : ∃ y : Nat, bt s ((i + 1 : Nat) : Int) = (y : Int) := ⟨(bt s ((i + 1 : Nat) : Int)).toNat, by omega⟩
          obtain ⟨z, hz⟩ : ∃ z : Nat, bt s ((i + 2 : Nat) : Int) = (z : Int) := ⟨(bt s ((i + 2 : Nat) : Int)).toNat, by omega⟩
          rw [hy, hz, show wrap64 (0 * 256) = ((0 : Nat) : Int) * 256 from by unfold wrap64; decide, or_byte (by decide) (by omega)]
          rw [show wrap64 (((0 * 256 + z : Nat) : Int) * 256) = (z : Int) * 256 by rw [w64 (by omega) (by omega)]; omega, or_byte (by omega) (by omega)]
          rw [show wrap64 (256 * (z : Int)) = 256 * (z : Int) from w64 (by omega) (by omega), show wrap64 ((y : Int) + 256 * (z : Int)) = (y : Int) + 256 * (z : Int) from w64 (by omega) (by omega), show ((z * 256 + y : Nat) : Int) = (y : Int) + 256 * (z : Int) by omega]
          exact ⟨_, rfl, rfl⟩

theorem dig_nums {x : Nat} (h : x < 10) : strOfNums [(wrap64 (48 + (x : Int))) % 256] = ⟨[UInt8.ofNat (48 + x)].toArray⟩ := by
  unfold strOfNums
  rw [w64 (by omega) (by omega)]
  simp only [List.map_cons, List.map_nil]
  rw [show ((48 + (x : Int)) % 256).toNat = 48 + x by omega]
theorem dec_l0 : ∀ (m k x : Nat) (s : List UInt8), x < 10 ^ (m + 1) → m < k → m ≤ 4 → s.length + m ≤ 1000 → spec_l1Dec.l0 k (x : Int) ⟨s.toArray⟩ = some ⟨(Go.Lib.decDigits x ++ s).toArray⟩ := by
  have small : ∀ (k x : Nat) (s : List UInt8), x < 10 → 0 < k → s.length ≤ 1000 → spec_l1Dec.l0 k (x : Int) ⟨s.toArray⟩ = some ⟨(Go.Lib.decDigits x ++ s).toArray⟩ := by
    intro k x s hx hk hs
    obtain ⟨k, rfl⟩ : ∃ z, k = z + 1 := ⟨k - 1, by omega⟩
    rw [spec_l1Dec.l0, if_neg (by omega)]
    simp only [Option.bind_some]
    rw [dig_nums hx, if_pos (by rw [bytes_size, bytes_size]; simp; omega), bytes_append, Go.Lib.decDigits, dif_pos hx]
  intro m
  induction m with
  | zero => intro k x s hx hk _ hs; exact small k x s (by simpa using hx) hk (by omega)
  | succ m ih =>
    intro k x s hx hk hm hs
    by_cases h10 : x < 10
    · exact small k x s h10 (by omega) (by omega)
    · obtain ⟨k, rfl⟩ : ∃ z, k = z + 1 := ⟨k - 1, by omega⟩
      have hbig : x < 100000 := by
        have h4 : m = 0 ∨ m = 1 ∨ m = 2 ∨ m = 3 := by omega
        have : 10 ^ (m + 1 + 1) ≤ 100000 := by rcases h4 with rfl | rfl | rfl | rfl <;> decide
        omega
      have hd : x / 10 < 10 ^ (m + 1) := by
        rw [Nat.pow_succ, Nat.mul_comm] at hx
        exact Nat.div_lt_of_lt_mul hx
      rw [spec_l1Dec.l0, if_pos (by omega)]
      simp only [Option.bind_some]
      have e1 : Int.tmod (x : Int) 10 = ((x % 10 : Nat) : Int) := by rw [Int.tmod_eq_emod_of_nonneg (by omega)]; omega
      have e2 : wrap64 (Int.tdiv (x : Int) 10) = ((x / 10 : Nat) : Int) := by rw [Int.tdiv_eq_ediv_of_nonneg (by omega), w64 (by omega) (by omega)]; omega
      rw [e1, e2, dig_nums (by omega), if_pos (by rw [bytes_size, bytes_size]; simp; omega), bytes_append, ih k (x / 10) _ hd (by omega) (by omega) (by simp; omega)]
      conv => rhs; rw [Go.Lib.decDigits, dif_neg h10]
      simp
theorem spec_l1Dec_eq (n : Int) (h : -1000 < n ∧ n < 1000) {k : Nat} (hk : 20 ≤ k) : spec_l1Dec.f k n = some ⟨(Go.Lib.itoa n).toArray⟩ := by
  obtain ⟨k, rfl⟩ : ∃ z, k = z + 2 := ⟨k - 2, by omega⟩
  have pos : ∀ (k x : Nat), x < 1000 → 10 ≤ k → spec_l1Dec.f (k + 1) (x : Int) = some ⟨(Go.Lib.decDigits x).toArray⟩ := by
    intro k x hx hk
    rw [spec_l1Dec.f, if_neg (by omega)]
    have := dec_l0 2 k x [] (by omega) (by omega) (by decide) (by simp)
    rw [List.append_nil] at this
    exact this
  unfold Go.Lib.itoa
  by_cases h0 : n < 0
  · rw [if_pos h0, spec_l1Dec.f, if_pos h0, w64 (by omega) (by omega)]
    have hn : -n = ((n.natAbs : Nat) : Int) := by omega
    rw [hn, pos k n.natAbs (by omega) (by omega)]
    simp only [Option.bind_some]
    have hsz : (⟨(Go.Lib.decDigits n.natAbs).toArray⟩ : ByteArray).size ≤ 1000 := by
      have h1 : n.natAbs < 1000 := by omega
      have : ∀ x, x < 1000 → (Go.Lib.decDigits x).length ≤ 3 := by
        intro x hx
        rw [Go.Lib.decDigits]
        split
        · simp
        · rw [Go.Lib.decDigits]
          split
          · simp
          · rw [Go.Lib.decDigits, dif_pos (by omega)]
            simp
      rw [bytes_size]
      have := this _ h1
      omega
    rw [if_pos (by omega), show (⟨#[45]⟩ : ByteArray) = ⟨[45].toArray⟩ from rfl, bytes_append]
    rfl
  · rw [if_neg h0]
    obtain ⟨x, rfl⟩ : ∃ x : Nat, n = (x : Int) := ⟨n.toNat, by omega⟩
    rw [Int.toNat_natCast]
    exact pos (k + 1) x (by omega) (by omega)
theorem spec_l1Dec_pos (x : Nat) (h : x < 100000) {k : Nat} (hk : 20 ≤ k) : spec_l1Dec.f k (x : Int) = some ⟨(Go.Lib.itoa (x : Int)).toArray⟩ := by
  obtain ⟨k, rfl⟩ : ∃ z, k = z + 1 := ⟨k - 1, by omega⟩
  rw [spec_l1Dec.f, if_neg (by omega)]
  have := dec_l0 4 k x [] (by omega) (by omega) (by decide) (by simp)
  rw [List.append_nil] at this
  unfold Go.Lib.itoa
  rw [if_neg (by omega), Int.toNat_natCast]
  exact this

theorem FnExactReadIns (a0 : ByteArray) (a1 : Int) (h0 : a0.size ≤ maxLen) (h1 : (Lit.int .i64 a1).wf = true) : ∃ k, laws_FnExactReadIns.f k a0 a1 = some true := by
  refine ⟨6000, ?_⟩
  unfold laws_FnExactReadIns.f
  by_cases h : (a0.size : Int) > 1048576
  · rw [if_pos h]
  · rw [if_neg h]
    have hw := wf64 h1
    obtain ⟨r, e1, e2⟩ := read_both a0 (by omega) a1 hw (k := 6000) (by decide)
    rw [e1, e2]
    simp [laws_eqIns.f]

end Go.Proofs.YtmiebnpmckjidaaDoor.Pure
