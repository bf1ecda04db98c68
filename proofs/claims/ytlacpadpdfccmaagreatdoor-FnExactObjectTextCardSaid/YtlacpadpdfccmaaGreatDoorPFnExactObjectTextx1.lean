/- What the Go functions that the law FnExactObjectText reaches compute, function by function, and that Go comes to just that. -/
import Derived.Test.YtlacpadpdfccmaaGreatDoorPFnExactObjectTextx0
import Derived.Test.YtlacpadpdfccmaaGreatDoorAidZ
namespace Go.Proofs.YtlacpadpdfccmaaGreatDoor.PFnExactObjectText
open Go.RowKit Go.Proofs.YtlacpadpdfccmaaGreatDoor.Z Go.Proofs.YtlacpadpdfccmaaGreatDoorW.PrintWords Go.Proofs.YtlacpadpdfccmaaGreatDoorW.PrintLast Go.Proofs.YtlacpadpdfccmaaGreatDoorW.PrintMore
attribute [local go_sem] max2_int min2_int max_two min_two max_three min_three max_four min_four   -- for this text's walks alone
set_option linter.unusedVariables false
set_option linter.unusedSimpArgs false

mutual
def spec_l1Dec.l0 : Nat → Int → ByteArray → Option (ByteArray)
  | 0, _, _ => none
  | k + 1, x0, x3 => if x0 ≥ 10 then ((some (([(wrap64 (48 + (Int.tmod x0 10))) % 256] : List Int) : List Int)).bind fun y167 => (if (strOfNums y167).size + x3.size ≤ 9223372036854775807 then (spec_l1Dec.l0 k (wrap64 (Int.tdiv x0 10)) ((strOfNums y167) ++ x3)) else (none))) else ((some (([(wrap64 (48 + x0)) % 256] : List Int) : List Int)).bind fun y170 => (if (strOfNums y170).size + x3.size ≤ 9223372036854775807 then (some ((strOfNums y170) ++ x3)) else (none)))
def spec_l1Dec.f : Nat → Int → Option (ByteArray)
  | 0, _ => none
  | k + 1, a0 => if a0 < 0 then ((spec_l1Dec.f k (wrap64 (-a0))).bind fun t166 => (if 1 + t166.size ≤ 9223372036854775807 then (some ((⟨#[45]⟩ : ByteArray) ++ t166)) else (none))) else (spec_l1Dec.l0 k a0 (⟨#[]⟩ : ByteArray))
end
theorem spec_l1Dec.mono_l : ∀ k, (∀ y0, LeO (spec_l1Dec.f k y0) (spec_l1Dec.f (k + 1) y0)) ∧ (∀ y0 y1, LeO (spec_l1Dec.l0 k y0 y1) (spec_l1Dec.l0 (k + 1) y0 y1))
  | 0 => ⟨fun _ r h => by simp [spec_l1Dec.f] at h, fun _ _ r h => by simp [spec_l1Dec.l0] at h⟩
  | k + 1 => by
    obtain ⟨ih0, ih1⟩ := spec_l1Dec.mono_l k
    refine ⟨?_, ?_⟩
    · intro y0
      unfold spec_l1Dec.f
      repeat' with_reducible first | exact ih0 _ | exact ih1 _ _ | exact LeO.refl _ | exact LeO.none _ | refine LeO.ite ?_ ?_ | refine LeO.bind ?_ (fun _ => ?_)
    · intro y0 y1
      unfold spec_l1Dec.l0
      repeat' with_reducible first | exact ih0 _ | exact ih1 _ _ | exact LeO.refl _ | exact LeO.none _ | refine LeO.ite ?_ ?_ | refine LeO.bind ?_ (fun _ => ?_)
theorem spec_l1Dec.mono : ∀ a0 k, LeO (spec_l1Dec.f k a0) (spec_l1Dec.f (k + 1) a0) := by
  intro a0 k
  obtain ⟨ih0, ih1⟩ := spec_l1Dec.mono_l k
  exact ih0 a0
set_option maxHeartbeats 8000000 in
set_option maxRecDepth 100000 in
theorem spec_l1Dec.calls (k : Nat) : ∀ (a0 : Int) (r : ByteArray) (w : World) (h : spec_l1Dec.f k a0 = some r),
 Calls Tryz.prog 44 #[.int .i64 a0] w fun e w' => e = .returned (.string r) ∧ Below w.heap.size w w' := by
 induction k using Nat.strongRecOn with
 | _ k ih =>
 intro a0 r w h
 cases k with
 | zero => exact absurd h (by simp [spec_l1Dec.f])
 | succ k =>
 simp only [spec_l1Dec.f] at h
 have HB := Aside0.mk (Below.refl w.heap.size w)
 have H : (if a0 < 0 then ((spec_l1Dec.f k (wrap64 (-a0))).bind fun t166 => (if 1 + t166.size ≤ 9223372036854775807 then (some ((⟨#[45]⟩ : ByteArray) ++ t166)) else (none))) else (spec_l1Dec.l0 k a0 (⟨#[]⟩ : ByteArray))) = some r := h
 clear h
 by_cases c2 : a0 < 0
 ·rw [if_pos c2] at H
  have c2b0 : decide (a0 < 0) = true := decide_eq_true c2
  clear c2
  obtain ⟨t166, A30, H⟩ := Option.bind_eq_some_iff.mp H
  have A3 := Aside0.mk A30
  clear A30
  by_cases c4 : 1 + t166.size ≤ 9223372036854775807
  ·rw [if_pos c4] at H
   have c4b0 := eq_true c4
   have c4b1 : decide (1 + t166.size ≤ 9223372036854775807) = true := decide_eq_true c4
   try have c4b2 : (9223372036854775807 < 1 + t166.size) = False := eq_false (Nat.not_lt.2 c4)
   obtain rfl := Option.some.inj H
   go_enter Tryz.func44, Tryz.ntmps44
   go_wp2_with (first | ((with_reducible refine gate_callee (f := 44) rfl ?_); refine zc (some 8) Tryz.func44 #[.int .i64 (wrap64 (-a0))] ?_; (with_reducible refine (ih k (by omega) (wrap64 (-a0)) t166 _ A3.out).mono ?_); rintro e w5 ⟨rfl, hb⟩; refine ⟨_, rfl, ?_⟩; replace HB := zt w hb; (try clear hb); (try clear hb2); (try clear hk); (try clear hi)))
   go_ret
   exact ⟨ze _, zb _⟩
  ·rw [if_neg c4] at H
   exact absurd H (by simp)
 ·rw [if_neg c2] at H
  have c2b0 : decide (a0 < 0) = false := decide_eq_false c2
  clear c2
  have H' := Aside0.mk H
  clear H
  go_enter Tryz.func44, Tryz.ntmps44
  go_wp2
  go_loopg [0, 3] k (fun kq v0 v3 w' => ∃ (x0_1 : Int) (x3_1 : ByteArray), v0 = .int .i64 x0_1 ∧ v3 = .string x3_1 ∧ Aside0 (spec_l1Dec.l0 kq x0_1 x3_1 = some r) ∧ Aside0 (kq ≤ k) ∧ Aside0 (Below w.heap.size w w'))
  case atStart => exact ⟨(a0), ((⟨#[]⟩ : ByteArray)), (zE _), (zE _), H', ⟨Nat.le_refl _⟩, ⟨zb _⟩⟩
  case round =>
   clear H'
   obtain ⟨x0_1, x3_1, rfl, rfl, HA, HK1, HB⟩ := hrel
   cases gk with
   | zero => exact absurd HA.out (by simp [spec_l1Dec.l0])
   | succ k1 =>
    have H := HA.out
    clear HA
    simp only [spec_l1Dec.l0] at H
    by_cases c6 : x0_1 ≥ 10
    ·rw [if_pos c6] at H
     have c6b0 : decide (10 ≤ x0_1) = true := decide_eq_true c6
     clear c6
     obtain ⟨y167, hy167⟩ : ∃ y_ : List Int, y_ = (([(wrap64 (48 + (Int.tmod x0_1 10))) % 256] : List Int)) := ⟨_, rfl⟩
     replace H : (if (strOfNums y167).size + x3_1.size ≤ 9223372036854775807 then (spec_l1Dec.l0 k1 (wrap64 (Int.tdiv x0_1 10)) ((strOfNums y167) ++ x3_1)) else (none)) = some r := by first | (rw [hy167]; with_reducible exact H) | (have H2_ := (Option.bind_some _ _).symm.trans H; rw [hy167]; with_reducible exact H2_) | (have H2_ := (Option.bind_some _ _).symm.trans H; with_reducible exact H2_) | with_reducible exact H | (rw [hy167]; exact H) | exact H
     have Ny167 := Aside0.mk hy167
     clear hy167
     by_cases c7 : (strOfNums y167).size + x3_1.size ≤ 9223372036854775807
     ·rw [if_pos c7] at H
      have c7b0 := eq_true c7
      have c7b1 : decide ((strOfNums y167).size + x3_1.size ≤ 9223372036854775807) = true := decide_eq_true c7
      try have c7b2 : (9223372036854775807 < (strOfNums y167).size + x3_1.size) = False := eq_false (Nat.not_lt.2 c7)
      have H' := Aside0.mk H
      clear H
      go_wp2_with (first | ((with_reducible refine gate_dst (N := 16) rfl ?_); refine Kd.R_lit (Kd.int .u8) _ 5 ?hg (N := 16) ?hd (xs := ([(wrap64 (48 + (Int.tmod x0_1 10))) % 256] : List Int)) (inner := [.int .u8 ((wrap64 (48 + (Int.tmod x0_1 10))) % 256)]) (ok := fun _ => True) (okp := fun _ => True) ?hr ?hp (fun _ hk => hk) trivial (Below.refl _ _) (Nat.le_refl _) (by simp) ?_; (case hd => rfl); (case hg => rfl); (case hr => first | (go_simp; done) | (go_simp; rfl)); (case hp => exact (Reps.one (show Kd.M (Kd.int .u8) _ _ _ ((wrap64 (48 + (Int.tmod x0_1 10))) % 256) [.int .u8 ((wrap64 (48 + (Int.tmod x0_1 10))) % 256)] from rfl) (Reps.none _ _))); intro v168 w8 ho9 hb hg_ hnew_; clear hg_ hnew_; (first | rw [← Ny167.out] at ho9 | (simp only [Int.reduceToNat] at ho9; rw [← Ny167.out] at ho9)); have HO169 := Aside0.mk (Kd.R_lower ho9 (below_size (zb _))); replace HB := zt w hb; clear hb ho9; have hcv10 := own_string (P := Tryz.prog) Tryz.underlying89 Tryz.underlying5 Tryz.underlying9 (Kd.own_of_R HO169.out)))
      go_roundg k1
      case measure => have := HK1.out; omega
      case rel => exact ⟨(wrap64 (Int.tdiv x0_1 10)), ((strOfNums y167) ++ x3_1), (zE _), (zE _), H', ⟨by have := HK1.out; omega⟩, ⟨zb _⟩⟩
     ·rw [if_neg c7] at H
      exact absurd H (by simp)
    ·rw [if_neg c6] at H
     have c6b0 : decide (10 ≤ x0_1) = false := decide_eq_false c6
     clear c6
     obtain ⟨y170, hy170⟩ : ∃ y_ : List Int, y_ = (([(wrap64 (48 + x0_1)) % 256] : List Int)) := ⟨_, rfl⟩
     replace H : (if (strOfNums y170).size + x3_1.size ≤ 9223372036854775807 then (some ((strOfNums y170) ++ x3_1)) else (none)) = some r := by first | (rw [hy170]; with_reducible exact H) | (have H2_ := (Option.bind_some _ _).symm.trans H; rw [hy170]; with_reducible exact H2_) | (have H2_ := (Option.bind_some _ _).symm.trans H; with_reducible exact H2_) | with_reducible exact H | (rw [hy170]; exact H) | exact H
     have Ny170 := Aside0.mk hy170
     clear hy170
     by_cases c11 : (strOfNums y170).size + x3_1.size ≤ 9223372036854775807
     ·rw [if_pos c11] at H
      have c11b0 := eq_true c11
      have c11b1 : decide ((strOfNums y170).size + x3_1.size ≤ 9223372036854775807) = true := decide_eq_true c11
      try have c11b2 : (9223372036854775807 < (strOfNums y170).size + x3_1.size) = False := eq_false (Nat.not_lt.2 c11)
      obtain rfl := Option.some.inj H
      go_wp2_with (first | ((with_reducible refine gate_dst (N := 25) rfl ?_); refine Kd.R_lit (Kd.int .u8) _ 5 ?hg (N := 25) ?hd (xs := ([(wrap64 (48 + x0_1)) % 256] : List Int)) (inner := [.int .u8 ((wrap64 (48 + x0_1)) % 256)]) (ok := fun _ => True) (okp := fun _ => True) ?hr ?hp (fun _ hk => hk) trivial (Below.refl _ _) (Nat.le_refl _) (by simp) ?_; (case hd => rfl); (case hg => rfl); (case hr => first | (go_simp; done) | (go_simp; rfl)); (case hp => exact (Reps.one (show Kd.M (Kd.int .u8) _ _ _ ((wrap64 (48 + x0_1)) % 256) [.int .u8 ((wrap64 (48 + x0_1)) % 256)] from rfl) (Reps.none _ _))); intro v171 w12 ho13 hb hg_ hnew_; clear hg_ hnew_; (first | rw [← Ny170.out] at ho13 | (simp only [Int.reduceToNat] at ho13; rw [← Ny170.out] at ho13)); have HO172 := Aside0.mk (Kd.R_lower ho13 (below_size (zb _))); replace HB := zt w hb; clear hb ho13; have hcv14 := own_string (P := Tryz.prog) Tryz.underlying89 Tryz.underlying5 Tryz.underlying9 (Kd.own_of_R HO172.out)))
      go_ret
      exact ⟨ze _, zb _⟩
     ·rw [if_neg c11] at H
      exact absurd H (by simp)

mutual
def spec_HexOf.j0 : Nat → Int → Int → Bool → Option (ByteArray)
  | 0, _, _, _ => none
  | k + 1, x0, x1, x14 => if x14 = true then (some (⟨#[]⟩ : ByteArray)) else (spec_HexOf.l0 k x0 x1 (⟨#[]⟩ : ByteArray) 0)
def spec_HexOf.l0 : Nat → Int → Int → ByteArray → Int → Option (ByteArray)
  | 0, _, _, _, _ => none
  | k + 1, x0, x1, x5, x6 => if x6 < x1 then (if 0 ≤ (Int.tmod x0 16) then (if (Int.tmod x0 16) ≤ (wrap64 ((Int.tmod x0 16) + 1)) then (if (wrap64 ((Int.tmod x0 16) + 1)) ≤ 16 then (if ((⟨#[48, 49, 50, 51, 52, 53, 54, 55, 56, 57, 65, 66, 67, 68, 69, 70]⟩ : ByteArray).extract ((Int.tmod x0 16) : Int).toNat ((wrap64 ((Int.tmod x0 16) + 1)) : Int).toNat).size + x5.size ≤ 9223372036854775807 then (spec_HexOf.l0 k (wrap64 (Int.tdiv x0 16)) x1 (((⟨#[48, 49, 50, 51, 52, 53, 54, 55, 56, 57, 65, 66, 67, 68, 69, 70]⟩ : ByteArray).extract ((Int.tmod x0 16) : Int).toNat ((wrap64 ((Int.tmod x0 16) + 1)) : Int).toNat) ++ x5) (wrap64 (x6 + 1))) else (none)) else (none)) else (none)) else (none)) else (if x0 > 0 then (some (⟨#[]⟩ : ByteArray)) else (if 1 + x5.size ≤ 9223372036854775807 then (some ((⟨#[36]⟩ : ByteArray) ++ x5)) else (none)))
end
def spec_HexOf.f (k : Nat) (a0 : Int) (a1 : Int) : Option (ByteArray) := (spec_l1In.f a1 1 4).bind fun t173 => (if t173 = true then ((spec_l1In.f a0 0 65535).bind fun t174 => (spec_HexOf.j0 k a0 a1 (!t174))) else (spec_HexOf.j0 k a0 a1 true))
theorem spec_HexOf.mono_l : ∀ k, (∀ y0 y1 y2, LeO (spec_HexOf.j0 k y0 y1 y2) (spec_HexOf.j0 (k + 1) y0 y1 y2)) ∧ (∀ y0 y1 y2 y3, LeO (spec_HexOf.l0 k y0 y1 y2 y3) (spec_HexOf.l0 (k + 1) y0 y1 y2 y3))
  | 0 => ⟨fun _ _ _ r h => by simp [spec_HexOf.j0] at h, fun _ _ _ _ r h => by simp [spec_HexOf.l0] at h⟩
  | k + 1 => by
    obtain ⟨ih0, ih1⟩ := spec_HexOf.mono_l k
    refine ⟨?_, ?_⟩
    · intro y0 y1 y2
      unfold spec_HexOf.j0
      repeat' with_reducible first | exact ih0 _ _ _ | exact ih1 _ _ _ _ | exact LeO.refl _ | exact LeO.none _ | refine LeO.ite ?_ ?_ | refine LeO.bind ?_ (fun _ => ?_)
    · intro y0 y1 y2 y3
      unfold spec_HexOf.l0
      repeat' with_reducible first | exact ih0 _ _ _ | exact ih1 _ _ _ _ | exact LeO.refl _ | exact LeO.none _ | refine LeO.ite ?_ ?_ | refine LeO.bind ?_ (fun _ => ?_)
theorem spec_HexOf.mono : ∀ a0 a1 k, LeO (spec_HexOf.f k a0 a1) (spec_HexOf.f (k + 1) a0 a1) := by
  intro a0 a1 k
  obtain ⟨ih0, ih1⟩ := spec_HexOf.mono_l k
  unfold spec_HexOf.f
  repeat' with_reducible first | exact ih0 _ _ _ | exact ih1 _ _ _ _ | exact LeO.refl _ | exact LeO.none _ | refine LeO.ite ?_ ?_ | refine LeO.bind ?_ (fun _ => ?_)
set_option maxHeartbeats 8000000 in
set_option maxRecDepth 100000 in
theorem spec_HexOf.calls (k : Nat) (a0 : Int) (a1 : Int) (r : ByteArray) (w : World) (h : spec_HexOf.f k a0 a1 = some r) :
 Calls Tryz.prog 88 #[.int .i64 a0, .int .i64 a1] w fun e w' => e = .returned (.string r) ∧ Drawn0 w w' := by
 have H : ((spec_l1In.f a1 1 4).bind fun t173 => (if t173 = true then ((spec_l1In.f a0 0 65535).bind fun t174 => (spec_HexOf.j0 k a0 a1 (!t174))) else (spec_HexOf.j0 k a0 a1 true))) = some r := h
 clear h
 have HC3 := Aside0.mk H
 clear H
 go_enter Tryz.func88, Tryz.ntmps88
 go_upto_region 1 with (fail)
 go_cut [14] (fun v14 wc => ∃ (kq : Nat) (x14_2 : Bool), v14 = .bool x14_2 ∧ Aside0 (spec_HexOf.j0 kq a0 a1 x14_2 = some r) ∧ Aside0 (kq ≤ k) ∧ Drawn0 w wc)
 case first =>
  have H := HC3.out
  clear HC3
  obtain ⟨t173, A40, H⟩ := Option.bind_eq_some_iff.mp H
  have A4 := Aside0.mk A40
  clear A40
  by_cases c5 : t173 = true
  ·subst c5
   rw [if_pos rfl] at H
   obtain ⟨t174, A60, H⟩ := Option.bind_eq_some_iff.mp H
   have A6 := Aside0.mk A60
   clear A60
   have H' := Aside0.mk H
   clear H
   go_wp2_with (first | ((with_reducible refine gate_callee (f := 42) rfl ?_); refine zc (some 8) Tryz.func42 #[.int .i64 a1, .int .i64 1, .int .i64 4] ?_; (with_reducible refine (spec_l1In.calls a1 1 4 true _ A4.out).mono ?_); rintro e w' ⟨rfl, ⟨nd, rfl⟩⟩; refine ⟨_, rfl, ?_⟩) | (go_at_call 42; (with_reducible refine (spec_l1In.calls a0 0 65535 t174 _ A6.out).mono ?_); rintro e w' ⟨rfl, ⟨nd, rfl⟩⟩))
   go_meet
   case rel => exact ⟨_, (!t174), (zE _), H', ⟨by first | omega | exact Nat.le_refl _⟩, zd _⟩
  ·replace c5 := Bool.eq_false_iff.mpr c5
   subst c5
   rw [if_neg (show ¬ (false = true) by decide)] at H
   have H' := Aside0.mk H
   clear H
   go_wp2_with (first | ((with_reducible refine gate_callee (f := 42) rfl ?_); refine zc (some 8) Tryz.func42 #[.int .i64 a1, .int .i64 1, .int .i64 4] ?_; (with_reducible refine (spec_l1In.calls a1 1 4 false _ A4.out).mono ?_); rintro e w' ⟨rfl, ⟨nd, rfl⟩⟩; refine ⟨_, rfl, ?_⟩))
   go_meet
   case rel => exact ⟨_, (true), (zE _), H', ⟨by first | omega | exact Nat.le_refl _⟩, zd _⟩
 case rest =>
  clear HC3
  obtain ⟨kq, x14_2, rfl, HA, HJ2, ⟨mc2, rfl⟩⟩ := hcut
  cases kq with
  | zero => exact absurd HA.out (by simp [spec_HexOf.j0])
  | succ kj2 =>
   have H := HA.out
   clear HA
   simp only [spec_HexOf.j0] at H
   by_cases c7 : x14_2 = true
   ·subst c7
    rw [if_pos rfl] at H
    obtain rfl := Option.some.inj H
    go_wp2
    go_ret
    exact ⟨zE _, zd _⟩
   ·replace c7 := Bool.eq_false_iff.mpr c7
    subst c7
    rw [if_neg (show ¬ (false = true) by decide)] at H
    have H' := Aside0.mk H
    clear H
    go_wp2
    go_loopg [0, 5, 6] kj2 (fun kq v0 v5 v6 w' => ∃ (x0_2 : Int) (x5_2 : ByteArray) (x6_2 : Int), v0 = .int .i64 x0_2 ∧ v5 = .string x5_2 ∧ v6 = .int .i64 x6_2 ∧ Aside0 (spec_HexOf.l0 kq x0_2 a1 x5_2 x6_2 = some r) ∧ Aside0 (kq ≤ kj2) ∧ Drawn0 w w')
    case atStart => exact ⟨(a0), ((⟨#[]⟩ : ByteArray)), (0), (zE _), (zE _), (zE _), H', ⟨Nat.le_refl _⟩, zd _⟩
    case round =>
     clear H'
     obtain ⟨x0_2, x5_2, x6_2, rfl, rfl, rfl, HA, HK2, ⟨m2, rfl⟩⟩ := hrel
     cases gk with
     | zero => exact absurd HA.out (by simp [spec_HexOf.l0])
     | succ k2 =>
      have H := HA.out
      clear HA
      simp only [spec_HexOf.l0] at H
      by_cases c8 : x6_2 < a1
      ·rw [if_pos c8] at H
       have c8b0 : decide (x6_2 < a1) = true := decide_eq_true c8
       clear c8
       obtain ⟨ji9, hji9⟩ : ∃ j_ : Int, (Int.tmod x0_2 16) = j_ := ⟨_, rfl⟩
       replace H : (if 0 ≤ (ji9) then (if (ji9) ≤ (wrap64 ((ji9) + 1)) then (if (wrap64 ((ji9) + 1)) ≤ 16 then (if ((⟨#[48, 49, 50, 51, 52, 53, 54, 55, 56, 57, 65, 66, 67, 68, 69, 70]⟩ : ByteArray).extract ((ji9) : Int).toNat ((wrap64 ((ji9) + 1)) : Int).toNat).size + x5_2.size ≤ 9223372036854775807 then (spec_HexOf.l0 k2 (wrap64 (Int.tdiv x0_2 16)) a1 (((⟨#[48, 49, 50, 51, 52, 53, 54, 55, 56, 57, 65, 66, 67, 68, 69, 70]⟩ : ByteArray).extract ((ji9) : Int).toNat ((wrap64 ((ji9) + 1)) : Int).toNat) ++ x5_2) (wrap64 (x6_2 + 1))) else (none)) else (none)) else (none)) else (none)) = some r := by first | (rw [hji9] at H; exact H) | (simp only [hji9] at H ⊢; exact H)
       by_cases c10 : 0 ≤ (ji9)
       ·rw [if_pos c10] at H
        have c10b0 := eq_true c10
        have c10b1 : decide (0 ≤ (ji9)) = true := decide_eq_true c10
        clear c10
        by_cases c11 : (ji9) ≤ (wrap64 ((ji9) + 1))
        ·rw [if_pos c11] at H
         have c11b0 := eq_true c11
         have c11b1 : decide ((ji9) ≤ (wrap64 ((ji9) + 1))) = true := decide_eq_true c11
         by_cases c12 : (wrap64 ((ji9) + 1)) ≤ 16
         ·rw [if_pos c12] at H
          have c12b0 := eq_true c12
          have c12b1 : decide ((wrap64 ((ji9) + 1)) ≤ 16) = true := decide_eq_true c12
          by_cases c13 : ((⟨#[48, 49, 50, 51, 52, 53, 54, 55, 56, 57, 65, 66, 67, 68, 69, 70]⟩ : ByteArray).extract ((ji9) : Int).toNat ((wrap64 ((ji9) + 1)) : Int).toNat).size + x5_2.size ≤ 9223372036854775807
          ·rw [if_pos c13] at H
           have c13b0 := eq_true c13
           have c13b1 : decide (((⟨#[48, 49, 50, 51, 52, 53, 54, 55, 56, 57, 65, 66, 67, 68, 69, 70]⟩ : ByteArray).extract ((ji9) : Int).toNat ((wrap64 ((ji9) + 1)) : Int).toNat).size + x5_2.size ≤ 9223372036854775807) = true := decide_eq_true c13
           try have c13b2 : (9223372036854775807 < ((⟨#[48, 49, 50, 51, 52, 53, 54, 55, 56, 57, 65, 66, 67, 68, 69, 70]⟩ : ByteArray).extract ((ji9) : Int).toNat ((wrap64 ((ji9) + 1)) : Int).toNat).size + x5_2.size) = False := eq_false (Nat.not_lt.2 c13)
           have H' := Aside0.mk H
           clear H
           go_wp2
           go_roundg k2
           case measure => have := HJ2.out; have := HK2.out; omega
           case rel => exact ⟨(wrap64 (Int.tdiv x0_2 16)), (((⟨#[48, 49, 50, 51, 52, 53, 54, 55, 56, 57, 65, 66, 67, 68, 69, 70]⟩ : ByteArray).extract ((ji9) : Int).toNat ((wrap64 ((ji9) + 1)) : Int).toNat) ++ x5_2), (wrap64 (x6_2 + 1)), (zE _), (by first | rfl | (simp; done) | (simp only [← hji9] <;> (first | rfl | simp)) | (simp [*]; done)), (zE _), H', ⟨by have := HJ2.out; have := HK2.out; omega⟩, zd _⟩
          ·rw [if_neg c13] at H
           exact absurd H (by simp)
         ·rw [if_neg c12] at H
          exact absurd H (by simp)
        ·rw [if_neg c11] at H
         exact absurd H (by simp)
       ·rw [if_neg c10] at H
        exact absurd H (by simp)
      ·rw [if_neg c8] at H
       have c8b0 : decide (x6_2 < a1) = false := decide_eq_false c8
       clear c8
       by_cases c14 : x0_2 > 0
       ·rw [if_pos c14] at H
        have c14b0 : decide (0 < x0_2) = true := decide_eq_true c14
        clear c14
        obtain rfl := Option.some.inj H
        go_wp2
        go_ret
        exact ⟨zE _, zd _⟩
       ·rw [if_neg c14] at H
        have c14b0 : decide (0 < x0_2) = false := decide_eq_false c14
        clear c14
        by_cases c15 : 1 + x5_2.size ≤ 9223372036854775807
        ·rw [if_pos c15] at H
         have c15b0 := eq_true c15
         have c15b1 : decide (1 + x5_2.size ≤ 9223372036854775807) = true := decide_eq_true c15
         try have c15b2 : (9223372036854775807 < 1 + x5_2.size) = False := eq_false (Nat.not_lt.2 c15)
         obtain rfl := Option.some.inj H
         go_wp2
         go_ret
         exact ⟨zE _, zd _⟩
        ·rw [if_neg c15] at H
         exact absurd H (by simp)

def spec_l9Hex.l0 : Nat → ByteArray → ByteArray → Int → Option (ByteArray)
  | 0, _, _, _ => none
  | k + 1, x0, x3, x4 => if x4 < (x0.size : Int) then (if 0 ≤ x4 then ((spec_HexOf.f k (wrap64 (bt x0 x4)) 2).bind fun t175 => (if 1 ≤ (t175.size : Int) then (if x3.size + (t175.extract 1 t175.size).size ≤ 9223372036854775807 then (spec_l9Hex.l0 k x0 (x3 ++ (t175.extract 1 t175.size)) (wrap64 (x4 + 1))) else (none)) else (none))) else (none)) else (some x3)
def spec_l9Hex.f (k : Nat) (a0 : ByteArray) : Option (ByteArray) := spec_l9Hex.l0 k a0 (⟨#[]⟩ : ByteArray) 0
theorem spec_l9Hex.mono_l : ∀ k, (∀ y0 y1 y2, LeO (spec_l9Hex.l0 k y0 y1 y2) (spec_l9Hex.l0 (k + 1) y0 y1 y2))
  | 0 => fun _ _ _ r h => by simp [spec_l9Hex.l0] at h
  | k + 1 => by
    have ih0 := spec_l9Hex.mono_l k
    · intro y0 y1 y2
      unfold spec_l9Hex.l0
      repeat' with_reducible first | exact ih0 _ _ _ | exact spec_HexOf.mono _ _ _ | exact LeO.refl _ | exact LeO.none _ | refine LeO.ite ?_ ?_ | refine LeO.bind ?_ (fun _ => ?_)
theorem spec_l9Hex.mono : ∀ a0 k, LeO (spec_l9Hex.f k a0) (spec_l9Hex.f (k + 1) a0) := by
  intro a0 k
  have ih0 := spec_l9Hex.mono_l k
  unfold spec_l9Hex.f
  repeat' with_reducible first | exact ih0 _ _ _ | exact spec_HexOf.mono _ _ _ | exact LeO.refl _ | exact LeO.none _ | refine LeO.ite ?_ ?_ | refine LeO.bind ?_ (fun _ => ?_)
set_option maxHeartbeats 8000000 in
set_option maxRecDepth 100000 in
theorem spec_l9Hex.calls (k : Nat) (a0 : ByteArray) (r : ByteArray) (w : World) (h : spec_l9Hex.f k a0 = some r) :
 Calls Tryz.prog 45 #[.string a0] w fun e w' => e = .returned (.string r) ∧ Drawn0 w w' := by
 have H : (spec_l9Hex.l0 k a0 (⟨#[]⟩ : ByteArray) 0) = some r := h
 clear h
 have H' := Aside0.mk H
 clear H
 go_enter Tryz.func45, Tryz.ntmps45
 go_wp2
 go_loopg [3, 4] k (fun kq v3 v4 w' => ∃ (x3_1 : ByteArray) (x4_1 : Int), v3 = .string x3_1 ∧ v4 = .int .i64 x4_1 ∧ Aside0 (spec_l9Hex.l0 kq a0 x3_1 x4_1 = some r) ∧ Aside0 (kq ≤ k) ∧ Drawn0 w w')
 case atStart => exact ⟨((⟨#[]⟩ : ByteArray)), (0), (zE _), (zE _), H', ⟨Nat.le_refl _⟩, zd _⟩
 case round =>
  clear H'
  obtain ⟨x3_1, x4_1, rfl, rfl, HA, HK1, ⟨m1, rfl⟩⟩ := hrel
  cases gk with
  | zero => exact absurd HA.out (by simp [spec_l9Hex.l0])
  | succ k1 =>
   have H := HA.out
   clear HA
   simp only [spec_l9Hex.l0] at H
   by_cases c2 : x4_1 < (a0.size : Int)
   ·rw [if_pos c2] at H
    have c2b0 : decide (x4_1 < (a0.size : Int)) = true := decide_eq_true c2
    clear c2
    by_cases c3 : 0 ≤ x4_1
    ·rw [if_pos c3] at H
     have c3b0 : decide (0 ≤ x4_1) = true := decide_eq_true c3
     clear c3
     obtain ⟨t175, A50, H⟩ := Option.bind_eq_some_iff.mp H
     have A5 := Aside0.mk A50
     clear A50
     by_cases c6 : 1 ≤ (t175.size : Int)
     ·rw [if_pos c6] at H
      have c6b0 := eq_true c6
      have c6b1 : decide (1 ≤ (t175.size : Int)) = true := decide_eq_true c6
      clear c6
      by_cases c7 : x3_1.size + (t175.extract 1 t175.size).size ≤ 9223372036854775807
      ·rw [if_pos c7] at H
       have c7b0 := eq_true c7
       have c7b1 : decide (x3_1.size + (t175.extract 1 t175.size).size ≤ 9223372036854775807) = true := decide_eq_true c7
       try have c7b2 : (9223372036854775807 < x3_1.size + (t175.extract 1 t175.size).size) = False := eq_false (Nat.not_lt.2 c7)
       have H' := Aside0.mk H
       clear H
       have p4 : 0 ≤ (x4_1 : Int) := of_decide_eq_true (za _)
       have q4 : x4_1 < (a0.size : Int) := of_decide_eq_true (za _)
       have hx4 := bt_at a0 x4_1
       replace p4 := eq_true p4
       replace q4 := eq_true q4
       go_wp2_with (first | ((with_reducible refine gate_callee (f := 88) rfl ?_); refine zc (some 16) Tryz.func88 #[.int .i64 (wrap64 (bt a0 x4_1)), .int .i64 2] ?_; (with_reducible refine (spec_HexOf.calls k1 (wrap64 (bt a0 x4_1)) 2 t175 _ A5.out).mono ?_); rintro e w' ⟨rfl, ⟨nd, rfl⟩⟩; refine ⟨_, rfl, ?_⟩))
       go_roundg k1
       case measure => have := HK1.out; omega
       case rel => exact ⟨(x3_1 ++ (t175.extract 1 t175.size)), (wrap64 (x4_1 + 1)), (zE _), (zE _), H', ⟨by have := HK1.out; omega⟩, zd _⟩
      ·rw [if_neg c7] at H
       exact absurd H (by simp)
     ·rw [if_neg c6] at H
      exact absurd H (by simp)
    ·rw [if_neg c3] at H
     exact absurd H (by simp)
   ·rw [if_neg c2] at H
    have c2b0 : decide (x4_1 < (a0.size : Int)) = false := decide_eq_false c2
    clear c2
    obtain rfl := Option.some.inj H
    go_wp2
    go_ret
    exact ⟨zE _, zd _⟩

def spec_l2Words.f  : Option (List ByteArray) := some (([(⟨#[]⟩ : ByteArray), (⟨#[]⟩ : ByteArray), (⟨#[]⟩ : ByteArray), (⟨#[]⟩ : ByteArray), (⟨#[110, 101, 103]⟩ : ByteArray), (⟨#[110, 111, 116]⟩ : ByteArray), (⟨#[104, 105, 103, 104]⟩ : ByteArray), (⟨#[108, 111, 119]⟩ : ByteArray), (⟨#[43]⟩ : ByteArray), (⟨#[45]⟩ : ByteArray), (⟨#[42]⟩ : ByteArray), (⟨#[47]⟩ : ByteArray), (⟨#[37]⟩ : ByteArray), (⟨#[38]⟩ : ByteArray), (⟨#[94]⟩ : ByteArray), (⟨#[124]⟩ : ByteArray), (⟨#[60, 60]⟩ : ByteArray), (⟨#[62, 62]⟩ : ByteArray)] : List ByteArray))
set_option maxHeartbeats 8000000 in
set_option maxRecDepth 100000 in
theorem spec_l2Words.calls  (r : List ByteArray) (w : World) (h : spec_l2Words.f  = some r) :
 Calls Tryz.prog 89 #[] w fun e w' => ∃ v0_ : Value, e = .returned (v0_) ∧ Kd.R Kd.string 9 w' w.heap.size (fun _ => True) v0_ r ∧ Below w.heap.size w w' := by
 have HB := Aside0.mk (Below.refl w.heap.size w)
 have H : (some (([(⟨#[]⟩ : ByteArray), (⟨#[]⟩ : ByteArray), (⟨#[]⟩ : ByteArray), (⟨#[]⟩ : ByteArray), (⟨#[110, 101, 103]⟩ : ByteArray), (⟨#[110, 111, 116]⟩ : ByteArray), (⟨#[104, 105, 103, 104]⟩ : ByteArray), (⟨#[108, 111, 119]⟩ : ByteArray), (⟨#[43]⟩ : ByteArray), (⟨#[45]⟩ : ByteArray), (⟨#[42]⟩ : ByteArray), (⟨#[47]⟩ : ByteArray), (⟨#[37]⟩ : ByteArray), (⟨#[38]⟩ : ByteArray), (⟨#[94]⟩ : ByteArray), (⟨#[124]⟩ : ByteArray), (⟨#[60, 60]⟩ : ByteArray), (⟨#[62, 62]⟩ : ByteArray)] : List ByteArray))) = some r := h
 clear h
 obtain ⟨y176, hy176⟩ : ∃ y_ : List ByteArray, y_ = (([(⟨#[]⟩ : ByteArray), (⟨#[]⟩ : ByteArray), (⟨#[]⟩ : ByteArray), (⟨#[]⟩ : ByteArray), (⟨#[110, 101, 103]⟩ : ByteArray), (⟨#[110, 111, 116]⟩ : ByteArray), (⟨#[104, 105, 103, 104]⟩ : ByteArray), (⟨#[108, 111, 119]⟩ : ByteArray), (⟨#[43]⟩ : ByteArray), (⟨#[45]⟩ : ByteArray), (⟨#[42]⟩ : ByteArray), (⟨#[47]⟩ : ByteArray), (⟨#[37]⟩ : ByteArray), (⟨#[38]⟩ : ByteArray), (⟨#[94]⟩ : ByteArray), (⟨#[124]⟩ : ByteArray), (⟨#[60, 60]⟩ : ByteArray), (⟨#[62, 62]⟩ : ByteArray)] : List ByteArray)) := ⟨_, rfl⟩
 replace H : (some y176) = some r := by first | (rw [hy176]; with_reducible exact H) | (have H2_ := (Option.bind_some _ _).symm.trans H; rw [hy176]; with_reducible exact H2_) | (have H2_ := (Option.bind_some _ _).symm.trans H; with_reducible exact H2_) | with_reducible exact H | (rw [hy176]; exact H) | exact H
 have Ny176 := Aside0.mk hy176
 clear hy176
 obtain rfl := Option.some.inj H
 go_enter Tryz.func89, Tryz.ntmps89
 go_wp2_with (first | ((with_reducible refine gate_dst (N := 1) rfl ?_); refine Kd.R_lit Kd.string _ 9 ?hg (N := 1) ?hd (xs := ([(⟨#[]⟩ : ByteArray), (⟨#[]⟩ : ByteArray), (⟨#[]⟩ : ByteArray), (⟨#[]⟩ : ByteArray), (⟨#[110, 101, 103]⟩ : ByteArray), (⟨#[110, 111, 116]⟩ : ByteArray), (⟨#[104, 105, 103, 104]⟩ : ByteArray), (⟨#[108, 111, 119]⟩ : ByteArray), (⟨#[43]⟩ : ByteArray), (⟨#[45]⟩ : ByteArray), (⟨#[42]⟩ : ByteArray), (⟨#[47]⟩ : ByteArray), (⟨#[37]⟩ : ByteArray), (⟨#[38]⟩ : ByteArray), (⟨#[94]⟩ : ByteArray), (⟨#[124]⟩ : ByteArray), (⟨#[60, 60]⟩ : ByteArray), (⟨#[62, 62]⟩ : ByteArray)] : List ByteArray)) (inner := [.string (⟨#[]⟩ : ByteArray), .string (⟨#[]⟩ : ByteArray), .string (⟨#[]⟩ : ByteArray), .string (⟨#[]⟩ : ByteArray), .string (⟨#[110, 101, 103]⟩ : ByteArray), .string (⟨#[110, 111, 116]⟩ : ByteArray), .string (⟨#[104, 105, 103, 104]⟩ : ByteArray), .string (⟨#[108, 111, 119]⟩ : ByteArray), .string (⟨#[43]⟩ : ByteArray), .string (⟨#[45]⟩ : ByteArray), .string (⟨#[42]⟩ : ByteArray), .string (⟨#[47]⟩ : ByteArray), .string (⟨#[37]⟩ : ByteArray), .string (⟨#[38]⟩ : ByteArray), .string (⟨#[94]⟩ : ByteArray), .string (⟨#[124]⟩ : ByteArray), .string (⟨#[60, 60]⟩ : ByteArray), .string (⟨#[62, 62]⟩ : ByteArray)]) (ok := fun _ => True) (okp := fun _ => True) ?hr ?hp (fun _ hk => hk) trivial (Below.refl _ _) (Nat.le_refl _) (by simp) ?_; (case hd => rfl); (case hg => rfl); (case hr => first | (go_simp; done) | (go_simp; rfl)); (case hp => exact (Reps.one (show Kd.M Kd.string _ _ _ (⟨#[]⟩ : ByteArray) [.string (⟨#[]⟩ : ByteArray)] from rfl) (Reps.one (show Kd.M Kd.string _ _ _ (⟨#[]⟩ : ByteArray) [.string (⟨#[]⟩ : ByteArray)] from rfl) (Reps.one (show Kd.M Kd.string _ _ _ (⟨#[]⟩ : ByteArray) [.string (⟨#[]⟩ : ByteArray)] from rfl) (Reps.one (show Kd.M Kd.string _ _ _ (⟨#[]⟩ : ByteArray) [.string (⟨#[]⟩ : ByteArray)] from rfl) (Reps.one (show Kd.M Kd.string _ _ _ (⟨#[110, 101, 103]⟩ : ByteArray) [.string (⟨#[110, 101, 103]⟩ : ByteArray)] from rfl) (Reps.one (show Kd.M Kd.string _ _ _ (⟨#[110, 111, 116]⟩ : ByteArray) [.string (⟨#[110, 111, 116]⟩ : ByteArray)] from rfl) (Reps.one (show Kd.M Kd.string _ _ _ (⟨#[104, 105, 103, 104]⟩ : ByteArray) [.string (⟨#[104, 105, 103, 104]⟩ : ByteArray)] from rfl) (Reps.one (show Kd.M Kd.string _ _ _ (⟨#[108, 111, 119]⟩ : ByteArray) [.string (⟨#[108, 111, 119]⟩ : ByteArray)] from rfl) (Reps.one (show Kd.M Kd.string _ _ _ (⟨#[43]⟩ : ByteArray) [.string (⟨#[43]⟩ : ByteArray)] from rfl) (Reps.one (show Kd.M Kd.string _ _ _ (⟨#[45]⟩ : ByteArray) [.string (⟨#[45]⟩ : ByteArray)] from rfl) (Reps.one (show Kd.M Kd.string _ _ _ (⟨#[42]⟩ : ByteArray) [.string (⟨#[42]⟩ : ByteArray)] from rfl) (Reps.one (show Kd.M Kd.string _ _ _ (⟨#[47]⟩ : ByteArray) [.string (⟨#[47]⟩ : ByteArray)] from rfl) (Reps.one (show Kd.M Kd.string _ _ _ (⟨#[37]⟩ : ByteArray) [.string (⟨#[37]⟩ : ByteArray)] from rfl) (Reps.one (show Kd.M Kd.string _ _ _ (⟨#[38]⟩ : ByteArray) [.string (⟨#[38]⟩ : ByteArray)] from rfl) (Reps.one (show Kd.M Kd.string _ _ _ (⟨#[94]⟩ : ByteArray) [.string (⟨#[94]⟩ : ByteArray)] from rfl) (Reps.one (show Kd.M Kd.string _ _ _ (⟨#[124]⟩ : ByteArray) [.string (⟨#[124]⟩ : ByteArray)] from rfl) (Reps.one (show Kd.M Kd.string _ _ _ (⟨#[60, 60]⟩ : ByteArray) [.string (⟨#[60, 60]⟩ : ByteArray)] from rfl) (Reps.one (show Kd.M Kd.string _ _ _ (⟨#[62, 62]⟩ : ByteArray) [.string (⟨#[62, 62]⟩ : ByteArray)] from rfl) (Reps.none _ _)))))))))))))))))))); intro v177 w1 ho2 hb hg_ hnew_; clear hg_ hnew_; (first | rw [← Ny176.out] at ho2 | (simp only [Int.reduceToNat] at ho2; rw [← Ny176.out] at ho2)); have HO178 := Aside0.mk (Kd.R_lower ho2 (below_size (zb _))); replace HB := zt w hb; clear hb ho2))
 go_ret
 exact ⟨_, by first | rfl | (simp [errW_none, errW_some] <;> rfl) | (simp [*, errW_none, errW_some] <;> rfl), by (with_reducible repeat (first | apply Kd.R_alloc | apply Kd.R_drewN | apply Kd.R_drew)); exact HO178.out, zb _⟩
def spec_l2Words.arr : Array Value := #[.string (⟨#[]⟩ : ByteArray), .string (⟨#[]⟩ : ByteArray), .string (⟨#[]⟩ : ByteArray), .string (⟨#[]⟩ : ByteArray), .string (⟨#[110, 101, 103]⟩ : ByteArray), .string (⟨#[110, 111, 116]⟩ : ByteArray), .string (⟨#[104, 105, 103, 104]⟩ : ByteArray), .string (⟨#[108, 111, 119]⟩ : ByteArray), .string (⟨#[43]⟩ : ByteArray), .string (⟨#[45]⟩ : ByteArray), .string (⟨#[42]⟩ : ByteArray), .string (⟨#[47]⟩ : ByteArray), .string (⟨#[37]⟩ : ByteArray), .string (⟨#[38]⟩ : ByteArray), .string (⟨#[94]⟩ : ByteArray), .string (⟨#[124]⟩ : ByteArray), .string (⟨#[60, 60]⟩ : ByteArray), .string (⟨#[62, 62]⟩ : ByteArray)]
theorem spec_l2Words.arr_at (i : Nat) (h : i < 18) {t : List ByteArray} (ht : spec_l2Words.f = some t) : spec_l2Words.arr[i]? = some (.string (rdOf ByteArray.empty t (i : Int))) := by
 obtain rfl := Option.some.inj ht
 have : i = 0 ∨ i = 1 ∨ i = 2 ∨ i = 3 ∨ i = 4 ∨ i = 5 ∨ i = 6 ∨ i = 7 ∨ i = 8 ∨ i = 9 ∨ i = 10 ∨ i = 11 ∨ i = 12 ∨ i = 13 ∨ i = 14 ∨ i = 15 ∨ i = 16 ∨ i = 17 := by omega
 rcases this with e | e | e | e | e | e | e | e | e | e | e | e | e | e | e | e | e | e <;> rw [e] <;> rfl
theorem spec_l2Words.concrete (w : World) : Calls Tryz.prog 89 #[] w fun e w' => e = .returned (.slice (some ⟨w.heap.size, 0, none⟩) 18 18) ∧ w' = w.alloc (.cells spec_l2Words.arr 9) := by
 go_enter Tryz.func89, Tryz.ntmps89
 go_wp2
 (first | go_ret | (apply bodyPost_ret; (exact results_tmp rfl _ _ _); rfl))
 exact ⟨rfl, rfl⟩

mutual
def spec_ExprText.l0 : Nat → List (S124) → ByteArray → Int → Option (ByteArray)
  | 0, _, _, _ => none
  | k + 1, x0, x3, x4 => if x4 < (x0.length : Int) then (if x4 > 0 then (if x3.size + 1 ≤ 9223372036854775807 then (spec_ExprText.j1 k x0 (x3 ++ (⟨#[32]⟩ : ByteArray)) x4) else (none)) else (spec_ExprText.j1 k x0 x3 x4)) else (some x3)
def spec_ExprText.j1 : Nat → List (S124) → ByteArray → Int → Option (ByteArray)
  | 0, _, _, _ => none
  | k + 1, x0, x3, x4 => if 0 ≤ x4 then (if x4 < (x0.length : Int) then (if ((rd_T124 x0 x4).f0) = 1 then ((spec_l1Dec.f k ((rd_T124 x0 x4).f1)).bind fun t182 => (if x3.size + t182.size ≤ 9223372036854775807 then (spec_ExprText.l0 k x0 (x3 ++ t182) (wrap64 (x4 + 1))) else (none))) else (if ((rd_T124 x0 x4).f0) = 2 then (if x3.size + ((rd_T124 x0 x4).f2).size ≤ 9223372036854775807 then (spec_ExprText.l0 k x0 (x3 ++ ((rd_T124 x0 x4).f2)) (wrap64 (x4 + 1))) else (none)) else (if ((rd_T124 x0 x4).f0) = 3 then (if x3.size + 1 ≤ 9223372036854775807 then (if (x3 ++ (⟨#[35]⟩ : ByteArray)).size + ((rd_T124 x0 x4).f2).size ≤ 9223372036854775807 then (spec_ExprText.l0 k x0 ((x3 ++ (⟨#[35]⟩ : ByteArray)) ++ ((rd_T124 x0 x4).f2)) (wrap64 (x4 + 1))) else (none)) else (none)) else ((spec_l2Words.f).bind fun t185 => (if 0 ≤ ((rd_T124 x0 x4).f0) then (if ((rd_T124 x0 x4).f0) < (t185.length : Int) then (if x3.size + (rdOf ByteArray.empty t185 ((rd_T124 x0 x4).f0)).size ≤ 9223372036854775807 then (spec_ExprText.l0 k x0 (x3 ++ (rdOf ByteArray.empty t185 ((rd_T124 x0 x4).f0))) (wrap64 (x4 + 1))) else (none)) else (none)) else (none)))))) else (none)) else (none)
end
def spec_ExprText.f (k : Nat) (l0 : List (S124)) : Option (ByteArray) := (spec_ExprOk.f k l0).bind fun t179 => (if t179 = true then (spec_ExprText.l0 k l0 (⟨#[]⟩ : ByteArray) 0) else (some (⟨#[]⟩ : ByteArray)))
theorem spec_ExprText.mono_l : ∀ k, (∀ y0 y1 y2, LeO (spec_ExprText.l0 k y0 y1 y2) (spec_ExprText.l0 (k + 1) y0 y1 y2)) ∧ (∀ y0 y1 y2, LeO (spec_ExprText.j1 k y0 y1 y2) (spec_ExprText.j1 (k + 1) y0 y1 y2))
  | 0 => ⟨fun _ _ _ r h => by simp [spec_ExprText.l0] at h, fun _ _ _ r h => by simp [spec_ExprText.j1] at h⟩
  | k + 1 => by
    obtain ⟨ih0, ih1⟩ := spec_ExprText.mono_l k
    refine ⟨?_, ?_⟩
    · intro y0 y1 y2
      unfold spec_ExprText.l0
      repeat' with_reducible first | exact ih0 _ _ _ | exact ih1 _ _ _ | exact spec_ExprOk.mono _ _ | exact spec_l1Dec.mono _ _ | exact LeO.refl _ | exact LeO.none _ | refine LeO.ite ?_ ?_ | refine LeO.bind ?_ (fun _ => ?_)
    · intro y0 y1 y2
      unfold spec_ExprText.j1
      repeat' with_reducible first | exact ih0 _ _ _ | exact ih1 _ _ _ | exact spec_ExprOk.mono _ _ | exact spec_l1Dec.mono _ _ | exact LeO.refl _ | exact LeO.none _ | refine LeO.ite ?_ ?_ | refine LeO.bind ?_ (fun _ => ?_)
theorem spec_ExprText.mono : ∀ a0 k, LeO (spec_ExprText.f k a0) (spec_ExprText.f (k + 1) a0) := by
  intro a0 k
  obtain ⟨ih0, ih1⟩ := spec_ExprText.mono_l k
  unfold spec_ExprText.f
  repeat' with_reducible first | exact ih0 _ _ _ | exact ih1 _ _ _ | exact spec_ExprOk.mono _ _ | exact spec_l1Dec.mono _ _ | exact LeO.refl _ | exact LeO.none _ | refine LeO.ite ?_ ?_ | refine LeO.bind ?_ (fun _ => ?_)
def spec_ExprText.T10 : Bool × List (List Nat × List Nat) := (true, [([], []), ([], []), ([], []), ([], []), ([2, 3], [2, 3]), ([4], [4]), ([5], [5]), ([1, 6], [1, 6]), ([7], [7]), ([0, 8], [0, 8]), ([9, 1, 0, 1, 2, 3, 4, 5, 6, 7, 8, 9], [0, 9])])
def spec_ExprText.B10 : List Nat := [0, 0, 0, 0, 12, 28, 60, 126, 254, 511, 1023]
theorem spec_ExprText.tab10 : rtab .any (opsOf Tryz.f46 10) = spec_ExprText.T10 := by kernel_rfl
theorem spec_ExprText.bits10 : waitsOk spec_ExprText.T10.2 spec_ExprText.B10 = true := by kernel_rfl
set_option maxHeartbeats 8000000 in
set_option maxRecDepth 100000 in
theorem spec_ExprText.calls (k : Nat) (A0 : Option Addr) (c0 : Nat) (l0 : List (S124)) (r : ByteArray) (w : World) (hr0 : Kd.C k124 w A0 l0.length l0) (hc0 : l0.length ≤ c0) (h : spec_ExprText.f k l0 = some r) :
 Calls Tryz.prog 46 #[.slice A0 l0.length c0] w fun e w' => e = .returned (.string r) ∧ Below w.heap.size w w' := by
 have HR0 := Aside0.mk hr0
 have HC0 := Aside0.mk hc0
 clear hr0 hc0
 have HB := Aside0.mk (Below.refl w.heap.size w)
 have H : ((spec_ExprOk.f k l0).bind fun t179 => (if t179 = true then (spec_ExprText.l0 k l0 (⟨#[]⟩ : ByteArray) 0) else (some (⟨#[]⟩ : ByteArray)))) = some r := h
 clear h
 obtain ⟨t179, A20, H⟩ := Option.bind_eq_some_iff.mp H
 have A2 := Aside0.mk A20
 clear A20
 by_cases c3 : t179 = true
 ·subst c3
  rw [if_pos rfl] at H
  have H' := Aside0.mk H
  clear H
  go_enter Tryz.func46, Tryz.ntmps46
  go_wp2_with (first | ((with_reducible refine gate_callee (f := 43) rfl ?_); refine zc (some 6) Tryz.func43 #[.slice A0 l0.length c0] ?_; (with_reducible refine (spec_ExprOk.calls k _ _ l0 true _ ?side1 ?side2 A2.out).mono ?_); (case side1 => repeat (first | exact HR0.out | (with_reducible refine Kd.C_alloc ?_ _) | (with_reducible refine Kd.C_drewN ?_ _) | (with_reducible refine Kd.C_drew ?_))); (case side2 => exact HC0.out); rintro e w4 ⟨rfl, hb⟩; refine ⟨_, rfl, ?_⟩; replace HB := zt w hb; (try clear hb); (try clear hb2); (try clear hk); (try clear hi)))
  go_loopg [3, 4] k (fun kq v3 v4 w' => ∃ (x3_1 : ByteArray) (x4_1 : Int), v3 = .string x3_1 ∧ v4 = .int .i64 x4_1 ∧ Aside0 (spec_ExprText.l0 kq l0 x3_1 x4_1 = some r) ∧ Aside0 (kq ≤ k) ∧ Aside0 (Below w.heap.size w w'))
  case atStart => exact ⟨((⟨#[]⟩ : ByteArray)), (0), (zE _), (zE _), H', ⟨Nat.le_refl _⟩, ⟨zb _⟩⟩
  case round =>
   clear H'
   obtain ⟨x3_1, x4_1, rfl, rfl, HA, HK1, HB⟩ := hrel
   cases gk with
   | zero => exact absurd HA.out (by simp [spec_ExprText.l0])
   | succ k1 =>
    have H := HA.out
    clear HA
    simp only [spec_ExprText.l0] at H
    by_cases c5 : x4_1 < (l0.length : Int)
    ·rw [if_pos c5] at H
     have c5b0 : decide (x4_1 < (l0.length : Int)) = true := decide_eq_true c5
     clear c5
     have HC6 := Aside0.mk H
     clear H
     go_upto_if 15 with (fail)
     go_cut [3] (fun v3 wc => ∃ (kq : Nat) (x3_5 : ByteArray), v3 = .string x3_5 ∧ Aside0 (spec_ExprText.j1 kq l0 x3_5 x4_1 = some r) ∧ Aside0 (kq ≤ k1) ∧ Aside0 (Below w.heap.size w wc))
     case first =>
      have H := HC6.out
      clear HC6
      by_cases c7 : x4_1 > 0
      ·rw [if_pos c7] at H
       have c7b0 : decide (0 < x4_1) = true := decide_eq_true c7
       clear c7
       (first | rw [c7b0] | (simp only [i64_w, i32_w]; rw [c7b0]) | skip)
       by_cases c8 : x3_1.size + 1 ≤ 9223372036854775807
       ·rw [if_pos c8] at H
        have c8b0 := eq_true c8
        have c8b1 : decide (x3_1.size + 1 ≤ 9223372036854775807) = true := decide_eq_true c8
        try have c8b2 : (9223372036854775807 < x3_1.size + 1) = False := eq_false (Nat.not_lt.2 c8)
        have H' := Aside0.mk H
        clear H
        go_wp2
        go_meet
        case rel => exact ⟨_, (x3_1 ++ (⟨#[32]⟩ : ByteArray)), (zE _), H', ⟨by have := HK1.out; first | omega | exact Nat.le_refl _⟩, ⟨zb _⟩⟩
       ·rw [if_neg c8] at H
        exact absurd H (by simp)
      ·rw [if_neg c7] at H
       have c7b0 : decide (0 < x4_1) = false := decide_eq_false c7
       clear c7
       (first | rw [c7b0] | (simp only [i64_w, i32_w]; rw [c7b0]) | skip)
       have H' := Aside0.mk H
       clear H
       go_wp2
       go_meet
       case rel => exact ⟨_, (x3_1), (zE _), H', ⟨by have := HK1.out; first | omega | exact Nat.le_refl _⟩, ⟨zb _⟩⟩
     case rest =>
      clear HC6
      obtain ⟨kq, x3_5, rfl, HA, HJ5, HB⟩ := hcut
      cases kq with
      | zero => exact absurd HA.out (by simp [spec_ExprText.j1])
      | succ kj5 =>
       have H := HA.out
       clear HA
       simp only [spec_ExprText.j1] at H
       by_cases c9 : 0 ≤ x4_1
       ·rw [if_pos c9] at H
        have c9b0 : decide (0 ≤ x4_1) = true := decide_eq_true c9
        clear c9
        by_cases c10 : x4_1 < (l0.length : Int)
        ·rw [if_pos c10] at H
         have c10b0 : decide (x4_1 < (l0.length : Int)) = true := decide_eq_true c10
         clear c10
         by_cases c11 : ((rd_T124 l0 x4_1).f0) = 1
         ·rw [if_pos c11] at H
          have c11b0 : (((rd_T124 l0 x4_1).f0) == 1) = true := beq_iff_eq.mpr c11
          have c11b1 : (((rd_T124 l0 x4_1).f0) != 1) = false := bne_eq_false_iff_eq.mpr c11
          clear c11
          obtain ⟨t182, A120, H⟩ := Option.bind_eq_some_iff.mp H
          have A12 := Aside0.mk A120
          clear A120
          by_cases c13 : x3_5.size + t182.size ≤ 9223372036854775807
          ·rw [if_pos c13] at H
           have c13b0 := eq_true c13
           have c13b1 : decide (x3_5.size + t182.size ≤ 9223372036854775807) = true := decide_eq_true c13
           try have c13b2 : (9223372036854775807 < x3_5.size + t182.size) = False := eq_false (Nat.not_lt.2 c13)
           have H' := Aside0.mk H
           clear H
           have p180 : 0 ≤ (x4_1 : Int) := of_decide_eq_true (za _)
           have q180 : x4_1 < (l0.length : Int) := of_decide_eq_true (za _)
           obtain ⟨ad180, e180, hx180_0, hx180_1, hx180_2⟩ := at_T124 HR0.out x4_1 p180 q180
           cases e180
           replace hx180_0 := zx HB hx180_0
           replace hx180_1 := zx HB hx180_1
           replace hx180_2 := zx HB hx180_2
           replace p180 := eq_true p180
           replace q180 := eq_true q180
           have p181 : 0 ≤ (x4_1 : Int) := of_decide_eq_true (za _)
           have q181 : x4_1 < (l0.length : Int) := of_decide_eq_true (za _)
           obtain ⟨ad181, e181, hx181_0, hx181_1, hx181_2⟩ := at_T124 HR0.out x4_1 p181 q181
           obtain rfl : ad180 = ad181 := (by injection e181)
           replace hx181_0 := zx HB hx181_0
           replace hx181_1 := zx HB hx181_1
           replace hx181_2 := zx HB hx181_2
           replace p181 := eq_true p181
           replace q181 := eq_true q181
           go_wp2_with (first | ((with_reducible refine gate_callee (f := 44) rfl ?_); refine zc (some 41) Tryz.func44 #[.int .i64 ((rd_T124 l0 x4_1).f1)] ?_; (with_reducible refine (spec_l1Dec.calls kj5 ((rd_T124 l0 x4_1).f1) t182 _ A12.out).mono ?_); rintro e w14 ⟨rfl, hb⟩; refine ⟨_, rfl, ?_⟩; replace HB := zt w hb; (try clear hb); (try clear hb2); (try clear hk); (try clear hi)))
           go_roundg kj5
           case measure => have := HK1.out; have := HJ5.out; omega
           case rel => exact ⟨(x3_5 ++ t182), (wrap64 (x4_1 + 1)), (zE _), (zE _), H', ⟨by have := HK1.out; have := HJ5.out; omega⟩, ⟨zb _⟩⟩
          ·rw [if_neg c13] at H
           exact absurd H (by simp)
         ·rw [if_neg c11] at H
          have c11b0 : (((rd_T124 l0 x4_1).f0) == 1) = false := beq_eq_false_iff_ne.mpr c11
          have c11b1 : (((rd_T124 l0 x4_1).f0) != 1) = true := bne_iff_ne.mpr c11
          by_cases c15 : ((rd_T124 l0 x4_1).f0) = 2
          ·rw [if_pos c15] at H
           have c15b0 : (((rd_T124 l0 x4_1).f0) == 2) = true := beq_iff_eq.mpr c15
           have c15b1 : (((rd_T124 l0 x4_1).f0) != 2) = false := bne_eq_false_iff_eq.mpr c15
           clear c15
           by_cases c16 : x3_5.size + ((rd_T124 l0 x4_1).f2).size ≤ 9223372036854775807
           ·rw [if_pos c16] at H
            have c16b0 := eq_true c16
            have c16b1 : decide (x3_5.size + ((rd_T124 l0 x4_1).f2).size ≤ 9223372036854775807) = true := decide_eq_true c16
            try have c16b2 : (9223372036854775807 < x3_5.size + ((rd_T124 l0 x4_1).f2).size) = False := eq_false (Nat.not_lt.2 c16)
            have H' := Aside0.mk H
            clear H
            have p180 : 0 ≤ (x4_1 : Int) := of_decide_eq_true (za _)
            have q180 : x4_1 < (l0.length : Int) := of_decide_eq_true (za _)
            obtain ⟨ad180, e180, hx180_0, hx180_1, hx180_2⟩ := at_T124 HR0.out x4_1 p180 q180
            cases e180
            replace hx180_0 := zx HB hx180_0
            replace hx180_1 := zx HB hx180_1
            replace hx180_2 := zx HB hx180_2
            replace p180 := eq_true p180
            replace q180 := eq_true q180
            have p183 : 0 ≤ (x4_1 : Int) := of_decide_eq_true (za _)
            have q183 : x4_1 < (l0.length : Int) := of_decide_eq_true (za _)
            obtain ⟨ad183, e183, hx183_0, hx183_1, hx183_2⟩ := at_T124 HR0.out x4_1 p183 q183
            obtain rfl : ad180 = ad183 := (by injection e183)
            replace hx183_0 := zx HB hx183_0
            replace hx183_1 := zx HB hx183_1
            replace hx183_2 := zx HB hx183_2
            replace p183 := eq_true p183
            replace q183 := eq_true q183
            go_wp2
            go_roundg kj5
            case measure => have := HK1.out; have := HJ5.out; omega
            case rel => exact ⟨(x3_5 ++ ((rd_T124 l0 x4_1).f2)), (wrap64 (x4_1 + 1)), (zE _), (zE _), H', ⟨by have := HK1.out; have := HJ5.out; omega⟩, ⟨zb _⟩⟩
           ·rw [if_neg c16] at H
            exact absurd H (by simp)
          ·rw [if_neg c15] at H
           have c15b0 : (((rd_T124 l0 x4_1).f0) == 2) = false := beq_eq_false_iff_ne.mpr c15
           have c15b1 : (((rd_T124 l0 x4_1).f0) != 2) = true := bne_iff_ne.mpr c15
           by_cases c17 : ((rd_T124 l0 x4_1).f0) = 3
           ·rw [if_pos c17] at H
            have c17b0 : (((rd_T124 l0 x4_1).f0) == 3) = true := beq_iff_eq.mpr c17
            have c17b1 : (((rd_T124 l0 x4_1).f0) != 3) = false := bne_eq_false_iff_eq.mpr c17
            clear c17
            by_cases c18 : x3_5.size + 1 ≤ 9223372036854775807
            ·rw [if_pos c18] at H
             have c18b0 := eq_true c18
             have c18b1 : decide (x3_5.size + 1 ≤ 9223372036854775807) = true := decide_eq_true c18
             try have c18b2 : (9223372036854775807 < x3_5.size + 1) = False := eq_false (Nat.not_lt.2 c18)
             by_cases c19 : (x3_5 ++ (⟨#[35]⟩ : ByteArray)).size + ((rd_T124 l0 x4_1).f2).size ≤ 9223372036854775807
             ·rw [if_pos c19] at H
              have c19b0 := eq_true c19
              have c19b1 : decide ((x3_5 ++ (⟨#[35]⟩ : ByteArray)).size + ((rd_T124 l0 x4_1).f2).size ≤ 9223372036854775807) = true := decide_eq_true c19
              try have c19b2 : (9223372036854775807 < (x3_5 ++ (⟨#[35]⟩ : ByteArray)).size + ((rd_T124 l0 x4_1).f2).size) = False := eq_false (Nat.not_lt.2 c19)
              have H' := Aside0.mk H
              clear H
              have p180 : 0 ≤ (x4_1 : Int) := of_decide_eq_true (za _)
              have q180 : x4_1 < (l0.length : Int) := of_decide_eq_true (za _)
              obtain ⟨ad180, e180, hx180_0, hx180_1, hx180_2⟩ := at_T124 HR0.out x4_1 p180 q180
              cases e180
              replace hx180_0 := zx HB hx180_0
              replace hx180_1 := zx HB hx180_1
              replace hx180_2 := zx HB hx180_2
              replace p180 := eq_true p180
              replace q180 := eq_true q180
              have p184 : 0 ≤ (x4_1 : Int) := of_decide_eq_true (za _)
              have q184 : x4_1 < (l0.length : Int) := of_decide_eq_true (za _)
              obtain ⟨ad184, e184, hx184_0, hx184_1, hx184_2⟩ := at_T124 HR0.out x4_1 p184 q184
              obtain rfl : ad180 = ad184 := (by injection e184)
              replace hx184_0 := zx HB hx184_0
              replace hx184_1 := zx HB hx184_1
              replace hx184_2 := zx HB hx184_2
              replace p184 := eq_true p184
              replace q184 := eq_true q184
              go_wp2
              go_roundg kj5
              case measure => have := HK1.out; have := HJ5.out; omega
              case rel => exact ⟨((x3_5 ++ (⟨#[35]⟩ : ByteArray)) ++ ((rd_T124 l0 x4_1).f2)), (wrap64 (x4_1 + 1)), (zE _), (zE _), H', ⟨by have := HK1.out; have := HJ5.out; omega⟩, ⟨zb _⟩⟩
             ·rw [if_neg c19] at H
              exact absurd H (by simp)
            ·rw [if_neg c18] at H
             exact absurd H (by simp)
           ·rw [if_neg c17] at H
            have c17b0 : (((rd_T124 l0 x4_1).f0) == 3) = false := beq_eq_false_iff_ne.mpr c17
            have c17b1 : (((rd_T124 l0 x4_1).f0) != 3) = true := bne_iff_ne.mpr c17
            obtain ⟨t185, A200, H⟩ := Option.bind_eq_some_iff.mp H
            have A20 := Aside0.mk A200
            clear A200
            by_cases c21 : 0 ≤ ((rd_T124 l0 x4_1).f0)
            ·rw [if_pos c21] at H
             have c21b0 : decide (0 ≤ ((rd_T124 l0 x4_1).f0)) = true := decide_eq_true c21
             clear c21
             by_cases c22 : ((rd_T124 l0 x4_1).f0) < (t185.length : Int)
             ·rw [if_pos c22] at H
              have c22b0 : decide (((rd_T124 l0 x4_1).f0) < (t185.length : Int)) = true := decide_eq_true c22
              clear c22
              by_cases c23 : x3_5.size + (rdOf ByteArray.empty t185 ((rd_T124 l0 x4_1).f0)).size ≤ 9223372036854775807
              ·rw [if_pos c23] at H
               have c23b0 := eq_true c23
               have c23b1 : decide (x3_5.size + (rdOf ByteArray.empty t185 ((rd_T124 l0 x4_1).f0)).size ≤ 9223372036854775807) = true := decide_eq_true c23
               try have c23b2 : (9223372036854775807 < x3_5.size + (rdOf ByteArray.empty t185 ((rd_T124 l0 x4_1).f0)).size) = False := eq_false (Nat.not_lt.2 c23)
               have H' := Aside0.mk H
               clear H
               have p180 : 0 ≤ (x4_1 : Int) := of_decide_eq_true (za _)
               have q180 : x4_1 < (l0.length : Int) := of_decide_eq_true (za _)
               obtain ⟨ad180, e180, hx180_0, hx180_1, hx180_2⟩ := at_T124 HR0.out x4_1 p180 q180
               cases e180
               replace hx180_0 := zx HB hx180_0
               replace hx180_1 := zx HB hx180_1
               replace hx180_2 := zx HB hx180_2
               replace p180 := eq_true p180
               replace q180 := eq_true q180
               have pk_ : 0 ≤ ((rd_T124 l0 x4_1).f0) := of_decide_eq_true c21b0
               have qk_ : ((rd_T124 l0 x4_1).f0) < (t185.length : Int) := of_decide_eq_true c22b0
               have tl_ : t185.length = 18 := by obtain rfl := Option.some.inj A20.out; rfl
               obtain ⟨ik_, hk_⟩ : ∃ i_ : Nat, ((rd_T124 l0 x4_1).f0) = (i_ : Int) := ⟨_, (Int.toNat_of_nonneg pk_).symm⟩
               have lt_ : ik_ < 18 := by rw [tl_, hk_] at qk_; omega
               have hs_ : spec_l2Words.arr[ik_]? = some (.string (rdOf ByteArray.empty t185 ((rd_T124 l0 x4_1).f0))) := by rw [hk_]; exact spec_l2Words.arr_at ik_ lt_ A20.out
               obtain ⟨sw_, hsw_⟩ : ∃ s_ : ByteArray, rdOf ByteArray.empty t185 ((rd_T124 l0 x4_1).f0) = s_ := ⟨_, rfl⟩
               rw [hsw_] at hs_ c23 c23b0 c23b1 c23b2
               have lti_ : ((ik_ : Int)) < 18 := by omega
               rw [hk_] at hx180_0
               clear pk_ qk_ tl_ c21b0 c22b0 A20
               have blt_ := World.block_lt_of_cell? wc _ hx180_0
               go_wp2
               go_region_with (go_at_call 89; refine (spec_l2Words.concrete _).mono ?_; rintro e w' ⟨rfl, rfl⟩)
               all_goals go_wp2
               all_goals (subst hsw_; go_roundg kj5; (case measure => have := HK1.out; have := HJ5.out; omega); (case rel => exact ⟨(x3_5 ++ (rdOf ByteArray.empty t185 ((rd_T124 l0 x4_1).f0))), (wrap64 (x4_1 + 1)), (zE _), (zE _), H', ⟨by have := HK1.out; have := HJ5.out; omega⟩, ⟨zb _⟩⟩))
              ·rw [if_neg c23] at H
               exact absurd H (by simp)
             ·rw [if_neg c22] at H
              exact absurd H (by simp)
            ·rw [if_neg c21] at H
             exact absurd H (by simp)
        ·rw [if_neg c10] at H
         exact absurd H (by simp)
       ·rw [if_neg c9] at H
        exact absurd H (by simp)
    ·rw [if_neg c5] at H
     have c5b0 : decide (x4_1 < (l0.length : Int)) = false := decide_eq_false c5
     clear c5
     obtain rfl := Option.some.inj H
     go_wp2
     go_ret
     exact ⟨ze _, zb _⟩
 ·replace c3 := Bool.eq_false_iff.mpr c3
  subst c3
  rw [if_neg (show ¬ (false = true) by decide)] at H
  obtain rfl := Option.some.inj H
  go_enter Tryz.func46, Tryz.ntmps46
  go_wp2_with (first | ((with_reducible refine gate_callee (f := 43) rfl ?_); refine zc (some 6) Tryz.func43 #[.slice A0 l0.length c0] ?_; (with_reducible refine (spec_ExprOk.calls k _ _ l0 false _ ?side1 ?side2 A2.out).mono ?_); (case side1 => repeat (first | exact HR0.out | (with_reducible refine Kd.C_alloc ?_ _) | (with_reducible refine Kd.C_drewN ?_ _) | (with_reducible refine Kd.C_drew ?_))); (case side2 => exact HC0.out); rintro e w27 ⟨rfl, hb⟩; refine ⟨_, rfl, ?_⟩; replace HB := zt w hb; (try clear hb); (try clear hb2); (try clear hk); (try clear hi)))
  go_ret
  exact ⟨ze _, zb _⟩

end Go.Proofs.YtlacpadpdfccmaaGreatDoor.PFnExactObjectText
namespace Go.Proofs.YtlacpadpdfccmaaGreatDoor.PFnExactObjectText
open Go.RowKit Go.Proofs.YtlacpadpdfccmaaGreatDoor.Z Go.Proofs.YtlacpadpdfccmaaGreatDoorW.PrintWords Go.Proofs.YtlacpadpdfccmaaGreatDoorW.PrintLast Go.Proofs.YtlacpadpdfccmaaGreatDoorW.PrintMore
attribute [local go_sem] max2_int min2_int max_two min_two max_three min_three max_four min_four   -- for this text's walks alone
set_option linter.unusedVariables false
set_option linter.unusedSimpArgs false

def spec_l3One.f (a0 : Bool) : Option (Int) := if a0 = true then (some 1) else (some 0)
set_option maxHeartbeats 8000000 in
set_option maxRecDepth 100000 in
theorem spec_l3One.calls (a0 : Bool) (r : Int) (w : World) (h : spec_l3One.f a0 = some r) :
 Calls Tryz.prog 47 #[.bool a0] w fun e w' => e = .returned (.int .i64 r) ∧ Drawn0 w w' := by
 have H : (if a0 = true then (some 1) else (some 0)) = some r := h
 clear h
 by_cases c2 : a0 = true
 ·subst c2
  rw [if_pos rfl] at H
  obtain rfl := Option.some.inj H
  go_enter Tryz.func47, Tryz.ntmps47
  go_wp2
  go_ret
  exact ⟨zE _, zd _⟩
 ·replace c2 := Bool.eq_false_iff.mpr c2
  subst c2
  rw [if_neg (show ¬ (false = true) by decide)] at H
  obtain rfl := Option.some.inj H
  go_enter Tryz.func47, Tryz.ntmps47
  go_wp2
  go_ret
  exact ⟨zE _, zd _⟩

end Go.Proofs.YtlacpadpdfccmaaGreatDoor.PFnExactObjectText
namespace Go.Proofs.YtlacpadpdfccmaaGreatDoor.PFnExactObjectText
open Go.RowKit Go.Proofs.YtlacpadpdfccmaaGreatDoor.Z Go.Proofs.YtlacpadpdfccmaaGreatDoorW.PrintWords Go.Proofs.YtlacpadpdfccmaaGreatDoorW.PrintLast Go.Proofs.YtlacpadpdfccmaaGreatDoorW.PrintMore
attribute [local go_sem] max2_int min2_int max_two min_two max_three min_three max_four min_four   -- for this text's walks alone
set_option linter.unusedVariables false
set_option linter.unusedSimpArgs false

mutual
def spec_l9Text.l0 : Nat → ByteArray → Int → List (S71) → List (S72) → List (List (S124)) → Option (ByteArray)
  | 0, _, _, _, _, _ => none
  | k + 1, x3, x4, x191000, x191001, x191002 => if x4 < (x191000.length : Int) then (if 0 ≤ x4 then (if x3.size + 8 ≤ 9223372036854775807 then (if (x3 ++ (⟨#[115, 101, 99, 116, 105, 111, 110, 32]⟩ : ByteArray)).size + ((rd_T71 x191000 x4).f0).size ≤ 9223372036854775807 then (if ((x3 ++ (⟨#[115, 101, 99, 116, 105, 111, 110, 32]⟩ : ByteArray)) ++ ((rd_T71 x191000 x4).f0)).size + 1 ≤ 9223372036854775807 then ((spec_l1Dec.f k ((rd_T71 x191000 x4).f1)).bind fun t193 => (if (((x3 ++ (⟨#[115, 101, 99, 116, 105, 111, 110, 32]⟩ : ByteArray)) ++ ((rd_T71 x191000 x4).f0)) ++ (⟨#[32]⟩ : ByteArray)).size + t193.size ≤ 9223372036854775807 then (if ((((x3 ++ (⟨#[115, 101, 99, 116, 105, 111, 110, 32]⟩ : ByteArray)) ++ ((rd_T71 x191000 x4).f0)) ++ (⟨#[32]⟩ : ByteArray)) ++ t193).size + 1 ≤ 9223372036854775807 then ((spec_l1Dec.f k ((rd_T71 x191000 x4).f2)).bind fun t194 => (if (((((x3 ++ (⟨#[115, 101, 99, 116, 105, 111, 110, 32]⟩ : ByteArray)) ++ ((rd_T71 x191000 x4).f0)) ++ (⟨#[32]⟩ : ByteArray)) ++ t193) ++ (⟨#[32]⟩ : ByteArray)).size + t194.size ≤ 9223372036854775807 then (if ((((((x3 ++ (⟨#[115, 101, 99, 116, 105, 111, 110, 32]⟩ : ByteArray)) ++ ((rd_T71 x191000 x4).f0)) ++ (⟨#[32]⟩ : ByteArray)) ++ t193) ++ (⟨#[32]⟩ : ByteArray)) ++ t194).size + 1 ≤ 9223372036854775807 then ((spec_l1Dec.f k ((rd_T71 x191000 x4).f3)).bind fun t195 => (if (((((((x3 ++ (⟨#[115, 101, 99, 116, 105, 111, 110, 32]⟩ : ByteArray)) ++ ((rd_T71 x191000 x4).f0)) ++ (⟨#[32]⟩ : ByteArray)) ++ t193) ++ (⟨#[32]⟩ : ByteArray)) ++ t194) ++ (⟨#[32]⟩ : ByteArray)).size + t195.size ≤ 9223372036854775807 then (if ((((((((x3 ++ (⟨#[115, 101, 99, 116, 105, 111, 110, 32]⟩ : ByteArray)) ++ ((rd_T71 x191000 x4).f0)) ++ (⟨#[32]⟩ : ByteArray)) ++ t193) ++ (⟨#[32]⟩ : ByteArray)) ++ t194) ++ (⟨#[32]⟩ : ByteArray)) ++ t195).size + 1 ≤ 9223372036854775807 then ((spec_l9Hex.f k ((rd_T71 x191000 x4).f4)).bind fun t196 => (if (((((((((x3 ++ (⟨#[115, 101, 99, 116, 105, 111, 110, 32]⟩ : ByteArray)) ++ ((rd_T71 x191000 x4).f0)) ++ (⟨#[32]⟩ : ByteArray)) ++ t193) ++ (⟨#[32]⟩ : ByteArray)) ++ t194) ++ (⟨#[32]⟩ : ByteArray)) ++ t195) ++ (⟨#[32]⟩ : ByteArray)).size + t196.size ≤ 9223372036854775807 then (if ((((((((((x3 ++ (⟨#[115, 101, 99, 116, 105, 111, 110, 32]⟩ : ByteArray)) ++ ((rd_T71 x191000 x4).f0)) ++ (⟨#[32]⟩ : ByteArray)) ++ t193) ++ (⟨#[32]⟩ : ByteArray)) ++ t194) ++ (⟨#[32]⟩ : ByteArray)) ++ t195) ++ (⟨#[32]⟩ : ByteArray)) ++ t196).size + 1 ≤ 9223372036854775807 then (spec_l9Text.l1 k (((((((((((x3 ++ (⟨#[115, 101, 99, 116, 105, 111, 110, 32]⟩ : ByteArray)) ++ ((rd_T71 x191000 x4).f0)) ++ (⟨#[32]⟩ : ByteArray)) ++ t193) ++ (⟨#[32]⟩ : ByteArray)) ++ t194) ++ (⟨#[32]⟩ : ByteArray)) ++ t195) ++ (⟨#[32]⟩ : ByteArray)) ++ t196) ++ (⟨#[10]⟩ : ByteArray)) x4 0 x191000 x191001 x191002 ((rd_T71 x191000 x4).f0) ((rd_T71 x191000 x4).f1) ((rd_T71 x191000 x4).f2) ((rd_T71 x191000 x4).f3) ((rd_T71 x191000 x4).f4) ((rd_T71 x191000 x4).f5)) else (none)) else (none))) else (none)) else (none))) else (none)) else (none))) else (none)) else (none))) else (none)) else (none)) else (none)) else (none)) else (spec_l9Text.l2 k x3 0 x191000 x191001 x191002)
def spec_l9Text.l1 : Nat → ByteArray → Int → Int → List (S71) → List (S72) → List (List (S124)) → ByteArray → Int → Int → Int → ByteArray → List (S79) → Option (ByteArray)
  | 0, _, _, _, _, _, _, _, _, _, _, _, _ => none
  | k + 1, x3, x4, x6, x191000, x191001, x191002, x193000, x193001, x193002, x193003, x193004, x193005 => if x6 < (x193005.length : Int) then (if x3.size + 6 ≤ 9223372036854775807 then (if 0 ≤ x6 then ((spec_l1Dec.f k ((rd_T79 x193005 x6).f0)).bind fun t198 => (if (x3 ++ (⟨#[112, 97, 116, 99, 104, 32]⟩ : ByteArray)).size + t198.size ≤ 9223372036854775807 then (if ((x3 ++ (⟨#[112, 97, 116, 99, 104, 32]⟩ : ByteArray)) ++ t198).size + 1 ≤ 9223372036854775807 then ((spec_l1Dec.f k ((rd_T79 x193005 x6).f1)).bind fun t200 => (if (((x3 ++ (⟨#[112, 97, 116, 99, 104, 32]⟩ : ByteArray)) ++ t198) ++ (⟨#[32]⟩ : ByteArray)).size + t200.size ≤ 9223372036854775807 then (if ((((x3 ++ (⟨#[112, 97, 116, 99, 104, 32]⟩ : ByteArray)) ++ t198) ++ (⟨#[32]⟩ : ByteArray)) ++ t200).size + 1 ≤ 9223372036854775807 then ((spec_ExprText.f k ((rd_T79 x193005 x6).f2)).bind fun t202 => (if (((((x3 ++ (⟨#[112, 97, 116, 99, 104, 32]⟩ : ByteArray)) ++ t198) ++ (⟨#[32]⟩ : ByteArray)) ++ t200) ++ (⟨#[32]⟩ : ByteArray)).size + t202.size ≤ 9223372036854775807 then (if ((((((x3 ++ (⟨#[112, 97, 116, 99, 104, 32]⟩ : ByteArray)) ++ t198) ++ (⟨#[32]⟩ : ByteArray)) ++ t200) ++ (⟨#[32]⟩ : ByteArray)) ++ t202).size + 1 ≤ 9223372036854775807 then (spec_l9Text.l1 k (((((((x3 ++ (⟨#[112, 97, 116, 99, 104, 32]⟩ : ByteArray)) ++ t198) ++ (⟨#[32]⟩ : ByteArray)) ++ t200) ++ (⟨#[32]⟩ : ByteArray)) ++ t202) ++ (⟨#[10]⟩ : ByteArray)) x4 (wrap64 (x6 + 1)) x191000 x191001 x191002 x193000 x193001 x193002 x193003 x193004 x193005) else (none)) else (none))) else (none)) else (none))) else (none)) else (none))) else (none)) else (none)) else (spec_l9Text.l0 k x3 (wrap64 (x4 + 1)) x191000 x191001 x191002)
def spec_l9Text.l2 : Nat → ByteArray → Int → List (S71) → List (S72) → List (List (S124)) → Option (ByteArray)
  | 0, _, _, _, _, _ => none
  | k + 1, x3, x7, x191000, x191001, x191002 => if x7 < (x191001.length : Int) then (if 0 ≤ x7 then (if x3.size + 7 ≤ 9223372036854775807 then (if (x3 ++ (⟨#[115, 121, 109, 98, 111, 108, 32]⟩ : ByteArray)).size + ((rd_T72 x191001 x7).f0).size ≤ 9223372036854775807 then (if ((x3 ++ (⟨#[115, 121, 109, 98, 111, 108, 32]⟩ : ByteArray)) ++ ((rd_T72 x191001 x7).f0)).size + 1 ≤ 9223372036854775807 then ((spec_l1Dec.f k ((rd_T72 x191001 x7).f1)).bind fun t205 => (if (((x3 ++ (⟨#[115, 121, 109, 98, 111, 108, 32]⟩ : ByteArray)) ++ ((rd_T72 x191001 x7).f0)) ++ (⟨#[32]⟩ : ByteArray)).size + t205.size ≤ 9223372036854775807 then (if ((((x3 ++ (⟨#[115, 121, 109, 98, 111, 108, 32]⟩ : ByteArray)) ++ ((rd_T72 x191001 x7).f0)) ++ (⟨#[32]⟩ : ByteArray)) ++ t205).size + 1 ≤ 9223372036854775807 then ((spec_l1Dec.f k ((rd_T72 x191001 x7).f2)).bind fun t206 => (if (((((x3 ++ (⟨#[115, 121, 109, 98, 111, 108, 32]⟩ : ByteArray)) ++ ((rd_T72 x191001 x7).f0)) ++ (⟨#[32]⟩ : ByteArray)) ++ t205) ++ (⟨#[32]⟩ : ByteArray)).size + t206.size ≤ 9223372036854775807 then (if ((((((x3 ++ (⟨#[115, 121, 109, 98, 111, 108, 32]⟩ : ByteArray)) ++ ((rd_T72 x191001 x7).f0)) ++ (⟨#[32]⟩ : ByteArray)) ++ t205) ++ (⟨#[32]⟩ : ByteArray)) ++ t206).size + 1 ≤ 9223372036854775807 then ((spec_l3One.f ((rd_T72 x191001 x7).f3)).bind fun t207 => ((spec_l1Dec.f k t207).bind fun t208 => (if (((((((x3 ++ (⟨#[115, 121, 109, 98, 111, 108, 32]⟩ : ByteArray)) ++ ((rd_T72 x191001 x7).f0)) ++ (⟨#[32]⟩ : ByteArray)) ++ t205) ++ (⟨#[32]⟩ : ByteArray)) ++ t206) ++ (⟨#[32]⟩ : ByteArray)).size + t208.size ≤ 9223372036854775807 then (if ((((((((x3 ++ (⟨#[115, 121, 109, 98, 111, 108, 32]⟩ : ByteArray)) ++ ((rd_T72 x191001 x7).f0)) ++ (⟨#[32]⟩ : ByteArray)) ++ t205) ++ (⟨#[32]⟩ : ByteArray)) ++ t206) ++ (⟨#[32]⟩ : ByteArray)) ++ t208).size + 1 ≤ 9223372036854775807 then (spec_l9Text.l2 k (((((((((x3 ++ (⟨#[115, 121, 109, 98, 111, 108, 32]⟩ : ByteArray)) ++ ((rd_T72 x191001 x7).f0)) ++ (⟨#[32]⟩ : ByteArray)) ++ t205) ++ (⟨#[32]⟩ : ByteArray)) ++ t206) ++ (⟨#[32]⟩ : ByteArray)) ++ t208) ++ (⟨#[10]⟩ : ByteArray)) (wrap64 (x7 + 1)) x191000 x191001 x191002) else (none)) else (none)))) else (none)) else (none))) else (none)) else (none))) else (none)) else (none)) else (none)) else (none)) else (spec_l9Text.l3 k x3 0 x191000 x191001 x191002)
def spec_l9Text.l3 : Nat → ByteArray → Int → List (S71) → List (S72) → List (List (S124)) → Option (ByteArray)
  | 0, _, _, _, _, _ => none
  | k + 1, x3, x9, x191000, x191001, x191002 => if x9 < (x191002.length : Int) then (if x3.size + 7 ≤ 9223372036854775807 then (if 0 ≤ x9 then ((spec_ExprText.f k (rd_L10 x191002 x9)).bind fun t210 => (if (x3 ++ (⟨#[97, 115, 115, 101, 114, 116, 32]⟩ : ByteArray)).size + t210.size ≤ 9223372036854775807 then (if ((x3 ++ (⟨#[97, 115, 115, 101, 114, 116, 32]⟩ : ByteArray)) ++ t210).size + 1 ≤ 9223372036854775807 then (spec_l9Text.l3 k (((x3 ++ (⟨#[97, 115, 115, 101, 114, 116, 32]⟩ : ByteArray)) ++ t210) ++ (⟨#[10]⟩ : ByteArray)) (wrap64 (x9 + 1)) x191000 x191001 x191002) else (none)) else (none))) else (none)) else (none)) else (some x3)
end
def spec_l9Text.f (k : Nat) (l0_0 : List (S71)) (l0_1 : List (S72)) (l0_2 : List (List (S124))) : Option (ByteArray) := spec_l9Text.l0 k (⟨#[]⟩ : ByteArray) 0 l0_0 l0_1 l0_2
theorem spec_l9Text.mono_l : ∀ k, (∀ y0 y1 y2 y3 y4, LeO (spec_l9Text.l0 k y0 y1 y2 y3 y4) (spec_l9Text.l0 (k + 1) y0 y1 y2 y3 y4)) ∧ (∀ y0 y1 y2 y3 y4 y5 y6 y7 y8 y9 y10 y11, LeO (spec_l9Text.l1 k y0 y1 y2 y3 y4 y5 y6 y7 y8 y9 y10 y11) (spec_l9Text.l1 (k + 1) y0 y1 y2 y3 y4 y5 y6 y7 y8 y9 y10 y11)) ∧ (∀ y0 y1 y2 y3 y4, LeO (spec_l9Text.l2 k y0 y1 y2 y3 y4) (spec_l9Text.l2 (k + 1) y0 y1 y2 y3 y4)) ∧ (∀ y0 y1 y2 y3 y4, LeO (spec_l9Text.l3 k y0 y1 y2 y3 y4) (spec_l9Text.l3 (k + 1) y0 y1 y2 y3 y4))
  | 0 => ⟨fun _ _ _ _ _ r h => by simp [spec_l9Text.l0] at h, fun _ _ _ _ _ _ _ _ _ _ _ _ r h => by simp [spec_l9Text.l1] at h, fun _ _ _ _ _ r h => by simp [spec_l9Text.l2] at h, fun _ _ _ _ _ r h => by simp [spec_l9Text.l3] at h⟩
  | k + 1 => by
    obtain ⟨ih0, ih1, ih2, ih3⟩ := spec_l9Text.mono_l k
    refine ⟨?_, ?_, ?_, ?_⟩
    · intro y0 y1 y2 y3 y4
      unfold spec_l9Text.l0
      repeat' with_reducible first | exact ih0 _ _ _ _ _ | exact ih1 _ _ _ _ _ _ _ _ _ _ _ _ | exact ih2 _ _ _ _ _ | exact ih3 _ _ _ _ _ | exact spec_ExprText.mono _ _ | exact spec_l1Dec.mono _ _ | exact spec_l9Hex.mono _ _ | exact LeO.refl _ | exact LeO.none _ | refine LeO.ite ?_ ?_ | refine LeO.bind ?_ (fun _ => ?_)
    · intro y0 y1 y2 y3 y4 y5 y6 y7 y8 y9 y10 y11
      unfold spec_l9Text.l1
      repeat' with_reducible first | exact ih0 _ _ _ _ _ | exact ih1 _ _ _ _ _ _ _ _ _ _ _ _ | exact ih2 _ _ _ _ _ | exact ih3 _ _ _ _ _ | exact spec_ExprText.mono _ _ | exact spec_l1Dec.mono _ _ | exact spec_l9Hex.mono _ _ | exact LeO.refl _ | exact LeO.none _ | refine LeO.ite ?_ ?_ | refine LeO.bind ?_ (fun _ => ?_)
    · intro y0 y1 y2 y3 y4
      unfold spec_l9Text.l2
      repeat' with_reducible first | exact ih0 _ _ _ _ _ | exact ih1 _ _ _ _ _ _ _ _ _ _ _ _ | exact ih2 _ _ _ _ _ | exact ih3 _ _ _ _ _ | exact spec_ExprText.mono _ _ | exact spec_l1Dec.mono _ _ | exact spec_l9Hex.mono _ _ | exact LeO.refl _ | exact LeO.none _ | refine LeO.ite ?_ ?_ | refine LeO.bind ?_ (fun _ => ?_)
    · intro y0 y1 y2 y3 y4
      unfold spec_l9Text.l3
      repeat' with_reducible first | exact ih0 _ _ _ _ _ | exact ih1 _ _ _ _ _ _ _ _ _ _ _ _ | exact ih2 _ _ _ _ _ | exact ih3 _ _ _ _ _ | exact spec_ExprText.mono _ _ | exact spec_l1Dec.mono _ _ | exact spec_l9Hex.mono _ _ | exact LeO.refl _ | exact LeO.none _ | refine LeO.ite ?_ ?_ | refine LeO.bind ?_ (fun _ => ?_)
theorem spec_l9Text.mono : ∀ a0 a1 a2 k, LeO (spec_l9Text.f k a0 a1 a2) (spec_l9Text.f (k + 1) a0 a1 a2) := by
  intro a0 a1 a2 k
  obtain ⟨ih0, ih1, ih2, ih3⟩ := spec_l9Text.mono_l k
  unfold spec_l9Text.f
  repeat' with_reducible first | exact ih0 _ _ _ _ _ | exact ih1 _ _ _ _ _ _ _ _ _ _ _ _ | exact ih2 _ _ _ _ _ | exact ih3 _ _ _ _ _ | exact spec_ExprText.mono _ _ | exact spec_l1Dec.mono _ _ | exact spec_l9Hex.mono _ _ | exact LeO.refl _ | exact LeO.none _ | refine LeO.ite ?_ ?_ | refine LeO.bind ?_ (fun _ => ?_)
def spec_l9Text.T6 : Bool × List (List Nat × List Nat) := (true, [([], []), ([0], [0]), ([], []), ([2], [2]), ([1, 3], [1, 3]), ([4], [4]), ([], []), ([6], [6]), ([7], [7]), ([5, 8], [5, 8]), ([9], [9]), ([], []), ([11], [11]), ([12, 8], [12]), ([10, 13], [10, 13]), ([14], [14]), ([], []), ([16], [16]), ([17, 13], [17]), ([15, 18], [15, 18]), ([19], [19]), ([], []), ([21], [21]), ([22, 18], [22]), ([20, 23], [20, 23]), ([24], [24]), ([25, 23, 0, 1, 2, 3, 4, 5, 6, 7, 8, 9, 10, 11, 12, 13, 14, 15, 16, 17, 18, 19, 20, 21, 22, 23, 24, 25], [0, 25])])
def spec_l9Text.B6 : List Nat := [0, 1, 0, 4, 15, 31, 0, 64, 192, 511, 1023, 0, 2048, 6592, 16383, 32767, 0, 65536, 211392, 524287, 1048575, 0, 2097152, 6764992, 16777215, 33554431, 67108863]
theorem spec_l9Text.tab6 : rtab .any (opsOf Tryz.f18 6) = spec_l9Text.T6 := by kernel_rfl
theorem spec_l9Text.bits6 : waitsOk spec_l9Text.T6.2 spec_l9Text.B6 = true := by kernel_rfl
def spec_l9Text.T10 : Bool × List (List Nat × List Nat) := (true, [([], []), ([0], [0]), ([], []), ([2], [2]), ([], []), ([3, 4], [3, 4]), ([5], [5]), ([6], [6]), ([7], [7]), ([1, 8], [1, 8]), ([9], [9]), ([], []), ([11], [11]), ([], []), ([12, 13], [12, 13]), ([14], [14]), ([15], [15]), ([16, 8], [16]), ([10, 17], [10, 17]), ([18], [18]), ([], []), ([20], [20]), ([], []), ([21, 22], [21, 22]), ([23], [23]), ([24], [24]), ([25, 17], [25]), ([19, 26], [19, 26]), ([27], [27]), ([28, 26, 0, 1, 2, 3, 4, 5, 6, 7, 8, 9, 10, 11, 12, 13, 14, 15, 16, 17, 18, 19, 20, 21, 22, 23, 24, 25, 26, 27, 28], [0, 28])])
def spec_l9Text.B10 : List Nat := [0, 1, 0, 4, 0, 28, 60, 124, 252, 511, 1023, 0, 2048, 0, 14336, 30720, 63488, 129532, 262143, 524287, 0, 1048576, 0, 7340032, 15728640, 32505856, 66320892, 134217727, 268435455, 536870911]
theorem spec_l9Text.tab10 : rtab .any (opsOf Tryz.f18 10) = spec_l9Text.T10 := by kernel_rfl
theorem spec_l9Text.bits10 : waitsOk spec_l9Text.T10.2 spec_l9Text.B10 = true := by kernel_rfl
def spec_l9Text.T15 : Bool × List (List Nat × List Nat) := (true, [([], []), ([0], [0]), ([], []), ([2], [2]), ([1, 3], [1, 3]), ([4], [4]), ([], []), ([6], [6]), ([7], [7]), ([5, 8], [5, 8]), ([9], [9]), ([], []), ([11], [11]), ([12, 8], [12]), ([10, 13], [10, 13]), ([14], [14]), ([], []), ([16], [16]), ([17, 13], [17]), ([18, 18], [18]), ([15, 19], [15, 19]), ([20], [20]), ([21, 19, 0, 1, 2, 3, 4, 5, 6, 7, 8, 9, 10, 11, 12, 13, 14, 15, 16, 17, 18, 19, 20, 21], [0, 21])])
def spec_l9Text.B15 : List Nat := [0, 1, 0, 4, 15, 31, 0, 64, 192, 511, 1023, 0, 2048, 6592, 16383, 32767, 0, 65536, 211392, 473536, 1048575, 2097151, 4194303]
theorem spec_l9Text.tab15 : rtab .any (opsOf Tryz.f18 15) = spec_l9Text.T15 := by kernel_rfl
theorem spec_l9Text.bits15 : waitsOk spec_l9Text.T15.2 spec_l9Text.B15 = true := by kernel_rfl
set_option maxHeartbeats 8000000 in
set_option maxRecDepth 100000 in
theorem spec_l9Text.calls (k : Nat) (A0_0 : Option Addr) (c0_0 : Nat) (l0_0 : List (S71)) (A0_1 : Option Addr) (c0_1 : Nat) (l0_1 : List (S72)) (A0_2 : Option Addr) (c0_2 : Nat) (l0_2 : List (List (S124))) (r : ByteArray) (w : World) (hr0_0 : Kd.C k71 w A0_0 l0_0.length l0_0) (hc0_0 : l0_0.length ≤ c0_0) (hr0_1 : Kd.C k72 w A0_1 l0_1.length l0_1) (hc0_1 : l0_1.length ≤ c0_1) (hr0_2 : Kd.C (Kd.slice 124 k124) w A0_2 l0_2.length l0_2) (hc0_2 : l0_2.length ≤ c0_2) (h : spec_l9Text.f k l0_0 l0_1 l0_2 = some r) :
 Calls Tryz.prog 18 #[.agg #[.slice A0_0 l0_0.length c0_0, .slice A0_1 l0_1.length c0_1, .slice A0_2 l0_2.length c0_2]] w fun e w' => e = .returned (.string r) ∧ Below w.heap.size w w' := by
 have hu33 := Tryz.underlying33
 have hu71 := Tryz.underlying71
 have hu72 := Tryz.underlying72
 have HR0_0 := Aside0.mk hr0_0
 have HC0_0 := Aside0.mk hc0_0
 clear hr0_0 hc0_0
 have HR0_1 := Aside0.mk hr0_1
 have HC0_1 := Aside0.mk hc0_1
 clear hr0_1 hc0_1
 have HR0_2 := Aside0.mk hr0_2
 have HC0_2 := Aside0.mk hc0_2
 clear hr0_2 hc0_2
 have HB := Aside0.mk (Below.refl w.heap.size w)
 have H : (spec_l9Text.l0 k (⟨#[]⟩ : ByteArray) 0 l0_0 l0_1 l0_2) = some r := h
 clear h
 have H' := Aside0.mk H
 clear H
 go_enter Tryz.func18, Tryz.ntmps18
 go_wp2_with (first | ((with_reducible refine gate_dst (N := 1) rfl ?_); refine zbx 1 #[.slice A0_0 l0_0.length c0_0, .slice A0_1 l0_1.length c0_1, .slice A0_2 l0_2.length c0_2] 33 ?_; intro gb190 hg w2 hbox hb; have BK190 := Aside0.mk (hbox); have GW190 := zs w hg; have GE190 := GW190; replace HB := zt w hb; clear hb hbox hg))
 go_loopg [3, 4] k (fun kq v3 v4 w' => ∃ (x3_1 : ByteArray) (x4_1 : Int), v3 = .string x3_1 ∧ v4 = .int .i64 x4_1 ∧ Aside0 (spec_l9Text.l0 kq x3_1 x4_1 l0_0 l0_1 l0_2 = some r) ∧ Aside0 (kq ≤ k) ∧ Aside0 (w'.heap[gb190]? = some (.cells #[(.slice A0_0 l0_0.length c0_0), (.slice A0_1 l0_1.length c0_1), (.slice A0_2 l0_2.length c0_2)] 33 (0, 0))) ∧ Aside0 (Below w.heap.size w w'))
 case atStart => exact ⟨((⟨#[]⟩ : ByteArray)), (0), (zE _), (zE _), H', ⟨Nat.le_refl _⟩, ⟨zr BK190⟩, ⟨zb _⟩⟩
 case round =>
  clear H'
  obtain ⟨x3_1, x4_1, rfl, rfl, HA, HK1, BK190, HB⟩ := hrel
  cases gk with
  | zero => exact absurd HA.out (by simp [spec_l9Text.l0])
  | succ k1 =>
   have H := HA.out
   clear HA
   simp only [spec_l9Text.l0] at H
   by_cases c3 : x4_1 < (l0_0.length : Int)
   ·rw [if_pos c3] at H
    have c3b0 : decide (x4_1 < (l0_0.length : Int)) = true := decide_eq_true c3
    clear c3
    by_cases c4 : 0 ≤ x4_1
    ·rw [if_pos c4] at H
     have c4b0 : decide (0 ≤ x4_1) = true := decide_eq_true c4
     clear c4
     by_cases c5 : x3_1.size + 8 ≤ 9223372036854775807
     ·rw [if_pos c5] at H
      have c5b0 := eq_true c5
      have c5b1 : decide (x3_1.size + 8 ≤ 9223372036854775807) = true := decide_eq_true c5
      try have c5b2 : (9223372036854775807 < x3_1.size + 8) = False := eq_false (Nat.not_lt.2 c5)
      try (have c5b3 := c5b2; simp only [ByteArray.size_append] at c5b3; (try simp only [zz1, zz2, zz3, zz4, zz5, zz6] at c5b3))
      by_cases c6 : (x3_1 ++ (⟨#[115, 101, 99, 116, 105, 111, 110, 32]⟩ : ByteArray)).size + ((rd_T71 l0_0 x4_1).f0).size ≤ 9223372036854775807
      ·rw [if_pos c6] at H
       have c6b0 := eq_true c6
       have c6b1 : decide ((x3_1 ++ (⟨#[115, 101, 99, 116, 105, 111, 110, 32]⟩ : ByteArray)).size + ((rd_T71 l0_0 x4_1).f0).size ≤ 9223372036854775807) = true := decide_eq_true c6
       try have c6b2 : (9223372036854775807 < (x3_1 ++ (⟨#[115, 101, 99, 116, 105, 111, 110, 32]⟩ : ByteArray)).size + ((rd_T71 l0_0 x4_1).f0).size) = False := eq_false (Nat.not_lt.2 c6)
       try (have c6b3 := c6b2; simp only [ByteArray.size_append] at c6b3; (try simp only [zz1, zz2, zz3, zz4, zz5, zz6] at c6b3))
       by_cases c7 : ((x3_1 ++ (⟨#[115, 101, 99, 116, 105, 111, 110, 32]⟩ : ByteArray)) ++ ((rd_T71 l0_0 x4_1).f0)).size + 1 ≤ 9223372036854775807
       ·rw [if_pos c7] at H
        have c7b0 := eq_true c7
        have c7b1 : decide (((x3_1 ++ (⟨#[115, 101, 99, 116, 105, 111, 110, 32]⟩ : ByteArray)) ++ ((rd_T71 l0_0 x4_1).f0)).size + 1 ≤ 9223372036854775807) = true := decide_eq_true c7
        try have c7b2 : (9223372036854775807 < ((x3_1 ++ (⟨#[115, 101, 99, 116, 105, 111, 110, 32]⟩ : ByteArray)) ++ ((rd_T71 l0_0 x4_1).f0)).size + 1) = False := eq_false (Nat.not_lt.2 c7)
        try (have c7b3 := c7b2; simp only [ByteArray.size_append] at c7b3; (try simp only [zz1, zz2, zz3, zz4, zz5, zz6] at c7b3))
        obtain ⟨t193, A80, H⟩ := Option.bind_eq_some_iff.mp H
        have A8 := Aside0.mk A80
        clear A80
        by_cases c9 : (((x3_1 ++ (⟨#[115, 101, 99, 116, 105, 111, 110, 32]⟩ : ByteArray)) ++ ((rd_T71 l0_0 x4_1).f0)) ++ (⟨#[32]⟩ : ByteArray)).size + t193.size ≤ 9223372036854775807
        ·rw [if_pos c9] at H
         have c9b0 := eq_true c9
         have c9b1 : decide ((((x3_1 ++ (⟨#[115, 101, 99, 116, 105, 111, 110, 32]⟩ : ByteArray)) ++ ((rd_T71 l0_0 x4_1).f0)) ++ (⟨#[32]⟩ : ByteArray)).size + t193.size ≤ 9223372036854775807) = true := decide_eq_true c9
         try have c9b2 : (9223372036854775807 < (((x3_1 ++ (⟨#[115, 101, 99, 116, 105, 111, 110, 32]⟩ : ByteArray)) ++ ((rd_T71 l0_0 x4_1).f0)) ++ (⟨#[32]⟩ : ByteArray)).size + t193.size) = False := eq_false (Nat.not_lt.2 c9)
         try (have c9b3 := c9b2; simp only [ByteArray.size_append] at c9b3; (try simp only [zz1, zz2, zz3, zz4, zz5, zz6] at c9b3))
         by_cases c10 : ((((x3_1 ++ (⟨#[115, 101, 99, 116, 105, 111, 110, 32]⟩ : ByteArray)) ++ ((rd_T71 l0_0 x4_1).f0)) ++ (⟨#[32]⟩ : ByteArray)) ++ t193).size + 1 ≤ 9223372036854775807
         ·rw [if_pos c10] at H
          have c10b0 := eq_true c10
          have c10b1 : decide (((((x3_1 ++ (⟨#[115, 101, 99, 116, 105, 111, 110, 32]⟩ : ByteArray)) ++ ((rd_T71 l0_0 x4_1).f0)) ++ (⟨#[32]⟩ : ByteArray)) ++ t193).size + 1 ≤ 9223372036854775807) = true := decide_eq_true c10
          try have c10b2 : (9223372036854775807 < ((((x3_1 ++ (⟨#[115, 101, 99, 116, 105, 111, 110, 32]⟩ : ByteArray)) ++ ((rd_T71 l0_0 x4_1).f0)) ++ (⟨#[32]⟩ : ByteArray)) ++ t193).size + 1) = False := eq_false (Nat.not_lt.2 c10)
          try (have c10b3 := c10b2; simp only [ByteArray.size_append] at c10b3; (try simp only [zz1, zz2, zz3, zz4, zz5, zz6] at c10b3))
          obtain ⟨t194, A110, H⟩ := Option.bind_eq_some_iff.mp H
          have A11 := Aside0.mk A110
          clear A110
          by_cases c12 : (((((x3_1 ++ (⟨#[115, 101, 99, 116, 105, 111, 110, 32]⟩ : ByteArray)) ++ ((rd_T71 l0_0 x4_1).f0)) ++ (⟨#[32]⟩ : ByteArray)) ++ t193) ++ (⟨#[32]⟩ : ByteArray)).size + t194.size ≤ 9223372036854775807
          ·rw [if_pos c12] at H
           have c12b0 := eq_true c12
           have c12b1 : decide ((((((x3_1 ++ (⟨#[115, 101, 99, 116, 105, 111, 110, 32]⟩ : ByteArray)) ++ ((rd_T71 l0_0 x4_1).f0)) ++ (⟨#[32]⟩ : ByteArray)) ++ t193) ++ (⟨#[32]⟩ : ByteArray)).size + t194.size ≤ 9223372036854775807) = true := decide_eq_true c12
           try have c12b2 : (9223372036854775807 < (((((x3_1 ++ (⟨#[115, 101, 99, 116, 105, 111, 110, 32]⟩ : ByteArray)) ++ ((rd_T71 l0_0 x4_1).f0)) ++ (⟨#[32]⟩ : ByteArray)) ++ t193) ++ (⟨#[32]⟩ : ByteArray)).size + t194.size) = False := eq_false (Nat.not_lt.2 c12)
           try (have c12b3 := c12b2; simp only [ByteArray.size_append] at c12b3; (try simp only [zz1, zz2, zz3, zz4, zz5, zz6] at c12b3))
           by_cases c13 : ((((((x3_1 ++ (⟨#[115, 101, 99, 116, 105, 111, 110, 32]⟩ : ByteArray)) ++ ((rd_T71 l0_0 x4_1).f0)) ++ (⟨#[32]⟩ : ByteArray)) ++ t193) ++ (⟨#[32]⟩ : ByteArray)) ++ t194).size + 1 ≤ 9223372036854775807
           ·rw [if_pos c13] at H
            have c13b0 := eq_true c13
            have c13b1 : decide (((((((x3_1 ++ (⟨#[115, 101, 99, 116, 105, 111, 110, 32]⟩ : ByteArray)) ++ ((rd_T71 l0_0 x4_1).f0)) ++ (⟨#[32]⟩ : ByteArray)) ++ t193) ++ (⟨#[32]⟩ : ByteArray)) ++ t194).size + 1 ≤ 9223372036854775807) = true := decide_eq_true c13
            try have c13b2 : (9223372036854775807 < ((((((x3_1 ++ (⟨#[115, 101, 99, 116, 105, 111, 110, 32]⟩ : ByteArray)) ++ ((rd_T71 l0_0 x4_1).f0)) ++ (⟨#[32]⟩ : ByteArray)) ++ t193) ++ (⟨#[32]⟩ : ByteArray)) ++ t194).size + 1) = False := eq_false (Nat.not_lt.2 c13)
            try (have c13b3 := c13b2; simp only [ByteArray.size_append] at c13b3; (try simp only [zz1, zz2, zz3, zz4, zz5, zz6] at c13b3))
            obtain ⟨t195, A140, H⟩ := Option.bind_eq_some_iff.mp H
            have A14 := Aside0.mk A140
            clear A140
            by_cases c15 : (((((((x3_1 ++ (⟨#[115, 101, 99, 116, 105, 111, 110, 32]⟩ : ByteArray)) ++ ((rd_T71 l0_0 x4_1).f0)) ++ (⟨#[32]⟩ : ByteArray)) ++ t193) ++ (⟨#[32]⟩ : ByteArray)) ++ t194) ++ (⟨#[32]⟩ : ByteArray)).size + t195.size ≤ 9223372036854775807
            ·rw [if_pos c15] at H
             have c15b0 := eq_true c15
             have c15b1 : decide ((((((((x3_1 ++ (⟨#[115, 101, 99, 116, 105, 111, 110, 32]⟩ : ByteArray)) ++ ((rd_T71 l0_0 x4_1).f0)) ++ (⟨#[32]⟩ : ByteArray)) ++ t193) ++ (⟨#[32]⟩ : ByteArray)) ++ t194) ++ (⟨#[32]⟩ : ByteArray)).size + t195.size ≤ 9223372036854775807) = true := decide_eq_true c15
             try have c15b2 : (9223372036854775807 < (((((((x3_1 ++ (⟨#[115, 101, 99, 116, 105, 111, 110, 32]⟩ : ByteArray)) ++ ((rd_T71 l0_0 x4_1).f0)) ++ (⟨#[32]⟩ : ByteArray)) ++ t193) ++ (⟨#[32]⟩ : ByteArray)) ++ t194) ++ (⟨#[32]⟩ : ByteArray)).size + t195.size) = False := eq_false (Nat.not_lt.2 c15)
             try (have c15b3 := c15b2; simp only [ByteArray.size_append] at c15b3; (try simp only [zz1, zz2, zz3, zz4, zz5, zz6] at c15b3))
             by_cases c16 : ((((((((x3_1 ++ (⟨#[115, 101, 99, 116, 105, 111, 110, 32]⟩ : ByteArray)) ++ ((rd_T71 l0_0 x4_1).f0)) ++ (⟨#[32]⟩ : ByteArray)) ++ t193) ++ (⟨#[32]⟩ : ByteArray)) ++ t194) ++ (⟨#[32]⟩ : ByteArray)) ++ t195).size + 1 ≤ 9223372036854775807
             ·rw [if_pos c16] at H
              have c16b0 := eq_true c16
              have c16b1 : decide (((((((((x3_1 ++ (⟨#[115, 101, 99, 116, 105, 111, 110, 32]⟩ : ByteArray)) ++ ((rd_T71 l0_0 x4_1).f0)) ++ (⟨#[32]⟩ : ByteArray)) ++ t193) ++ (⟨#[32]⟩ : ByteArray)) ++ t194) ++ (⟨#[32]⟩ : ByteArray)) ++ t195).size + 1 ≤ 9223372036854775807) = true := decide_eq_true c16
              try have c16b2 : (9223372036854775807 < ((((((((x3_1 ++ (⟨#[115, 101, 99, 116, 105, 111, 110, 32]⟩ : ByteArray)) ++ ((rd_T71 l0_0 x4_1).f0)) ++ (⟨#[32]⟩ : ByteArray)) ++ t193) ++ (⟨#[32]⟩ : ByteArray)) ++ t194) ++ (⟨#[32]⟩ : ByteArray)) ++ t195).size + 1) = False := eq_false (Nat.not_lt.2 c16)
              try (have c16b3 := c16b2; simp only [ByteArray.size_append] at c16b3; (try simp only [zz1, zz2, zz3, zz4, zz5, zz6] at c16b3))
              obtain ⟨t196, A170, H⟩ := Option.bind_eq_some_iff.mp H
              have A17 := Aside0.mk A170
              clear A170
              by_cases c18 : (((((((((x3_1 ++ (⟨#[115, 101, 99, 116, 105, 111, 110, 32]⟩ : ByteArray)) ++ ((rd_T71 l0_0 x4_1).f0)) ++ (⟨#[32]⟩ : ByteArray)) ++ t193) ++ (⟨#[32]⟩ : ByteArray)) ++ t194) ++ (⟨#[32]⟩ : ByteArray)) ++ t195) ++ (⟨#[32]⟩ : ByteArray)).size + t196.size ≤ 9223372036854775807
              ·rw [if_pos c18] at H
               have c18b0 := eq_true c18
               have c18b1 : decide ((((((((((x3_1 ++ (⟨#[115, 101, 99, 116, 105, 111, 110, 32]⟩ : ByteArray)) ++ ((rd_T71 l0_0 x4_1).f0)) ++ (⟨#[32]⟩ : ByteArray)) ++ t193) ++ (⟨#[32]⟩ : ByteArray)) ++ t194) ++ (⟨#[32]⟩ : ByteArray)) ++ t195) ++ (⟨#[32]⟩ : ByteArray)).size + t196.size ≤ 9223372036854775807) = true := decide_eq_true c18
               try have c18b2 : (9223372036854775807 < (((((((((x3_1 ++ (⟨#[115, 101, 99, 116, 105, 111, 110, 32]⟩ : ByteArray)) ++ ((rd_T71 l0_0 x4_1).f0)) ++ (⟨#[32]⟩ : ByteArray)) ++ t193) ++ (⟨#[32]⟩ : ByteArray)) ++ t194) ++ (⟨#[32]⟩ : ByteArray)) ++ t195) ++ (⟨#[32]⟩ : ByteArray)).size + t196.size) = False := eq_false (Nat.not_lt.2 c18)
               try (have c18b3 := c18b2; simp only [ByteArray.size_append] at c18b3; (try simp only [zz1, zz2, zz3, zz4, zz5, zz6] at c18b3))
               by_cases c19 : ((((((((((x3_1 ++ (⟨#[115, 101, 99, 116, 105, 111, 110, 32]⟩ : ByteArray)) ++ ((rd_T71 l0_0 x4_1).f0)) ++ (⟨#[32]⟩ : ByteArray)) ++ t193) ++ (⟨#[32]⟩ : ByteArray)) ++ t194) ++ (⟨#[32]⟩ : ByteArray)) ++ t195) ++ (⟨#[32]⟩ : ByteArray)) ++ t196).size + 1 ≤ 9223372036854775807
               ·rw [if_pos c19] at H
                have c19b0 := eq_true c19
                have c19b1 : decide (((((((((((x3_1 ++ (⟨#[115, 101, 99, 116, 105, 111, 110, 32]⟩ : ByteArray)) ++ ((rd_T71 l0_0 x4_1).f0)) ++ (⟨#[32]⟩ : ByteArray)) ++ t193) ++ (⟨#[32]⟩ : ByteArray)) ++ t194) ++ (⟨#[32]⟩ : ByteArray)) ++ t195) ++ (⟨#[32]⟩ : ByteArray)) ++ t196).size + 1 ≤ 9223372036854775807) = true := decide_eq_true c19
                try have c19b2 : (9223372036854775807 < ((((((((((x3_1 ++ (⟨#[115, 101, 99, 116, 105, 111, 110, 32]⟩ : ByteArray)) ++ ((rd_T71 l0_0 x4_1).f0)) ++ (⟨#[32]⟩ : ByteArray)) ++ t193) ++ (⟨#[32]⟩ : ByteArray)) ++ t194) ++ (⟨#[32]⟩ : ByteArray)) ++ t195) ++ (⟨#[32]⟩ : ByteArray)) ++ t196).size + 1) = False := eq_false (Nat.not_lt.2 c19)
                try (have c19b3 := c19b2; simp only [ByteArray.size_append] at c19b3; (try simp only [zz1, zz2, zz3, zz4, zz5, zz6] at c19b3))
                have H' := Aside0.mk H
                clear H
                obtain ⟨hcz20_0, hcz20_1, hcz20_2, hfz20_0, hfz20_1, hfz20_2⟩ := zF3 BK190
                have p191 : 0 ≤ (x4_1 : Int) := of_decide_eq_true (za _)
                have q191 : x4_1 < (l0_0.length : Int) := of_decide_eq_true (za _)
                obtain ⟨ad191, A191_5, c191_5, e191, hx191_0, hx191_1, hx191_2, hx191_3, hx191_4, hx191_5, hl191_5, hi191_5⟩ := at_T71 HR0_0.out x4_1 p191 q191
                cases e191
                replace hx191_0 := zx HB hx191_0
                replace hx191_1 := zx HB hx191_1
                replace hx191_2 := zx HB hx191_2
                replace hx191_3 := zx HB hx191_3
                replace hx191_4 := zx HB hx191_4
                replace hx191_5 := zx HB hx191_5
                have HR191_5 := Aside0.mk hi191_5
                have HC191_5 := Aside0.mk hl191_5
                clear hi191_5 hl191_5
                replace p191 := eq_true p191
                replace q191 := eq_true q191
                try go_wp2_with (first | ((with_reducible refine gate_dst (N := 5) rfl ?_); refine zbx 5 #[.string (⟨#[]⟩ : ByteArray), .int .i64 0, .int .i64 0, .int .i64 0, .string (⟨#[]⟩ : ByteArray), .slice none 0 0] 71 ?_; intro gb192 hg w21 hbox hb; have BK192 := Aside0.mk (hbox); have GW192 := zs w hg; have GE192 := GW192; have NB190_192 := zlt BK190 hg; have NB192_190 := zgt (zlt BK190 hg); replace BK190 := zk BK190 hb; replace HB := zt w hb; clear hb hbox hg; have hnb22 := NB192_190.out; have hnc22 := NB190_192.out; have hcz23_0 := zc0 BK192; have hcz23_1 := zc1 BK192; have hcz23_2 := zc2 BK192; have hcz23_3 := zc3 BK192; have hcz23_4 := zc4 BK192; have hcz23_5 := zc5 BK192; have hfz23_0 := blk_frozen BK192.out 0; have hfz23_1 := blk_frozen BK192.out 1; have hfz23_2 := blk_frozen BK192.out 2; have hfz23_3 := blk_frozen BK192.out 3; have hfz23_4 := blk_frozen BK192.out 4; have hfz23_5 := blk_frozen BK192.out 5))
                have n0_ : Aside0 (((((((w21.setCell ⟨gb192, 0, none⟩ (.string ((rd_T71 l0_0 x4_1).f0))).setCell ⟨gb192, 1, none⟩ (.int .i64 ((rd_T71 l0_0 x4_1).f1))).setCell ⟨gb192, 2, none⟩ (.int .i64 ((rd_T71 l0_0 x4_1).f2))).setCell ⟨gb192, 3, none⟩ (.int .i64 ((rd_T71 l0_0 x4_1).f3))).setCell ⟨gb192, 4, none⟩ (.string ((rd_T71 l0_0 x4_1).f4))).setCell ⟨gb192, 5, none⟩ (.slice A191_5 ((rd_T71 l0_0 x4_1).f5).length c191_5)).heap[gb190]? = some (.cells #[.slice (some ad191) l0_0.length c0_0, .slice A0_1 l0_1.length c0_1, .slice A0_2 l0_2.length c0_2] 33 (0, 0))) := ⟨zw _⟩
                have n1_ : Aside0 (((((((w21.setCell ⟨gb192, 0, none⟩ (.string ((rd_T71 l0_0 x4_1).f0))).setCell ⟨gb192, 1, none⟩ (.int .i64 ((rd_T71 l0_0 x4_1).f1))).setCell ⟨gb192, 2, none⟩ (.int .i64 ((rd_T71 l0_0 x4_1).f2))).setCell ⟨gb192, 3, none⟩ (.int .i64 ((rd_T71 l0_0 x4_1).f3))).setCell ⟨gb192, 4, none⟩ (.string ((rd_T71 l0_0 x4_1).f4))).setCell ⟨gb192, 5, none⟩ (.slice A191_5 ((rd_T71 l0_0 x4_1).f5).length c191_5)).heap[gb192]? = some (.cells #[.string ((rd_T71 l0_0 x4_1).f0), .int .i64 ((rd_T71 l0_0 x4_1).f1), .int .i64 ((rd_T71 l0_0 x4_1).f2), .int .i64 ((rd_T71 l0_0 x4_1).f3), .string ((rd_T71 l0_0 x4_1).f4), .slice A191_5 ((rd_T71 l0_0 x4_1).f5).length c191_5] 71 (0, 0))) := ⟨by (with_reducible repeat (first | refine blk_drewN ?_ _ | refine blk_drew ?_ | refine blk_alloc ?_ _)); refine blk_put (cs := #[.string ((rd_T71 l0_0 x4_1).f0), .int .i64 ((rd_T71 l0_0 x4_1).f1), .int .i64 ((rd_T71 l0_0 x4_1).f2), .int .i64 ((rd_T71 l0_0 x4_1).f3), .string ((rd_T71 l0_0 x4_1).f4), .slice none 0 0]) ?_ 5 _ rfl; (with_reducible repeat (first | refine blk_drewN ?_ _ | refine blk_drew ?_ | refine blk_alloc ?_ _)); refine blk_put (cs := #[.string ((rd_T71 l0_0 x4_1).f0), .int .i64 ((rd_T71 l0_0 x4_1).f1), .int .i64 ((rd_T71 l0_0 x4_1).f2), .int .i64 ((rd_T71 l0_0 x4_1).f3), .string (⟨#[]⟩ : ByteArray), .slice none 0 0]) ?_ 4 _ rfl; (with_reducible repeat (first | refine blk_drewN ?_ _ | refine blk_drew ?_ | refine blk_alloc ?_ _)); refine blk_put (cs := #[.string ((rd_T71 l0_0 x4_1).f0), .int .i64 ((rd_T71 l0_0 x4_1).f1), .int .i64 ((rd_T71 l0_0 x4_1).f2), .int .i64 0, .string (⟨#[]⟩ : ByteArray), .slice none 0 0]) ?_ 3 _ rfl; (with_reducible repeat (first | refine blk_drewN ?_ _ | refine blk_drew ?_ | refine blk_alloc ?_ _)); refine blk_put (cs := #[.string ((rd_T71 l0_0 x4_1).f0), .int .i64 ((rd_T71 l0_0 x4_1).f1), .int .i64 0, .int .i64 0, .string (⟨#[]⟩ : ByteArray), .slice none 0 0]) ?_ 2 _ rfl; (with_reducible repeat (first | refine blk_drewN ?_ _ | refine blk_drew ?_ | refine blk_alloc ?_ _)); refine blk_put (cs := #[.string ((rd_T71 l0_0 x4_1).f0), .int .i64 0, .int .i64 0, .int .i64 0, .string (⟨#[]⟩ : ByteArray), .slice none 0 0]) ?_ 1 _ rfl; (with_reducible repeat (first | refine blk_drewN ?_ _ | refine blk_drew ?_ | refine blk_alloc ?_ _)); refine blk_put (cs := #[.string (⟨#[]⟩ : ByteArray), .int .i64 0, .int .i64 0, .int .i64 0, .string (⟨#[]⟩ : ByteArray), .slice none 0 0]) ?_ 0 _ rfl; (with_reducible repeat (first | refine blk_drewN ?_ _ | refine blk_drew ?_ | refine blk_alloc ?_ _)); exact BK192.out⟩
                have n2_ : Aside0 (Below w.heap.size w ((((((w21.setCell ⟨gb192, 0, none⟩ (.string ((rd_T71 l0_0 x4_1).f0))).setCell ⟨gb192, 1, none⟩ (.int .i64 ((rd_T71 l0_0 x4_1).f1))).setCell ⟨gb192, 2, none⟩ (.int .i64 ((rd_T71 l0_0 x4_1).f2))).setCell ⟨gb192, 3, none⟩ (.int .i64 ((rd_T71 l0_0 x4_1).f3))).setCell ⟨gb192, 4, none⟩ (.string ((rd_T71 l0_0 x4_1).f4))).setCell ⟨gb192, 5, none⟩ (.slice A191_5 ((rd_T71 l0_0 x4_1).f5).length c191_5))) := ⟨zb _⟩
                (try clear BK190)
                (try clear BK192)
                (try clear HB)
                generalize ((((((w21.setCell ⟨gb192, 0, none⟩ (.string ((rd_T71 l0_0 x4_1).f0))).setCell ⟨gb192, 1, none⟩ (.int .i64 ((rd_T71 l0_0 x4_1).f1))).setCell ⟨gb192, 2, none⟩ (.int .i64 ((rd_T71 l0_0 x4_1).f2))).setCell ⟨gb192, 3, none⟩ (.int .i64 ((rd_T71 l0_0 x4_1).f3))).setCell ⟨gb192, 4, none⟩ (.string ((rd_T71 l0_0 x4_1).f4))).setCell ⟨gb192, 5, none⟩ (.slice A191_5 ((rd_T71 l0_0 x4_1).f5).length c191_5)) = w24 at n0_ n1_ n2_ ⊢
                have BK190 := n0_
                have BK192 := n1_
                have HB := n2_
                clear n0_ n1_ n2_
                have n0_ := Aside0.mk (blk_drew BK190.out)
                have n1_ := Aside0.mk (blk_drew BK192.out)
                have n2_ := Aside0.mk (below_drew1 HB.out)
                clear BK190
                clear BK192
                clear HB
                have BK190 := n0_
                have BK192 := n1_
                have HB := n2_
                clear n0_ n1_ n2_
                refine start_ (n := 27) (S := fun w' => w'.cell? ⟨gb192, 0, none⟩ = some (.string ((rd_T71 l0_0 x4_1).f0)) ∧ w'.cell? ⟨gb192, 1, none⟩ = some (.int .i64 ((rd_T71 l0_0 x4_1).f1)) ∧ w'.cell? ⟨gb192, 2, none⟩ = some (.int .i64 ((rd_T71 l0_0 x4_1).f2)) ∧ w'.cell? ⟨gb192, 3, none⟩ = some (.int .i64 ((rd_T71 l0_0 x4_1).f3)) ∧ w'.cell? ⟨gb192, 4, none⟩ = some (.string ((rd_T71 l0_0 x4_1).f4)) ∧ w'.cell? ⟨gb192, 5, none⟩ = some (.slice A191_5 ((rd_T71 l0_0 x4_1).f5).length c191_5)) (ds := []) (zm 27 0) (by kernel_rfl) rfl rfl ⟨zc0 BK192, zc1 BK192, zc2 BK192, zc3 BK192, zc4 BK192, zc5 BK192⟩ (fun hHeld => ?_); refine with_tabW spec_l9Text.tab6 spec_l9Text.bits6 (fun HT_ HW_ => ?_)
                generalize w24.drew = w25 at BK190 BK192 HB hHeld ⊢
                refine zp 0 22 (zm 27 1) ?_
                refine zp 1 23 (zm 27 3) ?_
                refine zp 2 24 (zm 27 7) ?_
                refine zp 6 28 (zm 27 71) ?_
                refine zp 11 33 (zm 27 2119) ?_
                refine zp 16 38 (zm 27 67655) ?_
                refine zp 21 43 (zm 27 2164807) ?_
                refine zy 3 25 (zm 27 2164815) hHeld ?_
                refine zp 4 26 (zm 27 2164831) ?_
                refine zp 5 27 (zm 27 2164863) ?_
                refine zy 7 29 (zm 27 2164991) hHeld ?_
                refine zy 12 34 (zm 27 2169087) hHeld ?_
                refine zy 17 39 (zm 27 2300159) hHeld ?_
                refine zy 22 44 (zm 27 6494463) hHeld ?_
                refine one_ (i := 8) (N := some 30) (zm 27 6494719) rfl rfl (one_of HT_.out (by kernel_rfl)) (by decide) (fun K hK => ?_)
                refine zi Tryz.func44 #[.int .i64 ((rd_T71 l0_0 x4_1).f1)] ?_
                with_reducible refine (spec_l1Dec.calls k1 ((rd_T71 l0_0 x4_1).f1) t193 _ A8.out).mono ?_
                rintro e w26 ⟨rfl, hb⟩
                refine ⟨_, rfl, ?_⟩
                have n0_ := zk BK190 hb
                have n1_ := zk BK192 hb
                have n2_ := zt w hb
                clear BK190
                clear BK192
                clear HB
                have BK190 := n0_
                have BK192 := n1_
                have HB := n2_
                clear n0_ n1_ n2_
                (try clear hb)
                (try clear hb2)
                (try clear hk)
                (try clear hi)
                refine hK.out _ _ ⟨zc0 BK192, zc1 BK192, zc2 BK192, zc3 BK192, zc4 BK192, zc5 BK192⟩ (fun hHeld => ?_)
                clear hK K
                refine zq ?_
                refine zp 9 31 (zm 27 6495231) ?_
                refine zp 10 32 (zm 27 6496255) ?_
                refine one_ (i := 13) (N := some 35) (zm 27 6504447) rfl rfl (one_of HT_.out (by kernel_rfl)) (by decide) (fun K hK => ?_)
                refine zi Tryz.func44 #[.int .i64 ((rd_T71 l0_0 x4_1).f2)] ?_
                with_reducible refine (spec_l1Dec.calls k1 ((rd_T71 l0_0 x4_1).f2) t194 _ A11.out).mono ?_
                rintro e w27 ⟨rfl, hb⟩
                refine ⟨_, rfl, ?_⟩
                have n0_ := zk BK190 hb
                have n1_ := zk BK192 hb
                have n2_ := zt w hb
                clear BK190
                clear BK192
                clear HB
                have BK190 := n0_
                have BK192 := n1_
                have HB := n2_
                clear n0_ n1_ n2_
                (try clear hb)
                (try clear hb2)
                (try clear hk)
                (try clear hi)
                refine hK.out _ _ ⟨zc0 BK192, zc1 BK192, zc2 BK192, zc3 BK192, zc4 BK192, zc5 BK192⟩ (fun hHeld => ?_)
                clear hK K
                refine zq ?_
                refine zp 14 36 (zm 27 6520831) ?_
                refine zp 15 37 (zm 27 6553599) ?_
                refine one_ (i := 18) (N := some 40) (zm 27 6815743) rfl rfl (one_of HT_.out (by kernel_rfl)) (by decide) (fun K hK => ?_)
                refine zi Tryz.func44 #[.int .i64 ((rd_T71 l0_0 x4_1).f3)] ?_
                with_reducible refine (spec_l1Dec.calls k1 ((rd_T71 l0_0 x4_1).f3) t195 _ A14.out).mono ?_
                rintro e w28 ⟨rfl, hb⟩
                refine ⟨_, rfl, ?_⟩
                have n0_ := zk BK190 hb
                have n1_ := zk BK192 hb
                have n2_ := zt w hb
                clear BK190
                clear BK192
                clear HB
                have BK190 := n0_
                have BK192 := n1_
                have HB := n2_
                clear n0_ n1_ n2_
                (try clear hb)
                (try clear hb2)
                (try clear hk)
                (try clear hi)
                refine hK.out _ _ ⟨zc0 BK192, zc1 BK192, zc2 BK192, zc3 BK192, zc4 BK192, zc5 BK192⟩ (fun hHeld => ?_)
                clear hK K
                refine zq ?_
                refine zp 19 41 (zm 27 7340031) ?_
                refine zp 20 42 (zm 27 8388607) ?_
                refine one_ (i := 23) (N := some 45) (zm 27 16777215) rfl rfl (one_of HT_.out (by kernel_rfl)) (by decide) (fun K hK => ?_)
                refine zi Tryz.func45 #[.string ((rd_T71 l0_0 x4_1).f4)] ?_
                with_reducible refine (spec_l9Hex.calls k1 ((rd_T71 l0_0 x4_1).f4) t196 _ A17.out).mono ?_
                rintro e w' ⟨rfl, ⟨nd, rfl⟩⟩
                refine ⟨_, rfl, ?_⟩
                refine hK.out _ _ ⟨zc0 BK192, zc1 BK192, zc2 BK192, zc3 BK192, zc4 BK192, zc5 BK192⟩ (fun hHeld => ?_)
                clear hK K
                refine zq ?_
                refine zp 24 46 (zm 27 33554431) ?_
                refine zp 25 47 (zm 27 67108863) ?_
                refine zp 26 3 (zm 27 134217727) ?_
                refine done_ (done_of HT_.out (by kernel_rfl)) ?_
                try go_wp2
                go_loopg [3, 6] k1 (fun kq v3 v6 w' => ∃ (x3_2 : ByteArray) (x6_2 : Int), v3 = .string x3_2 ∧ v6 = .int .i64 x6_2 ∧ Aside0 (spec_l9Text.l1 kq x3_2 x4_1 x6_2 l0_0 l0_1 l0_2 ((rd_T71 l0_0 x4_1).f0) ((rd_T71 l0_0 x4_1).f1) ((rd_T71 l0_0 x4_1).f2) ((rd_T71 l0_0 x4_1).f3) ((rd_T71 l0_0 x4_1).f4) ((rd_T71 l0_0 x4_1).f5) = some r) ∧ Aside0 (kq ≤ k1) ∧ Aside0 (w'.heap[gb190]? = some (.cells #[(.slice (some ad191) l0_0.length c0_0), (.slice A0_1 l0_1.length c0_1), (.slice A0_2 l0_2.length c0_2)] 33 (0, 0))) ∧ Aside0 (w'.heap[gb192]? = some (.cells #[.string ((rd_T71 l0_0 x4_1).f0), .int .i64 ((rd_T71 l0_0 x4_1).f1), .int .i64 ((rd_T71 l0_0 x4_1).f2), .int .i64 ((rd_T71 l0_0 x4_1).f3), .string ((rd_T71 l0_0 x4_1).f4), (.slice A191_5 ((rd_T71 l0_0 x4_1).f5).length c191_5)] 71 (0, 0))) ∧ Aside0 (Below w.heap.size w w'))
                case atStart => exact ⟨(((((((((((x3_1 ++ (⟨#[115, 101, 99, 116, 105, 111, 110, 32]⟩ : ByteArray)) ++ ((rd_T71 l0_0 x4_1).f0)) ++ (⟨#[32]⟩ : ByteArray)) ++ t193) ++ (⟨#[32]⟩ : ByteArray)) ++ t194) ++ (⟨#[32]⟩ : ByteArray)) ++ t195) ++ (⟨#[32]⟩ : ByteArray)) ++ t196) ++ (⟨#[10]⟩ : ByteArray)), (0), (zE _), (zE _), H', ⟨Nat.le_refl _⟩, ⟨zr BK190⟩, ⟨zr BK192⟩, ⟨zb _⟩⟩
                case round =>
                 clear H'
                 obtain ⟨x3_2, x6_2, rfl, rfl, HA, HK2, BK190, BK192, HB⟩ := hrel
                 cases gk with
                 | zero => exact absurd HA.out (by simp [spec_l9Text.l1])
                 | succ k2 =>
                  have H := HA.out
                  clear HA
                  simp only [spec_l9Text.l1] at H
                  by_cases c29 : x6_2 < (((rd_T71 l0_0 x4_1).f5).length : Int)
                  ·rw [if_pos c29] at H
                   have c29b0 : decide (x6_2 < (((rd_T71 l0_0 x4_1).f5).length : Int)) = true := decide_eq_true c29
                   clear c29
                   by_cases c30 : x3_2.size + 6 ≤ 9223372036854775807
                   ·rw [if_pos c30] at H
                    have c30b0 := eq_true c30
                    have c30b1 : decide (x3_2.size + 6 ≤ 9223372036854775807) = true := decide_eq_true c30
                    try have c30b2 : (9223372036854775807 < x3_2.size + 6) = False := eq_false (Nat.not_lt.2 c30)
                    try (have c30b3 := c30b2; simp only [ByteArray.size_append] at c30b3; (try simp only [zz1, zz2, zz3, zz4, zz5, zz6] at c30b3))
                    by_cases c31 : 0 ≤ x6_2
                    ·rw [if_pos c31] at H
                     have c31b0 : decide (0 ≤ x6_2) = true := decide_eq_true c31
                     clear c31
                     obtain ⟨t198, A320, H⟩ := Option.bind_eq_some_iff.mp H
                     have A32 := Aside0.mk A320
                     clear A320
                     by_cases c33 : (x3_2 ++ (⟨#[112, 97, 116, 99, 104, 32]⟩ : ByteArray)).size + t198.size ≤ 9223372036854775807
                     ·rw [if_pos c33] at H
                      have c33b0 := eq_true c33
                      have c33b1 : decide ((x3_2 ++ (⟨#[112, 97, 116, 99, 104, 32]⟩ : ByteArray)).size + t198.size ≤ 9223372036854775807) = true := decide_eq_true c33
                      try have c33b2 : (9223372036854775807 < (x3_2 ++ (⟨#[112, 97, 116, 99, 104, 32]⟩ : ByteArray)).size + t198.size) = False := eq_false (Nat.not_lt.2 c33)
                      try (have c33b3 := c33b2; simp only [ByteArray.size_append] at c33b3; (try simp only [zz1, zz2, zz3, zz4, zz5, zz6] at c33b3))
                      by_cases c34 : ((x3_2 ++ (⟨#[112, 97, 116, 99, 104, 32]⟩ : ByteArray)) ++ t198).size + 1 ≤ 9223372036854775807
                      ·rw [if_pos c34] at H
                       have c34b0 := eq_true c34
                       have c34b1 : decide (((x3_2 ++ (⟨#[112, 97, 116, 99, 104, 32]⟩ : ByteArray)) ++ t198).size + 1 ≤ 9223372036854775807) = true := decide_eq_true c34
                       try have c34b2 : (9223372036854775807 < ((x3_2 ++ (⟨#[112, 97, 116, 99, 104, 32]⟩ : ByteArray)) ++ t198).size + 1) = False := eq_false (Nat.not_lt.2 c34)
                       try (have c34b3 := c34b2; simp only [ByteArray.size_append] at c34b3; (try simp only [zz1, zz2, zz3, zz4, zz5, zz6] at c34b3))
                       obtain ⟨t200, A350, H⟩ := Option.bind_eq_some_iff.mp H
                       have A35 := Aside0.mk A350
                       clear A350
                       by_cases c36 : (((x3_2 ++ (⟨#[112, 97, 116, 99, 104, 32]⟩ : ByteArray)) ++ t198) ++ (⟨#[32]⟩ : ByteArray)).size + t200.size ≤ 9223372036854775807
                       ·rw [if_pos c36] at H
                        have c36b0 := eq_true c36
                        have c36b1 : decide ((((x3_2 ++ (⟨#[112, 97, 116, 99, 104, 32]⟩ : ByteArray)) ++ t198) ++ (⟨#[32]⟩ : ByteArray)).size + t200.size ≤ 9223372036854775807) = true := decide_eq_true c36
                        try have c36b2 : (9223372036854775807 < (((x3_2 ++ (⟨#[112, 97, 116, 99, 104, 32]⟩ : ByteArray)) ++ t198) ++ (⟨#[32]⟩ : ByteArray)).size + t200.size) = False := eq_false (Nat.not_lt.2 c36)
                        try (have c36b3 := c36b2; simp only [ByteArray.size_append] at c36b3; (try simp only [zz1, zz2, zz3, zz4, zz5, zz6] at c36b3))
                        by_cases c37 : ((((x3_2 ++ (⟨#[112, 97, 116, 99, 104, 32]⟩ : ByteArray)) ++ t198) ++ (⟨#[32]⟩ : ByteArray)) ++ t200).size + 1 ≤ 9223372036854775807
                        ·rw [if_pos c37] at H
                         have c37b0 := eq_true c37
                         have c37b1 : decide (((((x3_2 ++ (⟨#[112, 97, 116, 99, 104, 32]⟩ : ByteArray)) ++ t198) ++ (⟨#[32]⟩ : ByteArray)) ++ t200).size + 1 ≤ 9223372036854775807) = true := decide_eq_true c37
                         try have c37b2 : (9223372036854775807 < ((((x3_2 ++ (⟨#[112, 97, 116, 99, 104, 32]⟩ : ByteArray)) ++ t198) ++ (⟨#[32]⟩ : ByteArray)) ++ t200).size + 1) = False := eq_false (Nat.not_lt.2 c37)
                         try (have c37b3 := c37b2; simp only [ByteArray.size_append] at c37b3; (try simp only [zz1, zz2, zz3, zz4, zz5, zz6] at c37b3))
                         obtain ⟨t202, A380, H⟩ := Option.bind_eq_some_iff.mp H
                         have A38 := Aside0.mk A380
                         clear A380
                         by_cases c39 : (((((x3_2 ++ (⟨#[112, 97, 116, 99, 104, 32]⟩ : ByteArray)) ++ t198) ++ (⟨#[32]⟩ : ByteArray)) ++ t200) ++ (⟨#[32]⟩ : ByteArray)).size + t202.size ≤ 9223372036854775807
                         ·rw [if_pos c39] at H
                          have c39b0 := eq_true c39
                          have c39b1 : decide ((((((x3_2 ++ (⟨#[112, 97, 116, 99, 104, 32]⟩ : ByteArray)) ++ t198) ++ (⟨#[32]⟩ : ByteArray)) ++ t200) ++ (⟨#[32]⟩ : ByteArray)).size + t202.size ≤ 9223372036854775807) = true := decide_eq_true c39
                          try have c39b2 : (9223372036854775807 < (((((x3_2 ++ (⟨#[112, 97, 116, 99, 104, 32]⟩ : ByteArray)) ++ t198) ++ (⟨#[32]⟩ : ByteArray)) ++ t200) ++ (⟨#[32]⟩ : ByteArray)).size + t202.size) = False := eq_false (Nat.not_lt.2 c39)
                          try (have c39b3 := c39b2; simp only [ByteArray.size_append] at c39b3; (try simp only [zz1, zz2, zz3, zz4, zz5, zz6] at c39b3))
                          by_cases c40 : ((((((x3_2 ++ (⟨#[112, 97, 116, 99, 104, 32]⟩ : ByteArray)) ++ t198) ++ (⟨#[32]⟩ : ByteArray)) ++ t200) ++ (⟨#[32]⟩ : ByteArray)) ++ t202).size + 1 ≤ 9223372036854775807
                          ·rw [if_pos c40] at H
                           have c40b0 := eq_true c40
                           have c40b1 : decide (((((((x3_2 ++ (⟨#[112, 97, 116, 99, 104, 32]⟩ : ByteArray)) ++ t198) ++ (⟨#[32]⟩ : ByteArray)) ++ t200) ++ (⟨#[32]⟩ : ByteArray)) ++ t202).size + 1 ≤ 9223372036854775807) = true := decide_eq_true c40
                           try have c40b2 : (9223372036854775807 < ((((((x3_2 ++ (⟨#[112, 97, 116, 99, 104, 32]⟩ : ByteArray)) ++ t198) ++ (⟨#[32]⟩ : ByteArray)) ++ t200) ++ (⟨#[32]⟩ : ByteArray)) ++ t202).size + 1) = False := eq_false (Nat.not_lt.2 c40)
                           try (have c40b3 := c40b2; simp only [ByteArray.size_append] at c40b3; (try simp only [zz1, zz2, zz3, zz4, zz5, zz6] at c40b3))
                           have H' := Aside0.mk H
                           clear H
                           have hnb41 := NB192_190.out
                           have hnc41 := NB190_192.out
                           obtain ⟨hcz42_0, hcz42_1, hcz42_2, hcz42_3, hcz42_4, hcz42_5, hfz42_0, hfz42_1, hfz42_2, hfz42_3, hfz42_4, hfz42_5⟩ := zF6 BK192
                           try go_wp2
                           have n0_ := Aside0.mk (blk_drew BK190.out)
                           have n1_ := Aside0.mk (blk_drew BK192.out)
                           have n2_ := Aside0.mk (below_drew1 HB.out)
                           clear BK190
                           clear BK192
                           clear HB
                           have BK190 := n0_
                           have BK192 := n1_
                           have HB := n2_
                           clear n0_ n1_ n2_
                           have p197 : 0 ≤ (x6_2 : Int) := of_decide_eq_true (za _)
                           have q197 : x6_2 < (((rd_T71 l0_0 x4_1).f5).length : Int) := of_decide_eq_true (za _)
                           obtain ⟨ad197, A197_2, c197_2, e197, hx197_0, hx197_1, hx197_2, hl197_2, hi197_2⟩ := at_T79 HR191_5.out x6_2 p197 q197
                           have hw197_2 := hx197_2
                           have hw197_1 := hx197_1
                           have hw197_0 := hx197_0
                           cases e197
                           replace hx197_0 := zx HB hx197_0
                           replace hx197_1 := zx HB hx197_1
                           replace hx197_2 := zx HB hx197_2
                           have HR197_2 := Aside0.mk hi197_2
                           have HC197_2 := Aside0.mk hl197_2
                           clear hi197_2 hl197_2
                           replace p197 := eq_true p197
                           replace q197 := eq_true q197
                           have p199 : 0 ≤ (x6_2 : Int) := of_decide_eq_true (za _)
                           have q199 : x6_2 < (((rd_T71 l0_0 x4_1).f5).length : Int) := of_decide_eq_true (za _)
                           obtain ⟨ad199, A199_2, c199_2, e199, hx199_0, hx199_1, hx199_2, hl199_2, hi199_2⟩ := at_T79 HR191_5.out x6_2 p199 q199
                           have hw199_2 := hx199_2
                           have hw199_1 := hx199_1
                           have hw199_0 := hx199_0
                           obtain rfl : ad197 = ad199 := (by injection e199)
                           replace hx199_0 := zx HB hx199_0
                           replace hx199_1 := zx HB hx199_1
                           replace hx199_2 := zx HB hx199_2
                           have HR199_2 := Aside0.mk hi199_2
                           have HC199_2 := Aside0.mk hl199_2
                           clear hi199_2 hl199_2
                           replace p199 := eq_true p199
                           replace q199 := eq_true q199
                           have ea_ := Option.some.inj (hx197_2.symm.trans hx199_2)
                           injection ea_ with ea_ en_ ec_
                           subst ea_
                           subst ec_
                           clear en_
                           have p201 : 0 ≤ (x6_2 : Int) := of_decide_eq_true (za _)
                           have q201 : x6_2 < (((rd_T71 l0_0 x4_1).f5).length : Int) := of_decide_eq_true (za _)
                           obtain ⟨ad201, A201_2, c201_2, e201, hx201_0, hx201_1, hx201_2, hl201_2, hi201_2⟩ := at_T79 HR191_5.out x6_2 p201 q201
                           have hw201_2 := hx201_2
                           have hw201_1 := hx201_1
                           have hw201_0 := hx201_0
                           obtain rfl : ad197 = ad201 := (by injection e201)
                           replace hx201_0 := zx HB hx201_0
                           replace hx201_1 := zx HB hx201_1
                           replace hx201_2 := zx HB hx201_2
                           have HR201_2 := Aside0.mk hi201_2
                           have HC201_2 := Aside0.mk hl201_2
                           clear hi201_2 hl201_2
                           replace p201 := eq_true p201
                           replace q201 := eq_true q201
                           have ea_ := Option.some.inj (hx197_2.symm.trans hx201_2)
                           injection ea_ with ea_ en_ ec_
                           subst ea_
                           subst ec_
                           clear en_
                           refine start_ (n := 30) (S := fun w' => w'.cell? ⟨gb192, 0, none⟩ = some (.string ((rd_T71 l0_0 x4_1).f0)) ∧ w'.cell? ⟨gb192, 1, none⟩ = some (.int .i64 ((rd_T71 l0_0 x4_1).f1)) ∧ w'.cell? ⟨gb192, 2, none⟩ = some (.int .i64 ((rd_T71 l0_0 x4_1).f2)) ∧ w'.cell? ⟨gb192, 3, none⟩ = some (.int .i64 ((rd_T71 l0_0 x4_1).f3)) ∧ w'.cell? ⟨gb192, 4, none⟩ = some (.string ((rd_T71 l0_0 x4_1).f4)) ∧ w'.cell? ⟨gb192, 5, none⟩ = some (.slice (some ad197) ((rd_T71 l0_0 x4_1).f5).length c191_5) ∧ w'.cell? (ad197.add ((x6_2).toNat * 3)) = some (.int .i64 ((rd_T79 ((rd_T71 l0_0 x4_1).f5) x6_2).f0)) ∧ w'.cell? ⟨(ad197.add ((x6_2).toNat * 3)).block, (ad197.add ((x6_2).toNat * 3)).off + 1, none⟩ = some (.int .i64 ((rd_T79 ((rd_T71 l0_0 x4_1).f5) x6_2).f1)) ∧ w'.cell? ⟨(ad197.add ((x6_2).toNat * 3)).block, (ad197.add ((x6_2).toNat * 3)).off + 2, none⟩ = some (.slice A197_2 ((rd_T79 ((rd_T71 l0_0 x4_1).f5) x6_2).f2).length c197_2) ∧ w'.cell? (ad197.add ((x6_2).toNat * 3)) = some (.int .i64 ((rd_T79 ((rd_T71 l0_0 x4_1).f5) x6_2).f0)) ∧ w'.cell? ⟨(ad197.add ((x6_2).toNat * 3)).block, (ad197.add ((x6_2).toNat * 3)).off + 1, none⟩ = some (.int .i64 ((rd_T79 ((rd_T71 l0_0 x4_1).f5) x6_2).f1)) ∧ w'.cell? ⟨(ad197.add ((x6_2).toNat * 3)).block, (ad197.add ((x6_2).toNat * 3)).off + 2, none⟩ = some (.slice A197_2 ((rd_T79 ((rd_T71 l0_0 x4_1).f5) x6_2).f2).length c197_2) ∧ w'.cell? (ad197.add ((x6_2).toNat * 3)) = some (.int .i64 ((rd_T79 ((rd_T71 l0_0 x4_1).f5) x6_2).f0)) ∧ w'.cell? ⟨(ad197.add ((x6_2).toNat * 3)).block, (ad197.add ((x6_2).toNat * 3)).off + 1, none⟩ = some (.int .i64 ((rd_T79 ((rd_T71 l0_0 x4_1).f5) x6_2).f1)) ∧ w'.cell? ⟨(ad197.add ((x6_2).toNat * 3)).block, (ad197.add ((x6_2).toNat * 3)).off + 2, none⟩ = some (.slice A197_2 ((rd_T79 ((rd_T71 l0_0 x4_1).f5) x6_2).f2).length c197_2)) (ds := []) (zm 30 0) (by kernel_rfl) rfl rfl ⟨zc0 BK192, zc1 BK192, zc2 BK192, zc3 BK192, zc4 BK192, zc5 BK192, (zx HB hw197_0), (zx HB hw197_1), (zx HB hw197_2), (zx HB hw199_0), (zx HB hw199_1), (zx HB hw199_2), (zx HB hw201_0), (zx HB hw201_1), (zx HB hw201_2)⟩ (fun hHeld => ?_); refine with_tabW spec_l9Text.tab10 spec_l9Text.bits10 (fun HT_ HW_ => ?_)
                           generalize wr.drew = w43 at BK190 BK192 HB HR197_2 HR199_2 HR201_2 hx197_0 hx197_1 hx197_2 hx199_0 hx199_1 hx199_2 hx201_0 hx201_1 hx201_2 hHeld ⊢
                           refine zp 0 55 (zm 30 1) ?_
                           refine zp 1 56 (zm 30 3) ?_
                           refine zp 2 57 (zm 30 7) ?_
                           refine zp 4 59 (zm 30 23) ?_
                           refine zp 11 66 (zm 30 2071) ?_
                           refine zp 13 68 (zm 30 10263) ?_
                           refine zp 20 75 (zm 30 1058839) ?_
                           refine zp 22 77 (zm 30 5253143) ?_
                           refine zy 3 58 (zm 30 5253151) hHeld ?_
                           refine zp 5 60 (zm 30 5253183) ?_
                           refine zp 6 61 (zm 30 5253247) ?_
                           refine zy 7 62 (zm 30 5253375) hHeld ?_
                           refine zy 12 67 (zm 30 5257471) hHeld ?_
                           refine zp 14 69 (zm 30 5273855) ?_
                           refine zp 15 70 (zm 30 5306623) ?_
                           refine zy 16 71 (zm 30 5372159) hHeld ?_
                           refine zy 21 76 (zm 30 7469311) hHeld ?_
                           refine zp 23 78 (zm 30 15857919) ?_
                           refine zp 24 79 (zm 30 32635135) ?_
                           refine zy 25 80 (zm 30 66189567) hHeld ?_
                           refine one_ (i := 8) (N := some 63) (zm 30 66189823) rfl rfl (one_of HT_.out (by kernel_rfl)) (by decide) (fun K hK => ?_)
                           refine zi Tryz.func44 #[.int .i64 ((rd_T79 ((rd_T71 l0_0 x4_1).f5) x6_2).f0)] ?_
                           with_reducible refine (spec_l1Dec.calls k2 ((rd_T79 ((rd_T71 l0_0 x4_1).f5) x6_2).f0) t198 _ A32.out).mono ?_
                           rintro e w44 ⟨rfl, hb⟩
                           refine ⟨_, rfl, ?_⟩
                           have n0_ := zk BK190 hb
                           have n1_ := zk BK192 hb
                           have n2_ := zt w hb
                           clear BK190
                           clear BK192
                           clear HB
                           have BK190 := n0_
                           have BK192 := n1_
                           have HB := n2_
                           clear n0_ n1_ n2_
                           (try clear hb)
                           (try clear hb2)
                           (try clear hk)
                           (try clear hi)
                           refine hK.out _ _ ⟨zc0 BK192, zc1 BK192, zc2 BK192, zc3 BK192, zc4 BK192, zc5 BK192, (zx HB hw197_0), (zx HB hw197_1), (zx HB hw197_2), (zx HB hw199_0), (zx HB hw199_1), (zx HB hw199_2), (zx HB hw201_0), (zx HB hw201_1), (zx HB hw201_2)⟩ (fun hHeld => ?_)
                           clear hK K
                           refine zq ?_
                           refine zp 9 64 (zm 30 66190335) ?_
                           refine zp 10 65 (zm 30 66191359) ?_
                           refine one_ (i := 17) (N := some 72) (zm 30 66322431) rfl rfl (one_of HT_.out (by kernel_rfl)) (by decide) (fun K hK => ?_)
                           refine zi Tryz.func44 #[.int .i64 ((rd_T79 ((rd_T71 l0_0 x4_1).f5) x6_2).f1)] ?_
                           with_reducible refine (spec_l1Dec.calls k2 ((rd_T79 ((rd_T71 l0_0 x4_1).f5) x6_2).f1) t200 _ A35.out).mono ?_
                           rintro e w45 ⟨rfl, hb⟩
                           refine ⟨_, rfl, ?_⟩
                           have n0_ := zk BK190 hb
                           have n1_ := zk BK192 hb
                           have n2_ := zt w hb
                           clear BK190
                           clear BK192
                           clear HB
                           have BK190 := n0_
                           have BK192 := n1_
                           have HB := n2_
                           clear n0_ n1_ n2_
                           (try clear hb)
                           (try clear hb2)
                           (try clear hk)
                           (try clear hi)
                           refine hK.out _ _ ⟨zc0 BK192, zc1 BK192, zc2 BK192, zc3 BK192, zc4 BK192, zc5 BK192, (zx HB hw197_0), (zx HB hw197_1), (zx HB hw197_2), (zx HB hw199_0), (zx HB hw199_1), (zx HB hw199_2), (zx HB hw201_0), (zx HB hw201_1), (zx HB hw201_2)⟩ (fun hHeld => ?_)
                           clear hK K
                           refine zq ?_
                           refine zp 18 73 (zm 30 66584575) ?_
                           refine zp 19 74 (zm 30 67108863) ?_
                           refine one_ (i := 26) (N := some 81) (zm 30 134217727) rfl rfl (one_of HT_.out (by kernel_rfl)) (by decide) (fun K hK => ?_)
                           refine zi Tryz.func46 #[.slice A197_2 ((rd_T79 ((rd_T71 l0_0 x4_1).f5) x6_2).f2).length c197_2] ?_
                           with_reducible refine (spec_ExprText.calls k2 _ _ ((rd_T79 ((rd_T71 l0_0 x4_1).f5) x6_2).f2) t202 _ ?side1 ?side2 A38.out).mono ?_
                           (case side1 => repeat (first | exact (Kd.C_below HR201_2.out HB.out) | (with_reducible refine Kd.C_alloc ?_ _) | (with_reducible refine Kd.C_drewN ?_ _) | (with_reducible refine Kd.C_drew ?_)))
                           (case side2 => exact HC201_2.out)
                           rintro e w46 ⟨rfl, hb⟩
                           refine ⟨_, rfl, ?_⟩
                           have n0_ := zk BK190 hb
                           have n1_ := zk BK192 hb
                           have n2_ := zt w hb
                           clear BK190
                           clear BK192
                           clear HB
                           have BK190 := n0_
                           have BK192 := n1_
                           have HB := n2_
                           clear n0_ n1_ n2_
                           (try clear hb)
                           (try clear hb2)
                           (try clear hk)
                           (try clear hi)
                           refine hK.out _ _ ⟨zc0 BK192, zc1 BK192, zc2 BK192, zc3 BK192, zc4 BK192, zc5 BK192, (zx HB hw197_0), (zx HB hw197_1), (zx HB hw197_2), (zx HB hw199_0), (zx HB hw199_1), (zx HB hw199_2), (zx HB hw201_0), (zx HB hw201_1), (zx HB hw201_2)⟩ (fun hHeld => ?_)
                           clear hK K
                           refine zq ?_
                           refine zp 27 82 (zm 30 268435455) ?_
                           refine zp 28 83 (zm 30 536870911) ?_
                           refine zp 29 3 (zm 30 1073741823) ?_
                           refine done_ (done_of HT_.out (by kernel_rfl)) ?_
                           try go_wp2
                           go_roundg k2
                           case measure => have := HK1.out; have := HK2.out; omega
                           case rel => exact ⟨(((((((x3_2 ++ (⟨#[112, 97, 116, 99, 104, 32]⟩ : ByteArray)) ++ t198) ++ (⟨#[32]⟩ : ByteArray)) ++ t200) ++ (⟨#[32]⟩ : ByteArray)) ++ t202) ++ (⟨#[10]⟩ : ByteArray)), (wrap64 (x6_2 + 1)), (zE _), (zE _), H', ⟨by have := HK1.out; have := HK2.out; omega⟩, ⟨zr BK190⟩, ⟨zr BK192⟩, ⟨zb _⟩⟩
                          ·rw [if_neg c40] at H
                           exact absurd H (by simp)
                         ·rw [if_neg c39] at H
                          exact absurd H (by simp)
                        ·rw [if_neg c37] at H
                         exact absurd H (by simp)
                       ·rw [if_neg c36] at H
                        exact absurd H (by simp)
                      ·rw [if_neg c34] at H
                       exact absurd H (by simp)
                     ·rw [if_neg c33] at H
                      exact absurd H (by simp)
                    ·rw [if_neg c31] at H
                     exact absurd H (by simp)
                   ·rw [if_neg c30] at H
                    exact absurd H (by simp)
                  ·rw [if_neg c29] at H
                   have c29b0 : decide (x6_2 < (((rd_T71 l0_0 x4_1).f5).length : Int)) = false := decide_eq_false c29
                   clear c29
                   have H' := Aside0.mk H
                   clear H
                   have hnb47 := NB192_190.out
                   have hnc47 := NB190_192.out
                   obtain ⟨hcz48_0, hcz48_1, hcz48_2, hcz48_3, hcz48_4, hcz48_5, hfz48_0, hfz48_1, hfz48_2, hfz48_3, hfz48_4, hfz48_5⟩ := zF6 BK192
                   go_wp2
                   go_roundg k2
                   case measure => have := HK1.out; have := HK2.out; omega
                   case rel => exact ⟨(x3_2), (wrap64 (x4_1 + 1)), (zE _), (zE _), H', ⟨by have := HK1.out; have := HK2.out; omega⟩, ⟨zr BK190⟩, ⟨zb _⟩⟩
               ·rw [if_neg c19] at H
                exact absurd H (by simp)
              ·rw [if_neg c18] at H
               exact absurd H (by simp)
             ·rw [if_neg c16] at H
              exact absurd H (by simp)
            ·rw [if_neg c15] at H
             exact absurd H (by simp)
           ·rw [if_neg c13] at H
            exact absurd H (by simp)
          ·rw [if_neg c12] at H
           exact absurd H (by simp)
         ·rw [if_neg c10] at H
          exact absurd H (by simp)
        ·rw [if_neg c9] at H
         exact absurd H (by simp)
       ·rw [if_neg c7] at H
        exact absurd H (by simp)
      ·rw [if_neg c6] at H
       exact absurd H (by simp)
     ·rw [if_neg c5] at H
      exact absurd H (by simp)
    ·rw [if_neg c4] at H
     exact absurd H (by simp)
   ·rw [if_neg c3] at H
    have c3b0 : decide (x4_1 < (l0_0.length : Int)) = false := decide_eq_false c3
    clear c3
    have H' := Aside0.mk H
    clear H
    obtain ⟨hcz49_0, hcz49_1, hcz49_2, hfz49_0, hfz49_1, hfz49_2⟩ := zF3 BK190
    go_wp2
    go_loopg [3, 7] k1 (fun kq v3 v7 w' => ∃ (x3_2 : ByteArray) (x7_2 : Int), v3 = .string x3_2 ∧ v7 = .int .i64 x7_2 ∧ Aside0 (spec_l9Text.l2 kq x3_2 x7_2 l0_0 l0_1 l0_2 = some r) ∧ Aside0 (kq ≤ k1) ∧ Aside0 (w'.heap[gb190]? = some (.cells #[(.slice A0_0 l0_0.length c0_0), (.slice A0_1 l0_1.length c0_1), (.slice A0_2 l0_2.length c0_2)] 33 (0, 0))) ∧ Aside0 (Below w.heap.size w w'))
    case atStart => exact ⟨(x3_1), (0), (zE _), (zE _), H', ⟨Nat.le_refl _⟩, ⟨zr BK190⟩, ⟨zb _⟩⟩
    case round =>
     clear H'
     obtain ⟨x3_2, x7_2, rfl, rfl, HA, HK2, BK190, HB⟩ := hrel
     cases gk with
     | zero => exact absurd HA.out (by simp [spec_l9Text.l2])
     | succ k2 =>
      have H := HA.out
      clear HA
      simp only [spec_l9Text.l2] at H
      by_cases c50 : x7_2 < (l0_1.length : Int)
      ·rw [if_pos c50] at H
       have c50b0 : decide (x7_2 < (l0_1.length : Int)) = true := decide_eq_true c50
       clear c50
       by_cases c51 : 0 ≤ x7_2
       ·rw [if_pos c51] at H
        have c51b0 : decide (0 ≤ x7_2) = true := decide_eq_true c51
        clear c51
        by_cases c52 : x3_2.size + 7 ≤ 9223372036854775807
        ·rw [if_pos c52] at H
         have c52b0 := eq_true c52
         have c52b1 : decide (x3_2.size + 7 ≤ 9223372036854775807) = true := decide_eq_true c52
         try have c52b2 : (9223372036854775807 < x3_2.size + 7) = False := eq_false (Nat.not_lt.2 c52)
         try (have c52b3 := c52b2; simp only [ByteArray.size_append] at c52b3; (try simp only [zz1, zz2, zz3, zz4, zz5, zz6] at c52b3))
         by_cases c53 : (x3_2 ++ (⟨#[115, 121, 109, 98, 111, 108, 32]⟩ : ByteArray)).size + ((rd_T72 l0_1 x7_2).f0).size ≤ 9223372036854775807
         ·rw [if_pos c53] at H
          have c53b0 := eq_true c53
          have c53b1 : decide ((x3_2 ++ (⟨#[115, 121, 109, 98, 111, 108, 32]⟩ : ByteArray)).size + ((rd_T72 l0_1 x7_2).f0).size ≤ 9223372036854775807) = true := decide_eq_true c53
          try have c53b2 : (9223372036854775807 < (x3_2 ++ (⟨#[115, 121, 109, 98, 111, 108, 32]⟩ : ByteArray)).size + ((rd_T72 l0_1 x7_2).f0).size) = False := eq_false (Nat.not_lt.2 c53)
          try (have c53b3 := c53b2; simp only [ByteArray.size_append] at c53b3; (try simp only [zz1, zz2, zz3, zz4, zz5, zz6] at c53b3))
          by_cases c54 : ((x3_2 ++ (⟨#[115, 121, 109, 98, 111, 108, 32]⟩ : ByteArray)) ++ ((rd_T72 l0_1 x7_2).f0)).size + 1 ≤ 9223372036854775807
          ·rw [if_pos c54] at H
           have c54b0 := eq_true c54
           have c54b1 : decide (((x3_2 ++ (⟨#[115, 121, 109, 98, 111, 108, 32]⟩ : ByteArray)) ++ ((rd_T72 l0_1 x7_2).f0)).size + 1 ≤ 9223372036854775807) = true := decide_eq_true c54
           try have c54b2 : (9223372036854775807 < ((x3_2 ++ (⟨#[115, 121, 109, 98, 111, 108, 32]⟩ : ByteArray)) ++ ((rd_T72 l0_1 x7_2).f0)).size + 1) = False := eq_false (Nat.not_lt.2 c54)
           try (have c54b3 := c54b2; simp only [ByteArray.size_append] at c54b3; (try simp only [zz1, zz2, zz3, zz4, zz5, zz6] at c54b3))
           obtain ⟨t205, A550, H⟩ := Option.bind_eq_some_iff.mp H
           have A55 := Aside0.mk A550
           clear A550
           by_cases c56 : (((x3_2 ++ (⟨#[115, 121, 109, 98, 111, 108, 32]⟩ : ByteArray)) ++ ((rd_T72 l0_1 x7_2).f0)) ++ (⟨#[32]⟩ : ByteArray)).size + t205.size ≤ 9223372036854775807
           ·rw [if_pos c56] at H
            have c56b0 := eq_true c56
            have c56b1 : decide ((((x3_2 ++ (⟨#[115, 121, 109, 98, 111, 108, 32]⟩ : ByteArray)) ++ ((rd_T72 l0_1 x7_2).f0)) ++ (⟨#[32]⟩ : ByteArray)).size + t205.size ≤ 9223372036854775807) = true := decide_eq_true c56
            try have c56b2 : (9223372036854775807 < (((x3_2 ++ (⟨#[115, 121, 109, 98, 111, 108, 32]⟩ : ByteArray)) ++ ((rd_T72 l0_1 x7_2).f0)) ++ (⟨#[32]⟩ : ByteArray)).size + t205.size) = False := eq_false (Nat.not_lt.2 c56)
            try (have c56b3 := c56b2; simp only [ByteArray.size_append] at c56b3; (try simp only [zz1, zz2, zz3, zz4, zz5, zz6] at c56b3))
            by_cases c57 : ((((x3_2 ++ (⟨#[115, 121, 109, 98, 111, 108, 32]⟩ : ByteArray)) ++ ((rd_T72 l0_1 x7_2).f0)) ++ (⟨#[32]⟩ : ByteArray)) ++ t205).size + 1 ≤ 9223372036854775807
            ·rw [if_pos c57] at H
             have c57b0 := eq_true c57
             have c57b1 : decide (((((x3_2 ++ (⟨#[115, 121, 109, 98, 111, 108, 32]⟩ : ByteArray)) ++ ((rd_T72 l0_1 x7_2).f0)) ++ (⟨#[32]⟩ : ByteArray)) ++ t205).size + 1 ≤ 9223372036854775807) = true := decide_eq_true c57
             try have c57b2 : (9223372036854775807 < ((((x3_2 ++ (⟨#[115, 121, 109, 98, 111, 108, 32]⟩ : ByteArray)) ++ ((rd_T72 l0_1 x7_2).f0)) ++ (⟨#[32]⟩ : ByteArray)) ++ t205).size + 1) = False := eq_false (Nat.not_lt.2 c57)
             try (have c57b3 := c57b2; simp only [ByteArray.size_append] at c57b3; (try simp only [zz1, zz2, zz3, zz4, zz5, zz6] at c57b3))
             obtain ⟨t206, A580, H⟩ := Option.bind_eq_some_iff.mp H
             have A58 := Aside0.mk A580
             clear A580
             by_cases c59 : (((((x3_2 ++ (⟨#[115, 121, 109, 98, 111, 108, 32]⟩ : ByteArray)) ++ ((rd_T72 l0_1 x7_2).f0)) ++ (⟨#[32]⟩ : ByteArray)) ++ t205) ++ (⟨#[32]⟩ : ByteArray)).size + t206.size ≤ 9223372036854775807
             ·rw [if_pos c59] at H
              have c59b0 := eq_true c59
              have c59b1 : decide ((((((x3_2 ++ (⟨#[115, 121, 109, 98, 111, 108, 32]⟩ : ByteArray)) ++ ((rd_T72 l0_1 x7_2).f0)) ++ (⟨#[32]⟩ : ByteArray)) ++ t205) ++ (⟨#[32]⟩ : ByteArray)).size + t206.size ≤ 9223372036854775807) = true := decide_eq_true c59
              try have c59b2 : (9223372036854775807 < (((((x3_2 ++ (⟨#[115, 121, 109, 98, 111, 108, 32]⟩ : ByteArray)) ++ ((rd_T72 l0_1 x7_2).f0)) ++ (⟨#[32]⟩ : ByteArray)) ++ t205) ++ (⟨#[32]⟩ : ByteArray)).size + t206.size) = False := eq_false (Nat.not_lt.2 c59)
              try (have c59b3 := c59b2; simp only [ByteArray.size_append] at c59b3; (try simp only [zz1, zz2, zz3, zz4, zz5, zz6] at c59b3))
              by_cases c60 : ((((((x3_2 ++ (⟨#[115, 121, 109, 98, 111, 108, 32]⟩ : ByteArray)) ++ ((rd_T72 l0_1 x7_2).f0)) ++ (⟨#[32]⟩ : ByteArray)) ++ t205) ++ (⟨#[32]⟩ : ByteArray)) ++ t206).size + 1 ≤ 9223372036854775807
              ·rw [if_pos c60] at H
               have c60b0 := eq_true c60
               have c60b1 : decide (((((((x3_2 ++ (⟨#[115, 121, 109, 98, 111, 108, 32]⟩ : ByteArray)) ++ ((rd_T72 l0_1 x7_2).f0)) ++ (⟨#[32]⟩ : ByteArray)) ++ t205) ++ (⟨#[32]⟩ : ByteArray)) ++ t206).size + 1 ≤ 9223372036854775807) = true := decide_eq_true c60
               try have c60b2 : (9223372036854775807 < ((((((x3_2 ++ (⟨#[115, 121, 109, 98, 111, 108, 32]⟩ : ByteArray)) ++ ((rd_T72 l0_1 x7_2).f0)) ++ (⟨#[32]⟩ : ByteArray)) ++ t205) ++ (⟨#[32]⟩ : ByteArray)) ++ t206).size + 1) = False := eq_false (Nat.not_lt.2 c60)
               try (have c60b3 := c60b2; simp only [ByteArray.size_append] at c60b3; (try simp only [zz1, zz2, zz3, zz4, zz5, zz6] at c60b3))
               obtain ⟨t207, A610, H⟩ := Option.bind_eq_some_iff.mp H
               have A61 := Aside0.mk A610
               clear A610
               obtain ⟨t208, A620, H⟩ := Option.bind_eq_some_iff.mp H
               have A62 := Aside0.mk A620
               clear A620
               by_cases c63 : (((((((x3_2 ++ (⟨#[115, 121, 109, 98, 111, 108, 32]⟩ : ByteArray)) ++ ((rd_T72 l0_1 x7_2).f0)) ++ (⟨#[32]⟩ : ByteArray)) ++ t205) ++ (⟨#[32]⟩ : ByteArray)) ++ t206) ++ (⟨#[32]⟩ : ByteArray)).size + t208.size ≤ 9223372036854775807
               ·rw [if_pos c63] at H
                have c63b0 := eq_true c63
                have c63b1 : decide ((((((((x3_2 ++ (⟨#[115, 121, 109, 98, 111, 108, 32]⟩ : ByteArray)) ++ ((rd_T72 l0_1 x7_2).f0)) ++ (⟨#[32]⟩ : ByteArray)) ++ t205) ++ (⟨#[32]⟩ : ByteArray)) ++ t206) ++ (⟨#[32]⟩ : ByteArray)).size + t208.size ≤ 9223372036854775807) = true := decide_eq_true c63
                try have c63b2 : (9223372036854775807 < (((((((x3_2 ++ (⟨#[115, 121, 109, 98, 111, 108, 32]⟩ : ByteArray)) ++ ((rd_T72 l0_1 x7_2).f0)) ++ (⟨#[32]⟩ : ByteArray)) ++ t205) ++ (⟨#[32]⟩ : ByteArray)) ++ t206) ++ (⟨#[32]⟩ : ByteArray)).size + t208.size) = False := eq_false (Nat.not_lt.2 c63)
                try (have c63b3 := c63b2; simp only [ByteArray.size_append] at c63b3; (try simp only [zz1, zz2, zz3, zz4, zz5, zz6] at c63b3))
                by_cases c64 : ((((((((x3_2 ++ (⟨#[115, 121, 109, 98, 111, 108, 32]⟩ : ByteArray)) ++ ((rd_T72 l0_1 x7_2).f0)) ++ (⟨#[32]⟩ : ByteArray)) ++ t205) ++ (⟨#[32]⟩ : ByteArray)) ++ t206) ++ (⟨#[32]⟩ : ByteArray)) ++ t208).size + 1 ≤ 9223372036854775807
                ·rw [if_pos c64] at H
                 have c64b0 := eq_true c64
                 have c64b1 : decide (((((((((x3_2 ++ (⟨#[115, 121, 109, 98, 111, 108, 32]⟩ : ByteArray)) ++ ((rd_T72 l0_1 x7_2).f0)) ++ (⟨#[32]⟩ : ByteArray)) ++ t205) ++ (⟨#[32]⟩ : ByteArray)) ++ t206) ++ (⟨#[32]⟩ : ByteArray)) ++ t208).size + 1 ≤ 9223372036854775807) = true := decide_eq_true c64
                 try have c64b2 : (9223372036854775807 < ((((((((x3_2 ++ (⟨#[115, 121, 109, 98, 111, 108, 32]⟩ : ByteArray)) ++ ((rd_T72 l0_1 x7_2).f0)) ++ (⟨#[32]⟩ : ByteArray)) ++ t205) ++ (⟨#[32]⟩ : ByteArray)) ++ t206) ++ (⟨#[32]⟩ : ByteArray)) ++ t208).size + 1) = False := eq_false (Nat.not_lt.2 c64)
                 try (have c64b3 := c64b2; simp only [ByteArray.size_append] at c64b3; (try simp only [zz1, zz2, zz3, zz4, zz5, zz6] at c64b3))
                 have H' := Aside0.mk H
                 clear H
                 obtain ⟨hcz65_0, hcz65_1, hcz65_2, hfz65_0, hfz65_1, hfz65_2⟩ := zF3 BK190
                 have p203 : 0 ≤ (x7_2 : Int) := of_decide_eq_true (za _)
                 have q203 : x7_2 < (l0_1.length : Int) := of_decide_eq_true (za _)
                 obtain ⟨ad203, e203, hx203_0, hx203_1, hx203_2, hx203_3⟩ := at_T72 HR0_1.out x7_2 p203 q203
                 cases e203
                 replace hx203_0 := zx HB hx203_0
                 replace hx203_1 := zx HB hx203_1
                 replace hx203_2 := zx HB hx203_2
                 replace hx203_3 := zx HB hx203_3
                 replace p203 := eq_true p203
                 replace q203 := eq_true q203
                 try go_wp2_with (first | ((with_reducible refine gate_dst (N := 8) rfl ?_); refine zbx 8 #[.string (⟨#[]⟩ : ByteArray), .int .i64 0, .int .i64 0, .bool false] 72 ?_; intro gb204 hg w66 hbox hb; have BK204 := Aside0.mk (hbox); have GW204 := zs w hg; have GE204 := GW204; have NB190_204 := zlt BK190 hg; have NB204_190 := zgt (zlt BK190 hg); replace BK190 := zk BK190 hb; replace HB := zt w hb; clear hb hbox hg; have hnb67 := NB204_190.out; have hnc67 := NB190_204.out; have hcz68_0 := zc0 BK204; have hcz68_1 := zc1 BK204; have hcz68_2 := zc2 BK204; have hcz68_3 := zc3 BK204; have hfz68_0 := blk_frozen BK204.out 0; have hfz68_1 := blk_frozen BK204.out 1; have hfz68_2 := blk_frozen BK204.out 2; have hfz68_3 := blk_frozen BK204.out 3))
                 have n0_ : Aside0 (((((w66.setCell ⟨gb204, 0, none⟩ (.string ((rd_T72 l0_1 x7_2).f0))).setCell ⟨gb204, 1, none⟩ (.int .i64 ((rd_T72 l0_1 x7_2).f1))).setCell ⟨gb204, 2, none⟩ (.int .i64 ((rd_T72 l0_1 x7_2).f2))).setCell ⟨gb204, 3, none⟩ (.bool ((rd_T72 l0_1 x7_2).f3))).heap[gb190]? = some (.cells #[.slice A0_0 l0_0.length c0_0, .slice (some ad203) l0_1.length c0_1, .slice A0_2 l0_2.length c0_2] 33 (0, 0))) := ⟨zw _⟩
                 have n1_ : Aside0 (((((w66.setCell ⟨gb204, 0, none⟩ (.string ((rd_T72 l0_1 x7_2).f0))).setCell ⟨gb204, 1, none⟩ (.int .i64 ((rd_T72 l0_1 x7_2).f1))).setCell ⟨gb204, 2, none⟩ (.int .i64 ((rd_T72 l0_1 x7_2).f2))).setCell ⟨gb204, 3, none⟩ (.bool ((rd_T72 l0_1 x7_2).f3))).heap[gb204]? = some (.cells #[.string ((rd_T72 l0_1 x7_2).f0), .int .i64 ((rd_T72 l0_1 x7_2).f1), .int .i64 ((rd_T72 l0_1 x7_2).f2), .bool ((rd_T72 l0_1 x7_2).f3)] 72 (0, 0))) := ⟨by (with_reducible repeat (first | refine blk_drewN ?_ _ | refine blk_drew ?_ | refine blk_alloc ?_ _)); refine blk_put (cs := #[.string ((rd_T72 l0_1 x7_2).f0), .int .i64 ((rd_T72 l0_1 x7_2).f1), .int .i64 ((rd_T72 l0_1 x7_2).f2), .bool false]) ?_ 3 _ rfl; (with_reducible repeat (first | refine blk_drewN ?_ _ | refine blk_drew ?_ | refine blk_alloc ?_ _)); refine blk_put (cs := #[.string ((rd_T72 l0_1 x7_2).f0), .int .i64 ((rd_T72 l0_1 x7_2).f1), .int .i64 0, .bool false]) ?_ 2 _ rfl; (with_reducible repeat (first | refine blk_drewN ?_ _ | refine blk_drew ?_ | refine blk_alloc ?_ _)); refine blk_put (cs := #[.string ((rd_T72 l0_1 x7_2).f0), .int .i64 0, .int .i64 0, .bool false]) ?_ 1 _ rfl; (with_reducible repeat (first | refine blk_drewN ?_ _ | refine blk_drew ?_ | refine blk_alloc ?_ _)); refine blk_put (cs := #[.string (⟨#[]⟩ : ByteArray), .int .i64 0, .int .i64 0, .bool false]) ?_ 0 _ rfl; (with_reducible repeat (first | refine blk_drewN ?_ _ | refine blk_drew ?_ | refine blk_alloc ?_ _)); exact BK204.out⟩
                 have n2_ : Aside0 (Below w.heap.size w ((((w66.setCell ⟨gb204, 0, none⟩ (.string ((rd_T72 l0_1 x7_2).f0))).setCell ⟨gb204, 1, none⟩ (.int .i64 ((rd_T72 l0_1 x7_2).f1))).setCell ⟨gb204, 2, none⟩ (.int .i64 ((rd_T72 l0_1 x7_2).f2))).setCell ⟨gb204, 3, none⟩ (.bool ((rd_T72 l0_1 x7_2).f3)))) := ⟨zb _⟩
                 (try clear BK190)
                 (try clear BK204)
                 (try clear HB)
                 generalize ((((w66.setCell ⟨gb204, 0, none⟩ (.string ((rd_T72 l0_1 x7_2).f0))).setCell ⟨gb204, 1, none⟩ (.int .i64 ((rd_T72 l0_1 x7_2).f1))).setCell ⟨gb204, 2, none⟩ (.int .i64 ((rd_T72 l0_1 x7_2).f2))).setCell ⟨gb204, 3, none⟩ (.bool ((rd_T72 l0_1 x7_2).f3))) = w69 at n0_ n1_ n2_ ⊢
                 have BK190 := n0_
                 have BK204 := n1_
                 have HB := n2_
                 clear n0_ n1_ n2_
                 have n0_ := Aside0.mk (blk_drew BK190.out)
                 have n1_ := Aside0.mk (blk_drew BK204.out)
                 have n2_ := Aside0.mk (below_drew1 HB.out)
                 clear BK190
                 clear BK204
                 clear HB
                 have BK190 := n0_
                 have BK204 := n1_
                 have HB := n2_
                 clear n0_ n1_ n2_
                 refine start_ (n := 23) (S := fun w' => w'.cell? ⟨gb204, 0, none⟩ = some (.string ((rd_T72 l0_1 x7_2).f0)) ∧ w'.cell? ⟨gb204, 1, none⟩ = some (.int .i64 ((rd_T72 l0_1 x7_2).f1)) ∧ w'.cell? ⟨gb204, 2, none⟩ = some (.int .i64 ((rd_T72 l0_1 x7_2).f2)) ∧ w'.cell? ⟨gb204, 3, none⟩ = some (.bool ((rd_T72 l0_1 x7_2).f3))) (ds := []) (zm 23 0) (by kernel_rfl) rfl rfl ⟨zc0 BK204, zc1 BK204, zc2 BK204, zc3 BK204⟩ (fun hHeld => ?_); refine with_tabW spec_l9Text.tab15 spec_l9Text.bits15 (fun HT_ HW_ => ?_)
                 generalize w69.drew = w70 at BK190 BK204 HB hHeld ⊢
                 refine zp 0 96 (zm 23 1) ?_
                 refine zp 1 97 (zm 23 3) ?_
                 refine zp 2 98 (zm 23 7) ?_
                 refine zp 6 102 (zm 23 71) ?_
                 refine zp 11 107 (zm 23 2119) ?_
                 refine zp 16 112 (zm 23 67655) ?_
                 refine zy 3 99 (zm 23 67663) hHeld ?_
                 refine zp 4 100 (zm 23 67679) ?_
                 refine zp 5 101 (zm 23 67711) ?_
                 refine zy 7 103 (zm 23 67839) hHeld ?_
                 refine zy 12 108 (zm 23 71935) hHeld ?_
                 refine zy 17 113 (zm 23 203007) hHeld ?_
                 refine one_ (i := 8) (N := some 104) (zm 23 203263) rfl rfl (one_of HT_.out (by kernel_rfl)) (by decide) (fun K hK => ?_)
                 refine zi Tryz.func44 #[.int .i64 ((rd_T72 l0_1 x7_2).f1)] ?_
                 with_reducible refine (spec_l1Dec.calls k2 ((rd_T72 l0_1 x7_2).f1) t205 _ A55.out).mono ?_
                 rintro e w71 ⟨rfl, hb⟩
                 refine ⟨_, rfl, ?_⟩
                 have n0_ := zk BK190 hb
                 have n1_ := zk BK204 hb
                 have n2_ := zt w hb
                 clear BK190
                 clear BK204
                 clear HB
                 have BK190 := n0_
                 have BK204 := n1_
                 have HB := n2_
                 clear n0_ n1_ n2_
                 (try clear hb)
                 (try clear hb2)
                 (try clear hk)
                 (try clear hi)
                 refine hK.out _ _ ⟨zc0 BK204, zc1 BK204, zc2 BK204, zc3 BK204⟩ (fun hHeld => ?_)
                 clear hK K
                 refine zq ?_
                 refine zp 9 105 (zm 23 203775) ?_
                 refine zp 10 106 (zm 23 204799) ?_
                 refine one_ (i := 13) (N := some 109) (zm 23 212991) rfl rfl (one_of HT_.out (by kernel_rfl)) (by decide) (fun K hK => ?_)
                 refine zi Tryz.func44 #[.int .i64 ((rd_T72 l0_1 x7_2).f2)] ?_
                 with_reducible refine (spec_l1Dec.calls k2 ((rd_T72 l0_1 x7_2).f2) t206 _ A58.out).mono ?_
                 rintro e w72 ⟨rfl, hb⟩
                 refine ⟨_, rfl, ?_⟩
                 have n0_ := zk BK190 hb
                 have n1_ := zk BK204 hb
                 have n2_ := zt w hb
                 clear BK190
                 clear BK204
                 clear HB
                 have BK190 := n0_
                 have BK204 := n1_
                 have HB := n2_
                 clear n0_ n1_ n2_
                 (try clear hb)
                 (try clear hb2)
                 (try clear hk)
                 (try clear hi)
                 refine hK.out _ _ ⟨zc0 BK204, zc1 BK204, zc2 BK204, zc3 BK204⟩ (fun hHeld => ?_)
                 clear hK K
                 refine zq ?_
                 refine zp 14 110 (zm 23 229375) ?_
                 refine zp 15 111 (zm 23 262143) ?_
                 refine one_ (i := 18) (N := some 114) (zm 23 524287) rfl rfl (one_of HT_.out (by kernel_rfl)) (by decide) (fun K hK => ?_)
                 refine zi Tryz.func47 #[.bool ((rd_T72 l0_1 x7_2).f3)] ?_
                 with_reducible refine (spec_l3One.calls ((rd_T72 l0_1 x7_2).f3) t207 _ A61.out).mono ?_
                 rintro e w' ⟨rfl, ⟨nd, rfl⟩⟩
                 refine ⟨_, rfl, ?_⟩
                 refine hK.out _ _ ⟨zc0 BK204, zc1 BK204, zc2 BK204, zc3 BK204⟩ (fun hHeld => ?_)
                 clear hK K
                 refine zq ?_
                 refine one_ (i := 19) (N := some 115) (zm 23 1048575) rfl rfl (one_of HT_.out (by kernel_rfl)) (by decide) (fun K hK => ?_)
                 refine zi Tryz.func44 #[.int .i64 t207] ?_
                 with_reducible refine (spec_l1Dec.calls k2 t207 t208 _ A62.out).mono ?_
                 rintro e w73 ⟨rfl, hb⟩
                 refine ⟨_, rfl, ?_⟩
                 have n0_ := zk BK190 hb
                 have n1_ := zk BK204 hb
                 have n2_ := zt w hb
                 clear BK190
                 clear BK204
                 clear HB
                 have BK190 := n0_
                 have BK204 := n1_
                 have HB := n2_
                 clear n0_ n1_ n2_
                 (try clear hb)
                 (try clear hb2)
                 (try clear hk)
                 (try clear hi)
                 refine hK.out _ _ ⟨zc0 BK204, zc1 BK204, zc2 BK204, zc3 BK204⟩ (fun hHeld => ?_)
                 clear hK K
                 refine zq ?_
                 refine zp 20 116 (zm 23 2097151) ?_
                 refine zp 21 117 (zm 23 4194303) ?_
                 refine zp 22 3 (zm 23 8388607) ?_
                 refine done_ (done_of HT_.out (by kernel_rfl)) ?_
                 try go_wp2
                 go_roundg k2
                 case measure => have := HK1.out; have := HK2.out; omega
                 case rel => exact ⟨(((((((((x3_2 ++ (⟨#[115, 121, 109, 98, 111, 108, 32]⟩ : ByteArray)) ++ ((rd_T72 l0_1 x7_2).f0)) ++ (⟨#[32]⟩ : ByteArray)) ++ t205) ++ (⟨#[32]⟩ : ByteArray)) ++ t206) ++ (⟨#[32]⟩ : ByteArray)) ++ t208) ++ (⟨#[10]⟩ : ByteArray)), (wrap64 (x7_2 + 1)), (zE _), (zE _), H', ⟨by have := HK1.out; have := HK2.out; omega⟩, ⟨zr BK190⟩, ⟨zb _⟩⟩
                ·rw [if_neg c64] at H
                 exact absurd H (by simp)
               ·rw [if_neg c63] at H
                exact absurd H (by simp)
              ·rw [if_neg c60] at H
               exact absurd H (by simp)
             ·rw [if_neg c59] at H
              exact absurd H (by simp)
            ·rw [if_neg c57] at H
             exact absurd H (by simp)
           ·rw [if_neg c56] at H
            exact absurd H (by simp)
          ·rw [if_neg c54] at H
           exact absurd H (by simp)
         ·rw [if_neg c53] at H
          exact absurd H (by simp)
        ·rw [if_neg c52] at H
         exact absurd H (by simp)
       ·rw [if_neg c51] at H
        exact absurd H (by simp)
      ·rw [if_neg c50] at H
       have c50b0 : decide (x7_2 < (l0_1.length : Int)) = false := decide_eq_false c50
       clear c50
       have H' := Aside0.mk H
       clear H
       obtain ⟨hcz74_0, hcz74_1, hcz74_2, hfz74_0, hfz74_1, hfz74_2⟩ := zF3 BK190
       go_wp2
       go_loopg [3, 9] k2 (fun kq v3 v9 w' => ∃ (x3_3 : ByteArray) (x9_3 : Int), v3 = .string x3_3 ∧ v9 = .int .i64 x9_3 ∧ Aside0 (spec_l9Text.l3 kq x3_3 x9_3 l0_0 l0_1 l0_2 = some r) ∧ Aside0 (kq ≤ k2) ∧ Aside0 (w'.heap[gb190]? = some (.cells #[(.slice A0_0 l0_0.length c0_0), (.slice A0_1 l0_1.length c0_1), (.slice A0_2 l0_2.length c0_2)] 33 (0, 0))) ∧ Aside0 (Below w.heap.size w w'))
       case atStart => exact ⟨(x3_2), (0), (zE _), (zE _), H', ⟨Nat.le_refl _⟩, ⟨zr BK190⟩, ⟨zb _⟩⟩
       case round =>
        clear H'
        obtain ⟨x3_3, x9_3, rfl, rfl, HA, HK3, BK190, HB⟩ := hrel
        cases gk with
        | zero => exact absurd HA.out (by simp [spec_l9Text.l3])
        | succ k3 =>
         have H := HA.out
         clear HA
         simp only [spec_l9Text.l3] at H
         by_cases c75 : x9_3 < (l0_2.length : Int)
         ·rw [if_pos c75] at H
          have c75b0 : decide (x9_3 < (l0_2.length : Int)) = true := decide_eq_true c75
          clear c75
          by_cases c76 : x3_3.size + 7 ≤ 9223372036854775807
          ·rw [if_pos c76] at H
           have c76b0 := eq_true c76
           have c76b1 : decide (x3_3.size + 7 ≤ 9223372036854775807) = true := decide_eq_true c76
           try have c76b2 : (9223372036854775807 < x3_3.size + 7) = False := eq_false (Nat.not_lt.2 c76)
           try (have c76b3 := c76b2; simp only [ByteArray.size_append] at c76b3; (try simp only [zz1, zz2, zz3, zz4, zz5, zz6] at c76b3))
           by_cases c77 : 0 ≤ x9_3
           ·rw [if_pos c77] at H
            have c77b0 : decide (0 ≤ x9_3) = true := decide_eq_true c77
            clear c77
            obtain ⟨t210, A780, H⟩ := Option.bind_eq_some_iff.mp H
            have A78 := Aside0.mk A780
            clear A780
            by_cases c79 : (x3_3 ++ (⟨#[97, 115, 115, 101, 114, 116, 32]⟩ : ByteArray)).size + t210.size ≤ 9223372036854775807
            ·rw [if_pos c79] at H
             have c79b0 := eq_true c79
             have c79b1 : decide ((x3_3 ++ (⟨#[97, 115, 115, 101, 114, 116, 32]⟩ : ByteArray)).size + t210.size ≤ 9223372036854775807) = true := decide_eq_true c79
             try have c79b2 : (9223372036854775807 < (x3_3 ++ (⟨#[97, 115, 115, 101, 114, 116, 32]⟩ : ByteArray)).size + t210.size) = False := eq_false (Nat.not_lt.2 c79)
             try (have c79b3 := c79b2; simp only [ByteArray.size_append] at c79b3; (try simp only [zz1, zz2, zz3, zz4, zz5, zz6] at c79b3))
             by_cases c80 : ((x3_3 ++ (⟨#[97, 115, 115, 101, 114, 116, 32]⟩ : ByteArray)) ++ t210).size + 1 ≤ 9223372036854775807
             ·rw [if_pos c80] at H
              have c80b0 := eq_true c80
              have c80b1 : decide (((x3_3 ++ (⟨#[97, 115, 115, 101, 114, 116, 32]⟩ : ByteArray)) ++ t210).size + 1 ≤ 9223372036854775807) = true := decide_eq_true c80
              try have c80b2 : (9223372036854775807 < ((x3_3 ++ (⟨#[97, 115, 115, 101, 114, 116, 32]⟩ : ByteArray)) ++ t210).size + 1) = False := eq_false (Nat.not_lt.2 c80)
              try (have c80b3 := c80b2; simp only [ByteArray.size_append] at c80b3; (try simp only [zz1, zz2, zz3, zz4, zz5, zz6] at c80b3))
              have H' := Aside0.mk H
              clear H
              obtain ⟨hcz81_0, hcz81_1, hcz81_2, hfz81_0, hfz81_1, hfz81_2⟩ := zF3 BK190
              have p209 : 0 ≤ (x9_3 : Int) := of_decide_eq_true (za _)
              have q209 : x9_3 < (l0_2.length : Int) := of_decide_eq_true (za _)
              obtain ⟨ad209, A209_0, c209_0, e209, hx209_0, hl209_0, hi209_0⟩ := at_L10 HR0_2.out x9_3 p209 q209
              cases e209
              replace hx209_0 := zx HB hx209_0
              have HR209_0 := Aside0.mk hi209_0
              have HC209_0 := Aside0.mk hl209_0
              clear hi209_0 hl209_0
              replace p209 := eq_true p209
              replace q209 := eq_true q209
              go_wp2_with (first | ((with_reducible refine gate_callee (f := 46) rfl ?_); refine zc (some 132) Tryz.func46 #[.slice A209_0 (rd_L10 l0_2 x9_3).length c209_0] ?_; (with_reducible refine (spec_ExprText.calls k3 _ _ (rd_L10 l0_2 x9_3) t210 _ ?side1 ?side2 A78.out).mono ?_); (case side1 => repeat (first | exact (Kd.C_below HR209_0.out HB.out) | (with_reducible refine Kd.C_alloc ?_ _) | (with_reducible refine Kd.C_drewN ?_ _) | (with_reducible refine Kd.C_drew ?_))); (case side2 => exact HC209_0.out); rintro e w82 ⟨rfl, hb⟩; refine ⟨_, rfl, ?_⟩; replace BK190 := zk BK190 hb; replace HB := zt w hb; (try clear hb); (try clear hb2); (try clear hk); (try clear hi)))
              go_roundg k3
              case measure => have := HK1.out; have := HK2.out; have := HK3.out; omega
              case rel => exact ⟨(((x3_3 ++ (⟨#[97, 115, 115, 101, 114, 116, 32]⟩ : ByteArray)) ++ t210) ++ (⟨#[10]⟩ : ByteArray)), (wrap64 (x9_3 + 1)), (zE _), (zE _), H', ⟨by have := HK1.out; have := HK2.out; have := HK3.out; omega⟩, ⟨zr BK190⟩, ⟨zb _⟩⟩
             ·rw [if_neg c80] at H
              exact absurd H (by simp)
            ·rw [if_neg c79] at H
             exact absurd H (by simp)
           ·rw [if_neg c77] at H
            exact absurd H (by simp)
          ·rw [if_neg c76] at H
           exact absurd H (by simp)
         ·rw [if_neg c75] at H
          have c75b0 : decide (x9_3 < (l0_2.length : Int)) = false := decide_eq_false c75
          clear c75
          obtain rfl := Option.some.inj H
          obtain ⟨hcz83_0, hcz83_1, hcz83_2, hfz83_0, hfz83_1, hfz83_2⟩ := zF3 BK190
          go_wp2
          go_ret
          exact ⟨ze _, zb _⟩

end Go.Proofs.YtlacpadpdfccmaaGreatDoor.PFnExactObjectText
namespace Go.Proofs.YtlacpadpdfccmaaGreatDoor.PFnExactObjectText
open Go.RowKit Go.Proofs.YtlacpadpdfccmaaGreatDoor.Z Go.Proofs.YtlacpadpdfccmaaGreatDoorW.PrintWords Go.Proofs.YtlacpadpdfccmaaGreatDoorW.PrintLast Go.Proofs.YtlacpadpdfccmaaGreatDoorW.PrintMore
attribute [local go_sem] max2_int min2_int max_two min_two max_three min_three max_four min_four   -- for this text's walks alone
set_option linter.unusedVariables false
set_option linter.unusedSimpArgs false

def spec_ObjectText.f (k : Nat) (l0_0 : List (S71)) (l0_1 : List (S72)) (l0_2 : List (List (S124))) : Option (ByteArray) := (spec_ObjectOk.f k l0_0 l0_1 l0_2).bind fun t212 => (if t212 = true then ((spec_l9Text.f k l0_0 l0_1 l0_2).bind fun t213 => (some t213)) else (some (⟨#[]⟩ : ByteArray)))
theorem spec_ObjectText.mono : ∀ a0 a1 a2 k, LeO (spec_ObjectText.f k a0 a1 a2) (spec_ObjectText.f (k + 1) a0 a1 a2) := by
  intro a0 a1 a2 k
  unfold spec_ObjectText.f
  repeat' with_reducible first | exact spec_ObjectOk.mono _ _ _ _ | exact spec_l9Text.mono _ _ _ _ | exact LeO.refl _ | exact LeO.none _ | refine LeO.ite ?_ ?_ | refine LeO.bind ?_ (fun _ => ?_)
set_option maxHeartbeats 8000000 in
set_option maxRecDepth 100000 in
theorem spec_ObjectText.calls (k : Nat) (A0_0 : Option Addr) (c0_0 : Nat) (l0_0 : List (S71)) (A0_1 : Option Addr) (c0_1 : Nat) (l0_1 : List (S72)) (A0_2 : Option Addr) (c0_2 : Nat) (l0_2 : List (List (S124))) (r : ByteArray) (w : World) (hr0_0 : Kd.C k71 w A0_0 l0_0.length l0_0) (hc0_0 : l0_0.length ≤ c0_0) (hr0_1 : Kd.C k72 w A0_1 l0_1.length l0_1) (hc0_1 : l0_1.length ≤ c0_1) (hr0_2 : Kd.C (Kd.slice 124 k124) w A0_2 l0_2.length l0_2) (hc0_2 : l0_2.length ≤ c0_2) (h : spec_ObjectText.f k l0_0 l0_1 l0_2 = some r) :
 Calls Tryz.prog 6 #[.agg #[.slice A0_0 l0_0.length c0_0, .slice A0_1 l0_1.length c0_1, .slice A0_2 l0_2.length c0_2]] w fun e w' => e = .returned (.string r) ∧ Below w.heap.size w w' := by
 have hu33 := Tryz.underlying33
 have HR0_0 := Aside0.mk hr0_0
 have HC0_0 := Aside0.mk hc0_0
 clear hr0_0 hc0_0
 have HR0_1 := Aside0.mk hr0_1
 have HC0_1 := Aside0.mk hc0_1
 clear hr0_1 hc0_1
 have HR0_2 := Aside0.mk hr0_2
 have HC0_2 := Aside0.mk hc0_2
 clear hr0_2 hc0_2
 have HB := Aside0.mk (Below.refl w.heap.size w)
 have H : ((spec_ObjectOk.f k l0_0 l0_1 l0_2).bind fun t212 => (if t212 = true then ((spec_l9Text.f k l0_0 l0_1 l0_2).bind fun t213 => (some t213)) else (some (⟨#[]⟩ : ByteArray)))) = some r := h
 clear h
 obtain ⟨t212, A20, H⟩ := Option.bind_eq_some_iff.mp H
 have A2 := Aside0.mk A20
 clear A20
 by_cases c3 : t212 = true
 ·subst c3
  rw [if_pos rfl] at H
  obtain ⟨t213, A40, H⟩ := Option.bind_eq_some_iff.mp H
  have A4 := Aside0.mk A40
  clear A40
  obtain rfl := Option.some.inj H
  go_enter Tryz.func6, Tryz.ntmps6
  go_wp2_with (first | ((with_reducible refine gate_dst (N := 1) rfl ?_); refine zbx 1 #[.slice A0_0 l0_0.length c0_0, .slice A0_1 l0_1.length c0_1, .slice A0_2 l0_2.length c0_2] 33 ?_; intro gb211 hg w5 hbox hb; have BK211 := Aside0.mk (hbox); have GW211 := zs w hg; have GE211 := GW211; replace HB := zt w hb; clear hb hbox hg; obtain ⟨hcz6_0, hcz6_1, hcz6_2, hfz6_0, hfz6_1, hfz6_2⟩ := zF3 BK211) | ((with_reducible refine gate_callee (f := 17) rfl ?_); refine zc (some 4) Tryz.func17 #[.agg #[.slice A0_0 l0_0.length c0_0, .slice A0_1 l0_1.length c0_1, .slice A0_2 l0_2.length c0_2]] ?_; (with_reducible refine (spec_ObjectOk.calls k _ _ l0_0 _ _ l0_1 _ _ l0_2 true _ ?side1 ?side2 ?side3 ?side4 ?side5 ?side6 A2.out).mono ?_); (case side1 => repeat (first | exact (Kd.C_below HR0_0.out HB.out) | (with_reducible refine Kd.C_alloc ?_ _) | (with_reducible refine Kd.C_drewN ?_ _) | (with_reducible refine Kd.C_drew ?_))); (case side2 => exact HC0_0.out); (case side3 => repeat (first | exact (Kd.C_below HR0_1.out HB.out) | (with_reducible refine Kd.C_alloc ?_ _) | (with_reducible refine Kd.C_drewN ?_ _) | (with_reducible refine Kd.C_drew ?_))); (case side4 => exact HC0_1.out); (case side5 => repeat (first | exact (Kd.C_below HR0_2.out HB.out) | (with_reducible refine Kd.C_alloc ?_ _) | (with_reducible refine Kd.C_drewN ?_ _) | (with_reducible refine Kd.C_drew ?_))); (case side6 => exact HC0_2.out); rintro e w7 ⟨rfl, hb⟩; refine ⟨_, rfl, ?_⟩; replace BK211 := zk BK211 hb; replace HB := zt w hb; (try clear hb); (try clear hb2); (try clear hk); (try clear hi); obtain ⟨hcz8_0, hcz8_1, hcz8_2, hfz8_0, hfz8_1, hfz8_2⟩ := zF3 BK211) | ((with_reducible refine gate_callee (f := 18) rfl ?_); refine zc (some 7) Tryz.func18 #[.agg #[.slice A0_0 l0_0.length c0_0, .slice A0_1 l0_1.length c0_1, .slice A0_2 l0_2.length c0_2]] ?_; (with_reducible refine (spec_l9Text.calls k _ _ l0_0 _ _ l0_1 _ _ l0_2 t213 _ ?side1 ?side2 ?side3 ?side4 ?side5 ?side6 A4.out).mono ?_); (case side1 => repeat (first | exact (Kd.C_below HR0_0.out HB.out) | (with_reducible refine Kd.C_alloc ?_ _) | (with_reducible refine Kd.C_drewN ?_ _) | (with_reducible refine Kd.C_drew ?_))); (case side2 => exact HC0_0.out); (case side3 => repeat (first | exact (Kd.C_below HR0_1.out HB.out) | (with_reducible refine Kd.C_alloc ?_ _) | (with_reducible refine Kd.C_drewN ?_ _) | (with_reducible refine Kd.C_drew ?_))); (case side4 => exact HC0_1.out); (case side5 => repeat (first | exact (Kd.C_below HR0_2.out HB.out) | (with_reducible refine Kd.C_alloc ?_ _) | (with_reducible refine Kd.C_drewN ?_ _) | (with_reducible refine Kd.C_drew ?_))); (case side6 => exact HC0_2.out); rintro e w9 ⟨rfl, hb⟩; refine ⟨_, rfl, ?_⟩; replace BK211 := zk BK211 hb; replace HB := zt w hb; (try clear hb); (try clear hb2); (try clear hk); (try clear hi)))
  go_ret
  exact ⟨ze _, zb _⟩
 ·replace c3 := Bool.eq_false_iff.mpr c3
  subst c3
  rw [if_neg (show ¬ (false = true) by decide)] at H
  obtain rfl := Option.some.inj H
  go_enter Tryz.func6, Tryz.ntmps6
  go_wp2_with (first | ((with_reducible refine gate_dst (N := 1) rfl ?_); refine zbx 1 #[.slice A0_0 l0_0.length c0_0, .slice A0_1 l0_1.length c0_1, .slice A0_2 l0_2.length c0_2] 33 ?_; intro gb211 hg w10 hbox hb; have BK211 := Aside0.mk (hbox); have GW211 := zs w hg; have GE211 := GW211; replace HB := zt w hb; clear hb hbox hg; obtain ⟨hcz11_0, hcz11_1, hcz11_2, hfz11_0, hfz11_1, hfz11_2⟩ := zF3 BK211) | ((with_reducible refine gate_callee (f := 17) rfl ?_); refine zc (some 4) Tryz.func17 #[.agg #[.slice A0_0 l0_0.length c0_0, .slice A0_1 l0_1.length c0_1, .slice A0_2 l0_2.length c0_2]] ?_; (with_reducible refine (spec_ObjectOk.calls k _ _ l0_0 _ _ l0_1 _ _ l0_2 false _ ?side1 ?side2 ?side3 ?side4 ?side5 ?side6 A2.out).mono ?_); (case side1 => repeat (first | exact (Kd.C_below HR0_0.out HB.out) | (with_reducible refine Kd.C_alloc ?_ _) | (with_reducible refine Kd.C_drewN ?_ _) | (with_reducible refine Kd.C_drew ?_))); (case side2 => exact HC0_0.out); (case side3 => repeat (first | exact (Kd.C_below HR0_1.out HB.out) | (with_reducible refine Kd.C_alloc ?_ _) | (with_reducible refine Kd.C_drewN ?_ _) | (with_reducible refine Kd.C_drew ?_))); (case side4 => exact HC0_1.out); (case side5 => repeat (first | exact (Kd.C_below HR0_2.out HB.out) | (with_reducible refine Kd.C_alloc ?_ _) | (with_reducible refine Kd.C_drewN ?_ _) | (with_reducible refine Kd.C_drew ?_))); (case side6 => exact HC0_2.out); rintro e w12 ⟨rfl, hb⟩; refine ⟨_, rfl, ?_⟩; replace BK211 := zk BK211 hb; replace HB := zt w hb; (try clear hb); (try clear hb2); (try clear hk); (try clear hi)))
  go_ret
  exact ⟨ze _, zb _⟩

def laws_toENode.f (a0_0 : Int) (a0_1 : Int) (a0_2 : ByteArray) : Option (Int × Int × ByteArray) := some (a0_0, a0_1, a0_2)
set_option maxHeartbeats 8000000 in
set_option maxRecDepth 100000 in
theorem laws_toENode.calls (a0_0 : Int) (a0_1 : Int) (a0_2 : ByteArray) (r1 : Int) (r2 : Int) (r3 : ByteArray) (w : World) (h : laws_toENode.f a0_0 a0_1 a0_2 = some (r1, r2, r3)) :
 Calls Tryz.prog 91 #[.agg #[.int .i64 a0_0, .int .i64 a0_1, .string a0_2]] w fun e w' => e = .returned (.agg #[.int .i64 r1, .int .i64 r2, .string r3]) ∧ Below w.heap.size w w' := by
 have hu119 := Tryz.underlying119
 have hu124 := Tryz.underlying124
 have HB := Aside0.mk (Below.refl w.heap.size w)
 have H : (some (a0_0, a0_1, a0_2)) = some (r1, r2, r3) := h
 clear h
 simp only [Option.some.injEq, Prod.mk.injEq] at H
 obtain ⟨rfl, rfl, rfl⟩ := H
 go_enter Tryz.func91, Tryz.ntmps91
 go_wp2_with (first | ((with_reducible refine gate_dst (N := 1) rfl ?_); refine zbx 1 #[.int .i64 a0_0, .int .i64 a0_1, .string a0_2] 119 ?_; intro gb214 hg w2 hbox hb; have BK214 := Aside0.mk (hbox); have GW214 := zs w hg; have GE214 := GW214; replace HB := zt w hb; clear hb hbox hg) | ((with_reducible refine gate_dst (N := 2) rfl ?_); refine zbx 2 #[.int .i64 0, .int .i64 0, .string (⟨#[]⟩ : ByteArray)] 124 ?_; intro gb215 hg w3 hbox hb; have BK215 := Aside0.mk (hbox); have GW215 := zs w hg; have GE215 := GW215; have NB214_215 := zlt BK214 hg; have NB215_214 := zgt (zlt BK214 hg); replace BK214 := zk BK214 hb; replace HB := zt w hb; clear hb hbox hg) | ((with_reducible refine gate_dst (N := 3) rfl ?_); refine zbx 3 #[.int .i64 0, .int .i64 0, .string (⟨#[]⟩ : ByteArray)] 124 ?_; intro gb216 hg w4 hbox hb; have BK216 := Aside0.mk (hbox); have GW216 := zs w hg; have GE216 := GW216; have NB214_216 := zlt BK214 hg; have NB216_214 := zgt (zlt BK214 hg); have NB215_216 := zlt BK215 hg; have NB216_215 := zgt (zlt BK215 hg); replace BK214 := zk BK214 hb; replace BK215 := zk BK215 hb; replace HB := zt w hb; clear hb hbox hg; have hnb5 := NB214_215.out; have hnc5 := NB215_214.out; have hnb6 := NB214_216.out; have hnc6 := NB216_214.out; obtain ⟨hcz7_0, hcz7_1, hcz7_2, hfz7_0, hfz7_1, hfz7_2⟩ := zF3 BK214; have hnb8 := NB216_215.out; have hnc8 := NB215_216.out; obtain ⟨hcz9_0, hcz9_1, hcz9_2, hfz9_0, hfz9_1, hfz9_2⟩ := zF3 BK216; obtain ⟨hcz10_0, hcz10_1, hcz10_2, hfz10_0, hfz10_1, hfz10_2⟩ := zF3 BK215))
 refine bodyPost_ret (results_cell_row rfl _ _ gb215 124 #[.int .i64 a0_0, .int .i64 a0_1, .string a0_2] (0, 0) _ rfl (zw _) Tryz.underlying124 rfl (by kernel_rfl)) rfl ?_
 exact ⟨ze _, zb _⟩

def laws_toENodeS.l0 : Nat → List (S119) → List (S124) → Int → Option ((List (S124)))
  | 0, _, _, _ => none
  | k + 1, x0, x3, x4 => if x4 < (x0.length : Int) then (if 0 ≤ x4 then ((laws_toENode.f ((rd_T119 x0 x4).f0) ((rd_T119 x0 x4).f1) ((rd_T119 x0 x4).f2)).bind fun bt221 => (if x4 < (x3.length : Int) then (laws_toENodeS.l0 k x0 (x3.set (x4 : Int).toNat (⟨bt221.1, bt221.2.1, bt221.2.2⟩ : S124)) (wrap64 (x4 + 1))) else (none))) else (none)) else (some x3)
def laws_toENodeS.f (k : Nat) (l0 : List (S119)) : Option ((List (S124))) := if 0 ≤ (l0.length : Int) then (if ((l0.length : Int) : Int).toNat ≤ 8796093022208 then (laws_toENodeS.l0 k l0 (List.replicate ((l0.length : Int) : Int).toNat z124) 0) else (none)) else (none)
theorem laws_toENodeS.mono_l : ∀ k, (∀ y0 y1 y2, LeO (laws_toENodeS.l0 k y0 y1 y2) (laws_toENodeS.l0 (k + 1) y0 y1 y2))
  | 0 => fun _ _ _ r h => by simp [laws_toENodeS.l0] at h
  | k + 1 => by
    have ih0 := laws_toENodeS.mono_l k
    · intro y0 y1 y2
      unfold laws_toENodeS.l0
      repeat' with_reducible first | exact ih0 _ _ _ | exact LeO.refl _ | exact LeO.none _ | refine LeO.ite ?_ ?_ | refine LeO.bind ?_ (fun _ => ?_)
theorem laws_toENodeS.mono : ∀ a0 k, LeO (laws_toENodeS.f k a0) (laws_toENodeS.f (k + 1) a0) := by
  intro a0 k
  have ih0 := laws_toENodeS.mono_l k
  unfold laws_toENodeS.f
  repeat' with_reducible first | exact ih0 _ _ _ | exact LeO.refl _ | exact LeO.none _ | refine LeO.ite ?_ ?_ | refine LeO.bind ?_ (fun _ => ?_)
set_option maxHeartbeats 8000000 in
set_option maxRecDepth 100000 in
theorem laws_toENodeS.calls (k : Nat) (A0 : Option Addr) (c0 : Nat) (l0 : List (S119)) (r : List (S124)) (w : World) (hr0 : Kd.C k119 w A0 l0.length l0) (hc0 : l0.length ≤ c0) (h : laws_toENodeS.f k l0 = some r) :
 Calls Tryz.prog 50 #[.slice A0 l0.length c0] w fun e w' => ∃ v0_ : Value, e = .returned (v0_) ∧ Kd.R k124 124 w' w.heap.size (fun _ => True) v0_ r ∧ Below w.heap.size w w' := by
 have hu119 := Tryz.underlying119
 have hu124 := Tryz.underlying124
 have HR0 := Aside0.mk hr0
 have HC0 := Aside0.mk hc0
 clear hr0 hc0
 have HB := Aside0.mk (Below.refl w.heap.size w)
 have H : (if 0 ≤ (l0.length : Int) then (if ((l0.length : Int) : Int).toNat ≤ 8796093022208 then (laws_toENodeS.l0 k l0 (List.replicate ((l0.length : Int) : Int).toNat z124) 0) else (none)) else (none)) = some r := h
 clear h
 by_cases c2 : 0 ≤ (l0.length : Int)
 ·rw [if_pos c2] at H
  have c2b0 := eq_true c2
  have c2b1 : decide (0 ≤ (l0.length : Int)) = true := decide_eq_true c2
  clear c2
  by_cases c3 : ((l0.length : Int) : Int).toNat ≤ 8796093022208
  ·rw [if_pos c3] at H
   have c3b0 := eq_true c3
   have c3b1 : decide (((l0.length : Int) : Int).toNat ≤ 8796093022208) = true := decide_eq_true c3
   clear c3
   obtain ⟨y217, hy217⟩ : ∃ y_ : List (S124), y_ = (List.replicate ((l0.length : Int) : Int).toNat z124) := ⟨_, rfl⟩
   replace H : (laws_toENodeS.l0 k l0 y217 0) = some r := by first | (rw [hy217]; with_reducible exact H) | (have H2_ := (Option.bind_some _ _).symm.trans H; rw [hy217]; with_reducible exact H2_) | (have H2_ := (Option.bind_some _ _).symm.trans H; with_reducible exact H2_) | with_reducible exact H | (rw [hy217]; exact H) | exact H
   have Ny217 := Aside0.mk hy217
   clear hy217
   have H' := Aside0.mk H
   clear H
   go_enter Tryz.func50, Tryz.ntmps50
   go_wp2_with (first | ((with_reducible refine gate_dst (N := 7) rfl ?_); refine Kd.R_make k124 _ 124 rfl (N := 7) rfl 75 _ _ rfl (l0.length : Int) rfl rfl Tryz.underlying75 (.agg #[(.int .i64 0), (.int .i64 0), (.string ⟨#[]⟩)]) 32 info124 rfl (by decide) (by omega) z124 (ok := fun _ => True) (okp := fun _ => True) (k124_mkM _ _ _ z124 ) (fun _ hk => hk) trivial (of_decide_eq_true (za _)) (Nat.le_trans (Nat.mul_le_mul_right _ (of_decide_eq_true (za _) : (l0.length : Int).toNat ≤ 8796093022208)) (by omega)) (Below.refl _ _) (Nat.le_refl _) ?_; intro v218 w4 ho5 hb hg_ hnew_; clear hg_ hnew_; (first | rw [← Ny217.out] at ho5 | (simp only [Int.reduceToNat] at ho5; rw [← Ny217.out] at ho5)); have HO219 := Aside0.mk (Kd.R_lower ho5 (below_size (zb _))); replace HB := zt w hb; clear hb ho5))
   go_loopg [4] k (fun kq v4 w' => ∃ (x3_1 : List (S124)) (x4_1 : Int), v4 = .int .i64 x4_1 ∧ Aside0 (laws_toENodeS.l0 kq l0 x3_1 x4_1 = some r) ∧ Aside0 (kq ≤ k) ∧ Aside0 (Kd.R k124 124 w' w.heap.size (fun _ => True) v218 x3_1) ∧ Aside0 (Below w.heap.size w w'))
   case atStart => exact ⟨(y217), (0), (zE _), H', ⟨Nat.le_refl _⟩, ⟨by (with_reducible repeat (first | apply Kd.R_alloc | apply Kd.R_drewN | apply Kd.R_drew)); exact HO219.out⟩, ⟨zb _⟩⟩
   case round =>
    clear H'
    obtain ⟨x3_1, x4_1, rfl, HA, HK1, HO_3, HB⟩ := hrel
    cases gk with
    | zero => exact absurd HA.out (by simp [laws_toENodeS.l0])
    | succ k1 =>
     have H := HA.out
     clear HA
     simp only [laws_toENodeS.l0] at H
     by_cases c6 : x4_1 < (l0.length : Int)
     ·rw [if_pos c6] at H
      have c6b0 : decide (x4_1 < (l0.length : Int)) = true := decide_eq_true c6
      clear c6
      by_cases c7 : 0 ≤ x4_1
      ·rw [if_pos c7] at H
       have c7b0 : decide (0 ≤ x4_1) = true := decide_eq_true c7
       clear c7
       replace H := Option.bind_eq_some_iff.mp H
       obtain ⟨⟨t221, t222, t223⟩, A80, H⟩ := H
       replace H : (if x4_1 < (x3_1.length : Int) then (laws_toENodeS.l0 k1 l0 (x3_1.set (x4_1 : Int).toNat (⟨t221, t222, t223⟩ : S124)) (wrap64 (x4_1 + 1))) else (none)) = some r := H
       have A8 := Aside0.mk A80
       clear A80
       by_cases c9 : x4_1 < (x3_1.length : Int)
       ·rw [if_pos c9] at H
        have c9b0 : decide (x4_1 < (x3_1.length : Int)) = true := decide_eq_true c9
        clear c9
        obtain ⟨y224, hy224⟩ : ∃ y_ : List (S124), y_ = (x3_1.set (x4_1 : Int).toNat (⟨t221, t222, t223⟩ : S124)) := ⟨_, rfl⟩
        replace H : (laws_toENodeS.l0 k1 l0 y224 (wrap64 (x4_1 + 1))) = some r := by first | (rw [hy224]; with_reducible exact H) | (have H2_ := (Option.bind_some _ _).symm.trans H; rw [hy224]; with_reducible exact H2_) | (have H2_ := (Option.bind_some _ _).symm.trans H; with_reducible exact H2_) | with_reducible exact H | (rw [hy224]; exact H) | exact H
        have Ny224 := Aside0.mk hy224
        clear hy224
        have H' := Aside0.mk H
        clear H
        have p220 : 0 ≤ (x4_1 : Int) := of_decide_eq_true (za _)
        have q220 : x4_1 < (l0.length : Int) := of_decide_eq_true (za _)
        obtain ⟨ad220, e220, hx220_0, hx220_1, hx220_2⟩ := at_T119 HR0.out x4_1 p220 q220
        cases e220
        replace hx220_0 := zx HB hx220_0
        replace hx220_1 := zx HB hx220_1
        replace hx220_2 := zx HB hx220_2
        replace p220 := eq_true p220
        replace q220 := eq_true q220
        go_wp2_with (first | ((with_reducible refine gate_callee (f := 91) rfl ?_); refine zc (some 20) Tryz.func91 #[.agg #[.int .i64 ((rd_T119 l0 x4_1).f0), .int .i64 ((rd_T119 l0 x4_1).f1), .string ((rd_T119 l0 x4_1).f2)]] ?_; (with_reducible refine (laws_toENode.calls ((rd_T119 l0 x4_1).f0) ((rd_T119 l0 x4_1).f1) ((rd_T119 l0 x4_1).f2) t221 t222 t223 _ A8.out).mono ?_); rintro e w11 ⟨rfl, hb⟩; refine ⟨_, rfl, ?_⟩; replace HO_3 := Aside0.mk (Kd.R_below (by (with_reducible repeat (first | apply Kd.R_alloc | apply Kd.R_drewN | apply Kd.R_drew)); exact HO_3.out) hb); replace HB := zt w hb; (try clear hb); (try clear hb2); (try clear hk); (try clear hi); have p10 : 0 ≤ (x4_1 : Int) := of_decide_eq_true (za _); have q10 : (x4_1 : Int) < ((x3_1.length : Int) : Int) := of_decide_eq_true (za _); obtain ⟨go10, co10, eo10, gb10, gl10, cl10, HG10⟩ := Kd.R_form HO_3.out (by omega); (first | cases eo10 | (injection eo10 with ea_ en_ ec_; (first | subst ea_ | (injection ea_ with ea_; subst ea_)); subst ec_; clear en_)); have GB10 := Aside0.mk gb10; have GG10 := Aside0.mk HG10; clear gb10 gl10 HG10; obtain ⟨ce10, hcl10, hM10, hcc10, hfr10⟩ := Kd.R_elem HO_3.out z124 (x4_1 : Int) p10 q10; obtain rfl := k124_openM hM10; have hx10_0 : w11.cell? ⟨go10, (x4_1 : Int).toNat * 3, none⟩ = some (.int .i64 ((rd_T124 x3_1 x4_1).f0)) := hcc10 0 _ rfl; have hx10_1 : w11.cell? ⟨go10, (x4_1 : Int).toNat * 3 + 1, none⟩ = some (.int .i64 ((rd_T124 x3_1 x4_1).f1)) := hcc10 1 _ rfl; have hx10_2 : w11.cell? ⟨go10, (x4_1 : Int).toNat * 3 + 2, none⟩ = some (.string ((rd_T124 x3_1 x4_1).f2)) := hcc10 2 _ rfl; have hf10_0 : w11.frozen? ⟨go10, (x4_1 : Int).toNat * 3, none⟩ = false := hfr10 0; have hf10_1 : w11.frozen? ⟨go10, (x4_1 : Int).toNat * 3 + 1, none⟩ = false := hfr10 1; have hf10_2 : w11.frozen? ⟨go10, (x4_1 : Int).toNat * 3 + 2, none⟩ = false := hfr10 2; (try clear hM10); clear hcl10 hcc10 hfr10; replace p10 := eq_true p10; replace q10 := eq_true q10; have HX12 := Aside0.mk (show Kd.R k124 124 w11 w.heap.size (fun _ => True) (.slice (some ⟨go10, 0, none⟩) x3_1.length co10) x3_1 from (by (with_reducible repeat (first | apply Kd.R_alloc | apply Kd.R_drewN | apply Kd.R_drew)); exact HO_3.out)); obtain ⟨ce12, hcl12, hM12, hcc12, hfr12⟩ := Kd.R_elem HX12.out z124 (x4_1 : Int) (of_decide_eq_true (za _)) (by have h_ : (x4_1 : Int) < ((x3_1.length : Int) : Int) := of_decide_eq_true (za _); first | exact h_ | (have e_ := (Kd.R_reads' HO_3.out).1; omega) | simpa using h_); obtain rfl := k124_openM hM12; have HP12 := Kd.R_seg HX12.out (x4_1 : Int) (of_decide_eq_true (za _)) (by have h_ : (x4_1 : Int) < ((x3_1.length : Int) : Int) := of_decide_eq_true (za _); first | exact h_ | (have e_ := (Kd.R_reads' HO_3.out).1; omega) | simpa using h_) (seg := [.int .i64 t221, .int .i64 t222, .string t223]) (j := 0) hcl12 hcc12 (show 3 ≤ 3 from by decide) (x' := (⟨t221, t222, t223⟩ : S124)) (k124_mkM _ _ _ (⟨t221, t222, t223⟩ : S124) ) (fun _ hk => hk); have hx12_0 := hcc12 0 _ rfl; (try simp only [show (k124).sz = 3 from rfl, Nat.mul_one, Nat.add_zero] at hx12_0); have hf12_0 := hfr12 0; (try simp only [show (k124).sz = 3 from rfl, Nat.mul_one, Nat.add_zero] at hf12_0); have hx12_1 := hcc12 1 _ rfl; (try simp only [show (k124).sz = 3 from rfl, Nat.mul_one, Nat.add_zero] at hx12_1); have hf12_1 := hfr12 1; (try simp only [show (k124).sz = 3 from rfl, Nat.mul_one, Nat.add_zero] at hf12_1); have hx12_2 := hcc12 2 _ rfl; (try simp only [show (k124).sz = 3 from rfl, Nat.mul_one, Nat.add_zero] at hx12_2); have hf12_2 := hfr12 2; (try simp only [show (k124).sz = 3 from rfl, Nat.mul_one, Nat.add_zero] at hf12_2); (try clear hM12); clear hcl12 hcc12 hfr12) | ((with_reducible refine gate_store (t := 124) (p := 21) rfl ?_); refine store_event (t := 124) (p := 21) (v := ?vo_w13) (w1 := (((w11.setCell ⟨go10, (x4_1 : Int).toNat * 3, none⟩ (.int .i64 t221)).setCell ⟨go10, (x4_1 : Int).toNat * 3 + 1, none⟩ (.int .i64 t222)).setCell ⟨go10, (x4_1 : Int).toNat * 3 + 2, none⟩ (.string t223))) ?hg ?ho ?hn ?hr ?_; (case ho => rfl); (case hg => rfl); (case hn => rfl); (case hr => first | (go_simp; done) | (go_simp; rfl)); intro w13 hw; have hg : w11.grownBy w13 (some go10) := (by rw [hw]; exact HP12.2); have hp_ : Kd.R k124 124 w13 w.heap.size (fun _ => True) (.slice (some ⟨go10, 0, none⟩) x3_1.length co10) y224 := (by rw [hw, Ny224.out]; exact HP12.1); clear HP12; replace HO_3 := Aside0.mk (hp_); replace HB := Aside0.mk ((by rw [hw]; exact below_set (below_set (below_set (HB.out) GB10.out) GB10.out) GB10.out : Below w.heap.size w w13)); clear hg hw hp_))
        go_roundg k1
        case measure => have := HK1.out; omega
        case rel => exact ⟨(y224), (wrap64 (x4_1 + 1)), (zE _), H', ⟨by have := HK1.out; omega⟩, ⟨by (with_reducible repeat (first | apply Kd.R_alloc | apply Kd.R_drewN | apply Kd.R_drew)); exact HO_3.out⟩, ⟨zb _⟩⟩
       ·rw [if_neg c9] at H
        exact absurd H (by simp)
      ·rw [if_neg c7] at H
       exact absurd H (by simp)
     ·rw [if_neg c6] at H
      have c6b0 : decide (x4_1 < (l0.length : Int)) = false := decide_eq_false c6
      clear c6
      obtain rfl := Option.some.inj H
      go_wp2
      go_ret
      exact ⟨_, by first | rfl | (simp [errW_none, errW_some] <;> rfl) | (simp [*, errW_none, errW_some] <;> rfl), by (with_reducible repeat (first | apply Kd.R_alloc | apply Kd.R_drewN | apply Kd.R_drew)); exact HO_3.out, zb _⟩
  ·rw [if_neg c3] at H
   exact absurd H (by simp)
 ·rw [if_neg c2] at H
  exact absurd H (by simp)

def laws_toPatch.f (k : Nat) (a0_0 : Int) (a0_1 : Int) (l0_2 : List (S119)) : Option (Int × Int × (List (S124))) := (laws_toENodeS.f k l0_2).bind fun t228 => (some (a0_0, a0_1, t228))
theorem laws_toPatch.mono : ∀ a0 a1 a2 k, LeO (laws_toPatch.f k a0 a1 a2) (laws_toPatch.f (k + 1) a0 a1 a2) := by
  intro a0 a1 a2 k
  unfold laws_toPatch.f
  repeat' with_reducible first | exact laws_toENodeS.mono _ _ | exact LeO.refl _ | exact LeO.none _ | refine LeO.ite ?_ ?_ | refine LeO.bind ?_ (fun _ => ?_)
set_option maxHeartbeats 8000000 in
set_option maxRecDepth 100000 in
theorem laws_toPatch.calls (k : Nat) (a0_0 : Int) (a0_1 : Int) (A0_2 : Option Addr) (c0_2 : Nat) (l0_2 : List (S119)) (r1 : Int) (r2 : Int) (r3 : List (S124)) (w : World) (hr0_2 : Kd.C k119 w A0_2 l0_2.length l0_2) (hc0_2 : l0_2.length ≤ c0_2) (h : laws_toPatch.f k a0_0 a0_1 l0_2 = some (r1, r2, r3)) :
 Calls Tryz.prog 119 #[.agg #[.int .i64 a0_0, .int .i64 a0_1, .slice A0_2 l0_2.length c0_2]] w fun e w' => ∃ v2_ : Value, e = .returned (.agg #[.int .i64 r1, .int .i64 r2, v2_]) ∧ Kd.R k124 124 w' w.heap.size (fun _ => True) v2_ r3 ∧ Below w.heap.size w w' := by
 have hu150 := Tryz.underlying150
 have hu79 := Tryz.underlying79
 have HR0_2 := Aside0.mk hr0_2
 have HC0_2 := Aside0.mk hc0_2
 clear hr0_2 hc0_2
 have HB := Aside0.mk (Below.refl w.heap.size w)
 have H : ((laws_toENodeS.f k l0_2).bind fun t228 => (some (a0_0, a0_1, t228))) = some (r1, r2, r3) := h
 clear h
 obtain ⟨t228, A20, H⟩ := Option.bind_eq_some_iff.mp H
 have A2 := Aside0.mk A20
 clear A20
 simp only [Option.some.injEq, Prod.mk.injEq] at H
 obtain ⟨rfl, rfl, rfl⟩ := H
 go_enter Tryz.func119, Tryz.ntmps119
 go_wp2_with (first | ((with_reducible refine gate_dst (N := 1) rfl ?_); refine zbx 1 #[.int .i64 a0_0, .int .i64 a0_1, .slice A0_2 l0_2.length c0_2] 150 ?_; intro gb225 hg w3 hbox hb; have BK225 := Aside0.mk (hbox); have GW225 := zs w hg; have GE225 := GW225; replace HB := zt w hb; clear hb hbox hg) | ((with_reducible refine gate_dst (N := 2) rfl ?_); refine zbx 2 #[.int .i64 0, .int .i64 0, .slice none 0 0] 79 ?_; intro gb226 hg w4 hbox hb; have BK226 := Aside0.mk (hbox); have GW226 := zs w hg; have GE226 := GW226; have NB225_226 := zlt BK225 hg; have NB226_225 := zgt (zlt BK225 hg); replace BK225 := zk BK225 hb; replace HB := zt w hb; clear hb hbox hg) | ((with_reducible refine gate_dst (N := 3) rfl ?_); refine zbx 3 #[.int .i64 0, .int .i64 0, .slice none 0 0] 79 ?_; intro gb227 hg w5 hbox hb; have BK227 := Aside0.mk (hbox); have GW227 := zs w hg; have GE227 := GW227; have NB225_227 := zlt BK225 hg; have NB227_225 := zgt (zlt BK225 hg); have NB226_227 := zlt BK226 hg; have NB227_226 := zgt (zlt BK226 hg); replace BK225 := zk BK225 hb; replace BK226 := zk BK226 hb; replace HB := zt w hb; clear hb hbox hg; have hnb6 := NB225_226.out; have hnc6 := NB226_225.out; have hnb7 := NB225_227.out; have hnc7 := NB227_225.out; obtain ⟨hcz8_0, hcz8_1, hcz8_2, hfz8_0, hfz8_1, hfz8_2⟩ := zF3 BK225; have hnb9 := NB227_226.out; have hnc9 := NB226_227.out; obtain ⟨hcz10_0, hcz10_1, hcz10_2, hfz10_0, hfz10_1, hfz10_2⟩ := zF3 BK227) | ((with_reducible refine gate_callee (f := 50) rfl ?_); refine zc (some 12) Tryz.func50 #[.slice A0_2 l0_2.length c0_2] ?_; (with_reducible refine (laws_toENodeS.calls k _ _ l0_2 t228 _ ?side1 ?side2 A2.out).mono ?_); (case side1 => exact Kd.C_below HR0_2.out (zb _)); (case side2 => exact HC0_2.out); rintro e w11 ⟨v229, rfl, ho0, hb⟩; refine ⟨_, rfl, ?_⟩; have HO230 := Aside0.mk (Kd.R_lower ho0 (below_size (zb _))); replace BK225 := zkw (g := gb225) (o := .cells #[.int .i64 a0_0, .int .i64 a0_1, .slice A0_2 l0_2.length c0_2] 150 (0, 0)) hb; replace BK226 := zkw (g := gb226) (o := .cells #[.int .i64 0, .int .i64 0, .slice none 0 0] 79 (0, 0)) hb; replace BK227 := zkw (g := gb227) (o := .cells #[.int .i64 a0_0, .int .i64 a0_1, .slice none 0 0] 79 (0, 0)) hb; replace HB := zt w hb; (try clear hb); (try clear hb2); (try clear hk); (try clear hi); (try clear ho0); obtain ⟨Ao12, co12, eo12⟩ := Kd.R_slice HO230.out; subst eo12; obtain ⟨hcz13_0, hcz13_1, hcz13_2, hfz13_0, hfz13_1, hfz13_2⟩ := zF3 BK227; obtain ⟨hcz14_0, hcz14_1, hcz14_2, hfz14_0, hfz14_1, hfz14_2⟩ := zF3 BK226))
 refine bodyPost_ret (results_cell_row rfl _ _ gb226 79 #[.int .i64 a0_0, .int .i64 a0_1, .slice Ao12 t228.length co12] (0, 0) _ rfl (zw _) Tryz.underlying79 rfl (by kernel_rfl)) rfl ?_
 exact ⟨_, by first | rfl | (simp [errW_none, errW_some] <;> rfl) | (simp [*, errW_none, errW_some] <;> rfl), by (with_reducible repeat (first | apply Kd.R_alloc | apply Kd.R_drewN | apply Kd.R_drew)); exact Kd.R_mono (Kd.R_far (p := ⟨gb226, 2, none⟩) (Kd.R_far (p := ⟨gb226, 1, none⟩) (Kd.R_far (p := ⟨gb226, 0, none⟩) (Kd.R_far (p := ⟨gb227, 2, none⟩) (Kd.R_types (Kd.R_types HO230.out BK227.out (by decide)) BK226.out (by decide)) (fun _ hk => hk.1.2) (.slice Ao12 t228.length co12)) (fun _ hk => hk.2) (.int .i64 a0_0)) (fun _ hk => hk.2) (.int .i64 a0_1)) (fun _ hk => hk.2) (.slice Ao12 t228.length co12)) (fun _ hk => trivial), zb _⟩

def laws_toPatchS.l0 : Nat → List (S150) → List (S79) → Int → Option ((List (S79)))
  | 0, _, _, _ => none
  | k + 1, x0, x3, x4 => if x4 < (x0.length : Int) then (if 0 ≤ x4 then ((laws_toPatch.f k ((rd_T150 x0 x4).f0) ((rd_T150 x0 x4).f1) ((rd_T150 x0 x4).f2)).bind fun bt235 => (if x4 < (x3.length : Int) then (laws_toPatchS.l0 k x0 (x3.set (x4 : Int).toNat (⟨bt235.1, bt235.2.1, bt235.2.2⟩ : S79)) (wrap64 (x4 + 1))) else (none))) else (none)) else (some x3)
def laws_toPatchS.f (k : Nat) (l0 : List (S150)) : Option ((List (S79))) := if 0 ≤ (l0.length : Int) then (if ((l0.length : Int) : Int).toNat ≤ 7036874417766 then (laws_toPatchS.l0 k l0 (List.replicate ((l0.length : Int) : Int).toNat z79) 0) else (none)) else (none)
theorem laws_toPatchS.mono_l : ∀ k, (∀ y0 y1 y2, LeO (laws_toPatchS.l0 k y0 y1 y2) (laws_toPatchS.l0 (k + 1) y0 y1 y2))
  | 0 => fun _ _ _ r h => by simp [laws_toPatchS.l0] at h
  | k + 1 => by
    have ih0 := laws_toPatchS.mono_l k
    · intro y0 y1 y2
      unfold laws_toPatchS.l0
      repeat' with_reducible first | exact ih0 _ _ _ | exact laws_toPatch.mono _ _ _ _ | exact LeO.refl _ | exact LeO.none _ | refine LeO.ite ?_ ?_ | refine LeO.bind ?_ (fun _ => ?_)
theorem laws_toPatchS.mono : ∀ a0 k, LeO (laws_toPatchS.f k a0) (laws_toPatchS.f (k + 1) a0) := by
  intro a0 k
  have ih0 := laws_toPatchS.mono_l k
  unfold laws_toPatchS.f
  repeat' with_reducible first | exact ih0 _ _ _ | exact laws_toPatch.mono _ _ _ _ | exact LeO.refl _ | exact LeO.none _ | refine LeO.ite ?_ ?_ | refine LeO.bind ?_ (fun _ => ?_)
set_option maxHeartbeats 8000000 in
set_option maxRecDepth 100000 in
theorem laws_toPatchS.calls (k : Nat) (A0 : Option Addr) (c0 : Nat) (l0 : List (S150)) (r : List (S79)) (w : World) (hr0 : Kd.C k150 w A0 l0.length l0) (hc0 : l0.length ≤ c0) (h : laws_toPatchS.f k l0 = some r) :
 Calls Tryz.prog 90 #[.slice A0 l0.length c0] w fun e w' => ∃ v0_ : Value, e = .returned (v0_) ∧ Kd.S k79 79 w' w.heap.size (fun _ => True) v0_ r ∧ Below w.heap.size w w' := by
 have hu150 := Tryz.underlying150
 have hu79 := Tryz.underlying79
 have HR0 := Aside0.mk hr0
 have HC0 := Aside0.mk hc0
 clear hr0 hc0
 have HB := Aside0.mk (Below.refl w.heap.size w)
 have H : (if 0 ≤ (l0.length : Int) then (if ((l0.length : Int) : Int).toNat ≤ 7036874417766 then (laws_toPatchS.l0 k l0 (List.replicate ((l0.length : Int) : Int).toNat z79) 0) else (none)) else (none)) = some r := h
 clear h
 by_cases c2 : 0 ≤ (l0.length : Int)
 ·rw [if_pos c2] at H
  have c2b0 := eq_true c2
  have c2b1 : decide (0 ≤ (l0.length : Int)) = true := decide_eq_true c2
  clear c2
  by_cases c3 : ((l0.length : Int) : Int).toNat ≤ 7036874417766
  ·rw [if_pos c3] at H
   have c3b0 := eq_true c3
   have c3b1 : decide (((l0.length : Int) : Int).toNat ≤ 7036874417766) = true := decide_eq_true c3
   clear c3
   obtain ⟨y231, hy231⟩ : ∃ y_ : List (S79), y_ = (List.replicate ((l0.length : Int) : Int).toNat z79) := ⟨_, rfl⟩
   replace H : (laws_toPatchS.l0 k l0 y231 0) = some r := by first | (rw [hy231]; with_reducible exact H) | (have H2_ := (Option.bind_some _ _).symm.trans H; rw [hy231]; with_reducible exact H2_) | (have H2_ := (Option.bind_some _ _).symm.trans H; with_reducible exact H2_) | with_reducible exact H | (rw [hy231]; exact H) | exact H
   have Ny231 := Aside0.mk hy231
   clear hy231
   have H' := Aside0.mk H
   clear H
   go_enter Tryz.func90, Tryz.ntmps90
   go_wp2_with (first | ((with_reducible refine gate_dst (N := 7) rfl ?_); refine Kd.S_make k79 _ 79 rfl (N := 7) rfl 69 _ _ rfl (l0.length : Int) rfl rfl Tryz.underlying69 (.agg #[(.int .i64 0), (.int .i64 0), (.slice none 0 0)]) 40 info79 rfl (by decide) (by omega) z79 (ok := fun _ => True) (okp := fun _ => True) (k79_mkM _ _ _ z79 (Kd.R_nil _ _ _ _ _)) (fun _ hk => hk) trivial (of_decide_eq_true (za _)) (Nat.le_trans (Nat.mul_le_mul_right _ (of_decide_eq_true (za _) : (l0.length : Int).toNat ≤ 7036874417766)) (by omega)) (Below.refl _ _) (Nat.le_refl _) ?_; intro v232 w4 ho5 hb hg_ hnew_; clear hg_ hnew_; (first | rw [← Ny231.out] at ho5 | (simp only [Int.reduceToNat] at ho5; rw [← Ny231.out] at ho5)); have HO233 := Aside0.mk (Kd.S_lower ho5 (below_size (zb _))); replace HB := zt w hb; clear hb ho5))
   go_loopg [4] k (fun kq v4 w' => ∃ (x3_1 : List (S79)) (x4_1 : Int), v4 = .int .i64 x4_1 ∧ Aside0 (laws_toPatchS.l0 kq l0 x3_1 x4_1 = some r) ∧ Aside0 (kq ≤ k) ∧ Aside0 (Kd.S k79 79 w' w.heap.size (fun _ => True) v232 x3_1) ∧ Aside0 (Below w.heap.size w w'))
   case atStart => exact ⟨(y231), (0), (zE _), H', ⟨Nat.le_refl _⟩, ⟨by (with_reducible repeat (first | apply Kd.S_alloc | apply Kd.S_drewN | apply Kd.S_drew)); exact HO233.out⟩, ⟨zb _⟩⟩
   case round =>
    clear H'
    obtain ⟨x3_1, x4_1, rfl, HA, HK1, HO_3, HB⟩ := hrel
    cases gk with
    | zero => exact absurd HA.out (by simp [laws_toPatchS.l0])
    | succ k1 =>
     have H := HA.out
     clear HA
     simp only [laws_toPatchS.l0] at H
     by_cases c6 : x4_1 < (l0.length : Int)
     ·rw [if_pos c6] at H
      have c6b0 : decide (x4_1 < (l0.length : Int)) = true := decide_eq_true c6
      clear c6
      by_cases c7 : 0 ≤ x4_1
      ·rw [if_pos c7] at H
       have c7b0 : decide (0 ≤ x4_1) = true := decide_eq_true c7
       clear c7
       replace H := Option.bind_eq_some_iff.mp H
       obtain ⟨⟨t235, t236, t237⟩, A80, H⟩ := H
       replace H : (if x4_1 < (x3_1.length : Int) then (laws_toPatchS.l0 k1 l0 (x3_1.set (x4_1 : Int).toNat (⟨t235, t236, t237⟩ : S79)) (wrap64 (x4_1 + 1))) else (none)) = some r := H
       have A8 := Aside0.mk A80
       clear A80
       by_cases c9 : x4_1 < (x3_1.length : Int)
       ·rw [if_pos c9] at H
        have c9b0 : decide (x4_1 < (x3_1.length : Int)) = true := decide_eq_true c9
        clear c9
        obtain ⟨y240, hy240⟩ : ∃ y_ : List (S79), y_ = (x3_1.set (x4_1 : Int).toNat (⟨t235, t236, t237⟩ : S79)) := ⟨_, rfl⟩
        replace H : (laws_toPatchS.l0 k1 l0 y240 (wrap64 (x4_1 + 1))) = some r := by first | (rw [hy240]; with_reducible exact H) | (have H2_ := (Option.bind_some _ _).symm.trans H; rw [hy240]; with_reducible exact H2_) | (have H2_ := (Option.bind_some _ _).symm.trans H; with_reducible exact H2_) | with_reducible exact H | (rw [hy240]; exact H) | exact H
        have Ny240 := Aside0.mk hy240
        clear hy240
        have H' := Aside0.mk H
        clear H
        have p234 : 0 ≤ (x4_1 : Int) := of_decide_eq_true (za _)
        have q234 : x4_1 < (l0.length : Int) := of_decide_eq_true (za _)
        obtain ⟨ad234, A234_2, c234_2, e234, hx234_0, hx234_1, hx234_2, hl234_2, hi234_2⟩ := at_T150 HR0.out x4_1 p234 q234
        cases e234
        replace hx234_0 := zx HB hx234_0
        replace hx234_1 := zx HB hx234_1
        replace hx234_2 := zx HB hx234_2
        have HR234_2 := Aside0.mk hi234_2
        have HC234_2 := Aside0.mk hl234_2
        clear hi234_2 hl234_2
        replace p234 := eq_true p234
        replace q234 := eq_true q234
        go_wp2_with (first | ((with_reducible refine gate_callee (f := 119) rfl ?_); refine zc (some 20) Tryz.func119 #[.agg #[.int .i64 ((rd_T150 l0 x4_1).f0), .int .i64 ((rd_T150 l0 x4_1).f1), .slice A234_2 ((rd_T150 l0 x4_1).f2).length c234_2]] ?_; (with_reducible refine (laws_toPatch.calls k1 ((rd_T150 l0 x4_1).f0) ((rd_T150 l0 x4_1).f1) _ _ ((rd_T150 l0 x4_1).f2) t235 t236 t237 _ ?side1 ?side2 A8.out).mono ?_); (case side1 => repeat (first | exact (Kd.C_below HR234_2.out HB.out) | (with_reducible refine Kd.C_alloc ?_ _) | (with_reducible refine Kd.C_drewN ?_ _) | (with_reducible refine Kd.C_drew ?_))); (case side2 => exact HC234_2.out); rintro e w11 ⟨v238, rfl, ho0, hb⟩; obtain ⟨sa_, sc_, se_⟩ := Kd.R_slice ho0; refine ⟨_, rfl, ?_⟩; have HO239 := Aside0.mk (Kd.R_lower ho0 (below_size (zb _))); replace HO_3 := Aside0.mk (Kd.S_elder' (by (with_reducible repeat (first | apply Kd.S_alloc | apply Kd.S_drewN | apply Kd.S_drew)); exact HO_3.out) (Kd.R_base ho0) hb); replace HB := zt w hb; (try clear hb); (try clear hb2); (try clear hk); (try clear hi); (try clear ho0); have p10 : 0 ≤ (x4_1 : Int) := of_decide_eq_true (za _); have q10 : (x4_1 : Int) < ((x3_1.length : Int) : Int) := of_decide_eq_true (za _); obtain ⟨go10, co10, eo10, gb10, gl10, cl10, HG10⟩ := Kd.S_form HO_3.out (by omega); (first | cases eo10 | (injection eo10 with ea_ en_ ec_; (first | subst ea_ | (injection ea_ with ea_; subst ea_)); subst ec_; clear en_)); have GB10 := Aside0.mk gb10; have GG10 := Aside0.mk HG10; clear gb10 gl10 HG10; obtain ⟨_, ce10, hcl10, hM10, hcc10, hfr10, _, _⟩ := Kd.S_elem HO_3.out z79 (x4_1 : Int) p10 q10; obtain ⟨ve10_2, rfl, ge10_2⟩ := k79_openM hM10; have hx10_0 : w11.cell? ⟨go10, (x4_1 : Int).toNat * 3, none⟩ = some (.int .i64 ((rd_T79 x3_1 x4_1).f0)) := hcc10 0 _ rfl; have hx10_1 : w11.cell? ⟨go10, (x4_1 : Int).toNat * 3 + 1, none⟩ = some (.int .i64 ((rd_T79 x3_1 x4_1).f1)) := hcc10 1 _ rfl; have hx10_2 : w11.cell? ⟨go10, (x4_1 : Int).toNat * 3 + 2, none⟩ = some (ve10_2) := hcc10 2 _ rfl; have hf10_0 : w11.frozen? ⟨go10, (x4_1 : Int).toNat * 3, none⟩ = false := hfr10 0; have hf10_1 : w11.frozen? ⟨go10, (x4_1 : Int).toNat * 3 + 1, none⟩ = false := hfr10 1; have hf10_2 : w11.frozen? ⟨go10, (x4_1 : Int).toNat * 3 + 2, none⟩ = false := hfr10 2; (try clear hM10); clear hcl10 hcc10 hfr10; replace p10 := eq_true p10; replace q10 := eq_true q10; have n_ := Aside0.mk (Kd.S_mono (ok' := (fun k_ => some k_ ≠ (v238 : Value).ownBlock)) HO_3.out (fun k_ hk => hk.2)); clear HO_3; have HO_3 := n_; clear n_; have HX12 := Aside0.mk (show Kd.S k79 79 w11 w.heap.size (fun k_ => ((fun _ => True)) k_ ∧ ¬ ((fun k_ => some k_ = (v238 : Value).ownBlock)) k_) (.slice (some ⟨go10, 0, none⟩) x3_1.length co10) x3_1 from (by (with_reducible repeat (first | apply Kd.S_alloc | apply Kd.S_drewN | apply Kd.S_drew)); exact Kd.S_mono HO_3.out (fun k_ hk => ⟨trivial, fun e_ => hk e_⟩))); obtain ⟨oki12, ce12, hcl12, hM12, hcc12, hfr12, hoki12, hH12⟩ := Kd.S_elem HX12.out z79 (x4_1 : Int) (of_decide_eq_true (za _)) (by have h_ : (x4_1 : Int) < ((x3_1.length : Int) : Int) := of_decide_eq_true (za _); first | exact h_ | (have e_ := (Kd.S_reads' HO_3.out).1; omega) | simpa using h_); obtain ⟨ve12_2, rfl, ge12_2⟩ := k79_openM hM12; have HP12 := Kd.S_seg hH12 (of_decide_eq_true (za _)) (by have h_ : (x4_1 : Int) < ((x3_1.length : Int) : Int) := of_decide_eq_true (za _); first | exact h_ | (have e_ := (Kd.S_reads' HO_3.out).1; omega) | simpa using h_) (seg := [.int .i64 t235, .int .i64 t236, v238]) (j := 0) (show 3 ≤ 3 from by decide) (x' := (⟨t235, t236, t237⟩ : S79)) (k79_mkM _ _ _ (⟨t235, t236, t237⟩ : S79) (Kd.R_mono (Kd.R_tight rfl (Kd.R_mono (ok' := fun k_ => ((fun _ => True)) k_ ∧ k_ ≠ go10) (Kd.R_apart' (HO239.out) (Kd.S_typed HO_3.out) (by decide)) (fun k_ hk => ⟨trivial, fun e_ => (hk.2) (by rw [e_]; rfl)⟩))) (fun _ h_ => Or.inr (h_)))) (fun _ hk => hk) (fun k_ hk_ => ((Kd.R_mono (ok' := fun k_ => ((fun _ => True)) k_ ∧ k_ ≠ go10) (Kd.R_apart' (HO239.out) (Kd.S_typed HO_3.out) (by decide)) (fun k_ hk => ⟨trivial, fun e_ => (hk.2) (by rw [e_]; rfl)⟩))).1 k_ hk_.symm); have hx12_0 := hcc12 0 _ rfl; (try simp only [show (k79).sz = 3 from rfl, Nat.mul_one, Nat.add_zero] at hx12_0); have hf12_0 := hfr12 0; (try simp only [show (k79).sz = 3 from rfl, Nat.mul_one, Nat.add_zero] at hf12_0); have hx12_1 := hcc12 1 _ rfl; (try simp only [show (k79).sz = 3 from rfl, Nat.mul_one, Nat.add_zero] at hx12_1); have hf12_1 := hfr12 1; (try simp only [show (k79).sz = 3 from rfl, Nat.mul_one, Nat.add_zero] at hf12_1); have hx12_2 := hcc12 2 _ rfl; (try simp only [show (k79).sz = 3 from rfl, Nat.mul_one, Nat.add_zero] at hx12_2); have hf12_2 := hfr12 2; (try simp only [show (k79).sz = 3 from rfl, Nat.mul_one, Nat.add_zero] at hf12_2); (try clear hM12); clear hcl12 hcc12 hfr12 hoki12 hH12) | ((with_reducible refine gate_store (t := 79) (p := 21) rfl ?_); refine store_event (t := 79) (p := 21) (v := ?vo_w13) (w1 := (((w11.setCell ⟨go10, (x4_1 : Int).toNat * 3, none⟩ (.int .i64 t235)).setCell ⟨go10, (x4_1 : Int).toNat * 3 + 1, none⟩ (.int .i64 t236)).setCell ⟨go10, (x4_1 : Int).toNat * 3 + 2, none⟩ (v238))) ?hg ?ho ?hn ?hr ?_; (case ho => rfl); (case hg => rfl); (case hn => rfl); (case hr => subst se_; first | (go_simp; done) | (go_simp; rfl)); intro w13 hw; have hg : w11.grownBy w13 (some go10) := (by rw [hw]; exact HP12.2); have hp_ : Kd.S k79 79 w13 w.heap.size (fun _ => True) (.slice (some ⟨go10, 0, none⟩) x3_1.length co10) y240 := (by rw [hw, Ny240.out]; exact HP12.1); clear HP12; replace HO_3 := Aside0.mk (hp_); replace HB := Aside0.mk ((by rw [hw]; exact below_set (below_set (below_set (HB.out) GB10.out) GB10.out) GB10.out : Below w.heap.size w w13)); clear HO239; clear hg hw hp_))
        go_roundg k1
        case measure => have := HK1.out; omega
        case rel => exact ⟨(y240), (wrap64 (x4_1 + 1)), (zE _), H', ⟨by have := HK1.out; omega⟩, ⟨by (with_reducible repeat (first | apply Kd.S_alloc | apply Kd.S_drewN | apply Kd.S_drew)); exact HO_3.out⟩, ⟨zb _⟩⟩
       ·rw [if_neg c9] at H
        exact absurd H (by simp)
      ·rw [if_neg c7] at H
       exact absurd H (by simp)
     ·rw [if_neg c6] at H
      have c6b0 : decide (x4_1 < (l0.length : Int)) = false := decide_eq_false c6
      clear c6
      obtain rfl := Option.some.inj H
      go_wp2
      go_ret
      exact ⟨_, by first | rfl | (simp [errW_none, errW_some] <;> rfl) | (simp [*, errW_none, errW_some] <;> rfl), by (with_reducible repeat (first | apply Kd.S_alloc | apply Kd.S_drewN | apply Kd.S_drew)); exact HO_3.out, zb _⟩
  ·rw [if_neg c3] at H
   exact absurd H (by simp)
 ·rw [if_neg c2] at H
  exact absurd H (by simp)

def laws_toSection.f (k : Nat) (a0_0 : ByteArray) (a0_1 : Int) (a0_2 : Int) (a0_3 : Int) (a0_4 : ByteArray) (l0_5 : List (S150)) : Option (ByteArray × Int × Int × Int × ByteArray × (List (S79))) := (laws_toPatchS.f k l0_5).bind fun t244 => (some (a0_0, a0_1, a0_2, a0_3, a0_4, t244))
theorem laws_toSection.mono : ∀ a0 a1 a2 a3 a4 a5 k, LeO (laws_toSection.f k a0 a1 a2 a3 a4 a5) (laws_toSection.f (k + 1) a0 a1 a2 a3 a4 a5) := by
  intro a0 a1 a2 a3 a4 a5 k
  unfold laws_toSection.f
  repeat' with_reducible first | exact laws_toPatchS.mono _ _ | exact LeO.refl _ | exact LeO.none _ | refine LeO.ite ?_ ?_ | refine LeO.bind ?_ (fun _ => ?_)
set_option maxHeartbeats 8000000 in
set_option maxRecDepth 100000 in
theorem laws_toSection.calls (k : Nat) (a0_0 : ByteArray) (a0_1 : Int) (a0_2 : Int) (a0_3 : Int) (a0_4 : ByteArray) (A0_5 : Option Addr) (c0_5 : Nat) (l0_5 : List (S150)) (r1 : ByteArray) (r2 : Int) (r3 : Int) (r4 : Int) (r5 : ByteArray) (r6 : List (S79)) (w : World) (hr0_5 : Kd.C k150 w A0_5 l0_5.length l0_5) (hc0_5 : l0_5.length ≤ c0_5) (h : laws_toSection.f k a0_0 a0_1 a0_2 a0_3 a0_4 l0_5 = some (r1, r2, r3, r4, r5, r6)) :
 Calls Tryz.prog 48 #[.agg #[.string a0_0, .int .i64 a0_1, .int .i64 a0_2, .int .i64 a0_3, .string a0_4, .slice A0_5 l0_5.length c0_5]] w fun e w' => ∃ v5_ : Value, e = .returned (.agg #[.string r1, .int .i64 r2, .int .i64 r3, .int .i64 r4, .string r5, v5_]) ∧ Kd.S k79 79 w' w.heap.size (fun _ => True) v5_ r6 ∧ Below w.heap.size w w' := by
 have hu62 := Tryz.underlying62
 have hu71 := Tryz.underlying71
 have HR0_5 := Aside0.mk hr0_5
 have HC0_5 := Aside0.mk hc0_5
 clear hr0_5 hc0_5
 have HB := Aside0.mk (Below.refl w.heap.size w)
 have H : ((laws_toPatchS.f k l0_5).bind fun t244 => (some (a0_0, a0_1, a0_2, a0_3, a0_4, t244))) = some (r1, r2, r3, r4, r5, r6) := h
 clear h
 obtain ⟨t244, A20, H⟩ := Option.bind_eq_some_iff.mp H
 have A2 := Aside0.mk A20
 clear A20
 simp only [Option.some.injEq, Prod.mk.injEq] at H
 obtain ⟨rfl, rfl, rfl, rfl, rfl, rfl⟩ := H
 go_enter Tryz.func48, Tryz.ntmps48
 go_wp2_with (first | ((with_reducible refine gate_dst (N := 1) rfl ?_); refine zbx 1 #[.string a0_0, .int .i64 a0_1, .int .i64 a0_2, .int .i64 a0_3, .string a0_4, .slice A0_5 l0_5.length c0_5] 62 ?_; intro gb241 hg w3 hbox hb; have BK241 := Aside0.mk (hbox); have GW241 := zs w hg; have GE241 := GW241; replace HB := zt w hb; clear hb hbox hg) | ((with_reducible refine gate_dst (N := 2) rfl ?_); refine zbx 2 #[.string (⟨#[]⟩ : ByteArray), .int .i64 0, .int .i64 0, .int .i64 0, .string (⟨#[]⟩ : ByteArray), .slice none 0 0] 71 ?_; intro gb242 hg w4 hbox hb; have BK242 := Aside0.mk (hbox); have GW242 := zs w hg; have GE242 := GW242; have NB241_242 := zlt BK241 hg; have NB242_241 := zgt (zlt BK241 hg); replace BK241 := zk BK241 hb; replace HB := zt w hb; clear hb hbox hg) | ((with_reducible refine gate_dst (N := 3) rfl ?_); refine zbx 3 #[.string (⟨#[]⟩ : ByteArray), .int .i64 0, .int .i64 0, .int .i64 0, .string (⟨#[]⟩ : ByteArray), .slice none 0 0] 71 ?_; intro gb243 hg w5 hbox hb; have BK243 := Aside0.mk (hbox); have GW243 := zs w hg; have GE243 := GW243; have NB241_243 := zlt BK241 hg; have NB243_241 := zgt (zlt BK241 hg); have NB242_243 := zlt BK242 hg; have NB243_242 := zgt (zlt BK242 hg); replace BK241 := zk BK241 hb; replace BK242 := zk BK242 hb; replace HB := zt w hb; clear hb hbox hg; have hnb6 := NB241_242.out; have hnc6 := NB242_241.out; have hnb7 := NB241_243.out; have hnc7 := NB243_241.out; have hcz8_0 := zc0 BK241; have hcz8_1 := zc1 BK241; have hcz8_2 := zc2 BK241; have hcz8_3 := zc3 BK241; have hcz8_4 := zc4 BK241; have hcz8_5 := zc5 BK241; have hfz8_0 := blk_frozen BK241.out 0; have hfz8_1 := blk_frozen BK241.out 1; have hfz8_2 := blk_frozen BK241.out 2; have hfz8_3 := blk_frozen BK241.out 3; have hfz8_4 := blk_frozen BK241.out 4; have hfz8_5 := blk_frozen BK241.out 5; have hnb9 := NB243_242.out; have hnc9 := NB242_243.out; have hcz10_0 := zc0 BK243; have hcz10_1 := zc1 BK243; have hcz10_2 := zc2 BK243; have hcz10_3 := zc3 BK243; have hcz10_4 := zc4 BK243; have hcz10_5 := zc5 BK243; have hfz10_0 := blk_frozen BK243.out 0; have hfz10_1 := blk_frozen BK243.out 1; have hfz10_2 := blk_frozen BK243.out 2; have hfz10_3 := blk_frozen BK243.out 3; have hfz10_4 := blk_frozen BK243.out 4; have hfz10_5 := blk_frozen BK243.out 5) | ((with_reducible refine gate_callee (f := 90) rfl ?_); refine zc (some 21) Tryz.func90 #[.slice A0_5 l0_5.length c0_5] ?_; (with_reducible refine (laws_toPatchS.calls k _ _ l0_5 t244 _ ?side1 ?side2 A2.out).mono ?_); (case side1 => exact Kd.C_below HR0_5.out (zb _)); (case side2 => exact HC0_5.out); rintro e w11 ⟨v245, rfl, ho0, hb⟩; refine ⟨_, rfl, ?_⟩; have HO246 := Aside0.mk (Kd.S_lower ho0 (below_size (zb _))); replace BK241 := zkw (g := gb241) (o := .cells #[.string a0_0, .int .i64 a0_1, .int .i64 a0_2, .int .i64 a0_3, .string a0_4, .slice A0_5 l0_5.length c0_5] 62 (0, 0)) hb; replace BK242 := zkw (g := gb242) (o := .cells #[.string (⟨#[]⟩ : ByteArray), .int .i64 0, .int .i64 0, .int .i64 0, .string (⟨#[]⟩ : ByteArray), .slice none 0 0] 71 (0, 0)) hb; replace BK243 := zkw (g := gb243) (o := .cells #[.string a0_0, .int .i64 a0_1, .int .i64 a0_2, .int .i64 a0_3, .string a0_4, .slice none 0 0] 71 (0, 0)) hb; replace HB := zt w hb; (try clear hb); (try clear hb2); (try clear hk); (try clear hi); (try clear ho0); obtain ⟨Ao12, co12, eo12⟩ := Kd.S_slice HO246.out; subst eo12; have hcz13_0 := zc0 BK243; have hcz13_1 := zc1 BK243; have hcz13_2 := zc2 BK243; have hcz13_3 := zc3 BK243; have hcz13_4 := zc4 BK243; have hcz13_5 := zc5 BK243; have hfz13_0 := blk_frozen BK243.out 0; have hfz13_1 := blk_frozen BK243.out 1; have hfz13_2 := blk_frozen BK243.out 2; have hfz13_3 := blk_frozen BK243.out 3; have hfz13_4 := blk_frozen BK243.out 4; have hfz13_5 := blk_frozen BK243.out 5; have hcz14_0 := zc0 BK242; have hcz14_1 := zc1 BK242; have hcz14_2 := zc2 BK242; have hcz14_3 := zc3 BK242; have hcz14_4 := zc4 BK242; have hcz14_5 := zc5 BK242; have hfz14_0 := blk_frozen BK242.out 0; have hfz14_1 := blk_frozen BK242.out 1; have hfz14_2 := blk_frozen BK242.out 2; have hfz14_3 := blk_frozen BK242.out 3; have hfz14_4 := blk_frozen BK242.out 4; have hfz14_5 := blk_frozen BK242.out 5))
 refine bodyPost_ret (results_cell_row rfl _ _ gb242 71 #[.string a0_0, .int .i64 a0_1, .int .i64 a0_2, .int .i64 a0_3, .string a0_4, .slice Ao12 t244.length co12] (0, 0) _ rfl (zw _) Tryz.underlying71 rfl (by kernel_rfl)) rfl ?_
 exact ⟨_, by first | rfl | (simp [errW_none, errW_some] <;> rfl) | (simp [*, errW_none, errW_some] <;> rfl), by (with_reducible repeat (first | apply Kd.S_alloc | apply Kd.S_drewN | apply Kd.S_drew)); exact Kd.S_mono (Kd.S_far (p := ⟨gb242, 5, none⟩) (Kd.S_far (p := ⟨gb242, 4, none⟩) (Kd.S_far (p := ⟨gb242, 3, none⟩) (Kd.S_far (p := ⟨gb242, 2, none⟩) (Kd.S_far (p := ⟨gb242, 1, none⟩) (Kd.S_far (p := ⟨gb242, 0, none⟩) (Kd.S_far (p := ⟨gb243, 5, none⟩) (Kd.S_types (Kd.S_types HO246.out BK243.out (by decide)) BK242.out (by decide)) (fun _ hk => hk.1.2) (.slice Ao12 t244.length co12)) (fun _ hk => hk.2) (.string a0_0)) (fun _ hk => hk.2) (.int .i64 a0_1)) (fun _ hk => hk.2) (.int .i64 a0_2)) (fun _ hk => hk.2) (.int .i64 a0_3)) (fun _ hk => hk.2) (.string a0_4)) (fun _ hk => hk.2) (.slice Ao12 t244.length co12)) (fun _ hk => trivial), zb _⟩

def laws_toSectionS.l0 : Nat → List (S62) → List (S71) → Int → Option ((List (S71)))
  | 0, _, _, _ => none
  | k + 1, x0, x3, x4 => if x4 < (x0.length : Int) then (if 0 ≤ x4 then ((laws_toSection.f k ((rd_T62 x0 x4).f0) ((rd_T62 x0 x4).f1) ((rd_T62 x0 x4).f2) ((rd_T62 x0 x4).f3) ((rd_T62 x0 x4).f4) ((rd_T62 x0 x4).f5)).bind fun bt251 => (if x4 < (x3.length : Int) then (laws_toSectionS.l0 k x0 (x3.set (x4 : Int).toNat (⟨bt251.1, bt251.2.1, bt251.2.2.1, bt251.2.2.2.1, bt251.2.2.2.2.1, bt251.2.2.2.2.2⟩ : S71)) (wrap64 (x4 + 1))) else (none))) else (none)) else (some x3)
def laws_toSectionS.f (k : Nat) (l0 : List (S62)) : Option ((List (S71))) := if 0 ≤ (l0.length : Int) then (if ((l0.length : Int) : Int).toNat ≤ 3518437208883 then (laws_toSectionS.l0 k l0 (List.replicate ((l0.length : Int) : Int).toNat z71) 0) else (none)) else (none)
theorem laws_toSectionS.mono_l : ∀ k, (∀ y0 y1 y2, LeO (laws_toSectionS.l0 k y0 y1 y2) (laws_toSectionS.l0 (k + 1) y0 y1 y2))
  | 0 => fun _ _ _ r h => by simp [laws_toSectionS.l0] at h
  | k + 1 => by
    have ih0 := laws_toSectionS.mono_l k
    · intro y0 y1 y2
      unfold laws_toSectionS.l0
      repeat' with_reducible first | exact ih0 _ _ _ | exact laws_toSection.mono _ _ _ _ _ _ _ | exact LeO.refl _ | exact LeO.none _ | refine LeO.ite ?_ ?_ | refine LeO.bind ?_ (fun _ => ?_)
theorem laws_toSectionS.mono : ∀ a0 k, LeO (laws_toSectionS.f k a0) (laws_toSectionS.f (k + 1) a0) := by
  intro a0 k
  have ih0 := laws_toSectionS.mono_l k
  unfold laws_toSectionS.f
  repeat' with_reducible first | exact ih0 _ _ _ | exact laws_toSection.mono _ _ _ _ _ _ _ | exact LeO.refl _ | exact LeO.none _ | refine LeO.ite ?_ ?_ | refine LeO.bind ?_ (fun _ => ?_)
set_option maxHeartbeats 8000000 in
set_option maxRecDepth 100000 in
theorem laws_toSectionS.calls (k : Nat) (A0 : Option Addr) (c0 : Nat) (l0 : List (S62)) (r : List (S71)) (w : World) (hr0 : Kd.C k62 w A0 l0.length l0) (hc0 : l0.length ≤ c0) (h : laws_toSectionS.f k l0 = some r) :
 Calls Tryz.prog 19 #[.slice A0 l0.length c0] w fun e w' => ∃ v0_ : Value, e = .returned (v0_) ∧ Kd.R k71 71 w' w.heap.size (fun _ => True) v0_ r ∧ Below w.heap.size w w' := by
 have hu62 := Tryz.underlying62
 have hu71 := Tryz.underlying71
 have HR0 := Aside0.mk hr0
 have HC0 := Aside0.mk hc0
 clear hr0 hc0
 have HB := Aside0.mk (Below.refl w.heap.size w)
 have H : (if 0 ≤ (l0.length : Int) then (if ((l0.length : Int) : Int).toNat ≤ 3518437208883 then (laws_toSectionS.l0 k l0 (List.replicate ((l0.length : Int) : Int).toNat z71) 0) else (none)) else (none)) = some r := h
 clear h
 by_cases c2 : 0 ≤ (l0.length : Int)
 ·rw [if_pos c2] at H
  have c2b0 := eq_true c2
  have c2b1 : decide (0 ≤ (l0.length : Int)) = true := decide_eq_true c2
  clear c2
  by_cases c3 : ((l0.length : Int) : Int).toNat ≤ 3518437208883
  ·rw [if_pos c3] at H
   have c3b0 := eq_true c3
   have c3b1 : decide (((l0.length : Int) : Int).toNat ≤ 3518437208883) = true := decide_eq_true c3
   clear c3
   obtain ⟨y247, hy247⟩ : ∃ y_ : List (S71), y_ = (List.replicate ((l0.length : Int) : Int).toNat z71) := ⟨_, rfl⟩
   replace H : (laws_toSectionS.l0 k l0 y247 0) = some r := by first | (rw [hy247]; with_reducible exact H) | (have H2_ := (Option.bind_some _ _).symm.trans H; rw [hy247]; with_reducible exact H2_) | (have H2_ := (Option.bind_some _ _).symm.trans H; with_reducible exact H2_) | with_reducible exact H | (rw [hy247]; exact H) | exact H
   have Ny247 := Aside0.mk hy247
   clear hy247
   have H' := Aside0.mk H
   clear H
   go_enter Tryz.func19, Tryz.ntmps19
   go_wp2_with (first | ((with_reducible refine gate_dst (N := 7) rfl ?_); refine Kd.R_make k71 _ 71 rfl (N := 7) rfl 29 _ _ rfl (l0.length : Int) rfl rfl Tryz.underlying29 (.agg #[(.string ⟨#[]⟩), (.int .i64 0), (.int .i64 0), (.int .i64 0), (.string ⟨#[]⟩), (.slice none 0 0)]) 80 info71 rfl (by decide) (by omega) z71 (ok := fun _ => True) (okp := fun _ => True) (k71_mkM _ _ _ z71 (Kd.R_nil _ _ _ _ _)) (fun _ hk => hk) trivial (of_decide_eq_true (za _)) (Nat.le_trans (Nat.mul_le_mul_right _ (of_decide_eq_true (za _) : (l0.length : Int).toNat ≤ 3518437208883)) (by omega)) (Below.refl _ _) (Nat.le_refl _) ?_; intro v248 w4 ho5 hb hg_ hnew_; clear hg_ hnew_; (first | rw [← Ny247.out] at ho5 | (simp only [Int.reduceToNat] at ho5; rw [← Ny247.out] at ho5)); have HO249 := Aside0.mk (Kd.R_lower ho5 (below_size (zb _))); replace HB := zt w hb; clear hb ho5))
   go_loopg [4] k (fun kq v4 w' => ∃ (x3_1 : List (S71)) (x4_1 : Int), v4 = .int .i64 x4_1 ∧ Aside0 (laws_toSectionS.l0 kq l0 x3_1 x4_1 = some r) ∧ Aside0 (kq ≤ k) ∧ Aside0 (Kd.R k71 71 w' w.heap.size (fun _ => True) v248 x3_1) ∧ Aside0 (Below w.heap.size w w'))
   case atStart => exact ⟨(y247), (0), (zE _), H', ⟨Nat.le_refl _⟩, ⟨by (with_reducible repeat (first | apply Kd.R_alloc | apply Kd.R_drewN | apply Kd.R_drew)); exact HO249.out⟩, ⟨zb _⟩⟩
   case round =>
    clear H'
    obtain ⟨x3_1, x4_1, rfl, HA, HK1, HO_3, HB⟩ := hrel
    cases gk with
    | zero => exact absurd HA.out (by simp [laws_toSectionS.l0])
    | succ k1 =>
     have H := HA.out
     clear HA
     simp only [laws_toSectionS.l0] at H
     by_cases c6 : x4_1 < (l0.length : Int)
     ·rw [if_pos c6] at H
      have c6b0 : decide (x4_1 < (l0.length : Int)) = true := decide_eq_true c6
      clear c6
      by_cases c7 : 0 ≤ x4_1
      ·rw [if_pos c7] at H
       have c7b0 : decide (0 ≤ x4_1) = true := decide_eq_true c7
       clear c7
       replace H := Option.bind_eq_some_iff.mp H
       obtain ⟨⟨t251, t252, t253, t254, t255, t256⟩, A80, H⟩ := H
       replace H : (if x4_1 < (x3_1.length : Int) then (laws_toSectionS.l0 k1 l0 (x3_1.set (x4_1 : Int).toNat (⟨t251, t252, t253, t254, t255, t256⟩ : S71)) (wrap64 (x4_1 + 1))) else (none)) = some r := H
       have A8 := Aside0.mk A80
       clear A80
       by_cases c9 : x4_1 < (x3_1.length : Int)
       ·rw [if_pos c9] at H
        have c9b0 : decide (x4_1 < (x3_1.length : Int)) = true := decide_eq_true c9
        clear c9
        obtain ⟨y259, hy259⟩ : ∃ y_ : List (S71), y_ = (x3_1.set (x4_1 : Int).toNat (⟨t251, t252, t253, t254, t255, t256⟩ : S71)) := ⟨_, rfl⟩
        replace H : (laws_toSectionS.l0 k1 l0 y259 (wrap64 (x4_1 + 1))) = some r := by first | (rw [hy259]; with_reducible exact H) | (have H2_ := (Option.bind_some _ _).symm.trans H; rw [hy259]; with_reducible exact H2_) | (have H2_ := (Option.bind_some _ _).symm.trans H; with_reducible exact H2_) | with_reducible exact H | (rw [hy259]; exact H) | exact H
        have Ny259 := Aside0.mk hy259
        clear hy259
        have H' := Aside0.mk H
        clear H
        have p250 : 0 ≤ (x4_1 : Int) := of_decide_eq_true (za _)
        have q250 : x4_1 < (l0.length : Int) := of_decide_eq_true (za _)
        obtain ⟨ad250, A250_5, c250_5, e250, hx250_0, hx250_1, hx250_2, hx250_3, hx250_4, hx250_5, hl250_5, hi250_5⟩ := at_T62 HR0.out x4_1 p250 q250
        cases e250
        replace hx250_0 := zx HB hx250_0
        replace hx250_1 := zx HB hx250_1
        replace hx250_2 := zx HB hx250_2
        replace hx250_3 := zx HB hx250_3
        replace hx250_4 := zx HB hx250_4
        replace hx250_5 := zx HB hx250_5
        have HR250_5 := Aside0.mk hi250_5
        have HC250_5 := Aside0.mk hl250_5
        clear hi250_5 hl250_5
        replace p250 := eq_true p250
        replace q250 := eq_true q250
        go_wp2_with (first | ((with_reducible refine gate_callee (f := 48) rfl ?_); refine zc (some 20) Tryz.func48 #[.agg #[.string ((rd_T62 l0 x4_1).f0), .int .i64 ((rd_T62 l0 x4_1).f1), .int .i64 ((rd_T62 l0 x4_1).f2), .int .i64 ((rd_T62 l0 x4_1).f3), .string ((rd_T62 l0 x4_1).f4), .slice A250_5 ((rd_T62 l0 x4_1).f5).length c250_5]] ?_; (with_reducible refine (laws_toSection.calls k1 ((rd_T62 l0 x4_1).f0) ((rd_T62 l0 x4_1).f1) ((rd_T62 l0 x4_1).f2) ((rd_T62 l0 x4_1).f3) ((rd_T62 l0 x4_1).f4) _ _ ((rd_T62 l0 x4_1).f5) t251 t252 t253 t254 t255 t256 _ ?side1 ?side2 A8.out).mono ?_); (case side1 => repeat (first | exact (Kd.C_below HR250_5.out HB.out) | (with_reducible refine Kd.C_alloc ?_ _) | (with_reducible refine Kd.C_drewN ?_ _) | (with_reducible refine Kd.C_drew ?_))); (case side2 => exact HC250_5.out); rintro e w11 ⟨v257, rfl, ho0, hb⟩; obtain ⟨sa_, sc_, se_⟩ := Kd.S_slice ho0; refine ⟨_, rfl, ?_⟩; have HO258 := Aside0.mk (Kd.S_lower ho0 (below_size (zb _))); replace HO_3 := Aside0.mk (Kd.R_elder' (by (with_reducible repeat (first | apply Kd.R_alloc | apply Kd.R_drewN | apply Kd.R_drew)); exact HO_3.out) (Kd.S_base ho0) hb); replace HB := zt w hb; (try clear hb); (try clear hb2); (try clear hk); (try clear hi); (try clear ho0); have p10 : 0 ≤ (x4_1 : Int) := of_decide_eq_true (za _); have q10 : (x4_1 : Int) < ((x3_1.length : Int) : Int) := of_decide_eq_true (za _); obtain ⟨go10, co10, eo10, gb10, gl10, cl10, HG10⟩ := Kd.R_form HO_3.out (by omega); (first | cases eo10 | (injection eo10 with ea_ en_ ec_; (first | subst ea_ | (injection ea_ with ea_; subst ea_)); subst ec_; clear en_)); have GB10 := Aside0.mk gb10; have GG10 := Aside0.mk HG10; clear gb10 gl10 HG10; obtain ⟨ce10, hcl10, hM10, hcc10, hfr10⟩ := Kd.R_elem HO_3.out z71 (x4_1 : Int) p10 q10; obtain ⟨ve10_5, rfl, ge10_5⟩ := k71_openM hM10; have hx10_0 : w11.cell? ⟨go10, (x4_1 : Int).toNat * 6, none⟩ = some (.string ((rd_T71 x3_1 x4_1).f0)) := hcc10 0 _ rfl; have hx10_1 : w11.cell? ⟨go10, (x4_1 : Int).toNat * 6 + 1, none⟩ = some (.int .i64 ((rd_T71 x3_1 x4_1).f1)) := hcc10 1 _ rfl; have hx10_2 : w11.cell? ⟨go10, (x4_1 : Int).toNat * 6 + 2, none⟩ = some (.int .i64 ((rd_T71 x3_1 x4_1).f2)) := hcc10 2 _ rfl; have hx10_3 : w11.cell? ⟨go10, (x4_1 : Int).toNat * 6 + 3, none⟩ = some (.int .i64 ((rd_T71 x3_1 x4_1).f3)) := hcc10 3 _ rfl; have hx10_4 : w11.cell? ⟨go10, (x4_1 : Int).toNat * 6 + 4, none⟩ = some (.string ((rd_T71 x3_1 x4_1).f4)) := hcc10 4 _ rfl; have hx10_5 : w11.cell? ⟨go10, (x4_1 : Int).toNat * 6 + 5, none⟩ = some (ve10_5) := hcc10 5 _ rfl; have hf10_0 : w11.frozen? ⟨go10, (x4_1 : Int).toNat * 6, none⟩ = false := hfr10 0; have hf10_1 : w11.frozen? ⟨go10, (x4_1 : Int).toNat * 6 + 1, none⟩ = false := hfr10 1; have hf10_2 : w11.frozen? ⟨go10, (x4_1 : Int).toNat * 6 + 2, none⟩ = false := hfr10 2; have hf10_3 : w11.frozen? ⟨go10, (x4_1 : Int).toNat * 6 + 3, none⟩ = false := hfr10 3; have hf10_4 : w11.frozen? ⟨go10, (x4_1 : Int).toNat * 6 + 4, none⟩ = false := hfr10 4; have hf10_5 : w11.frozen? ⟨go10, (x4_1 : Int).toNat * 6 + 5, none⟩ = false := hfr10 5; (try clear hM10); clear hcl10 hcc10 hfr10; replace p10 := eq_true p10; replace q10 := eq_true q10; have n_ := Aside0.mk (Kd.R_mono (ok' := (fun k_ => some k_ ≠ (v257 : Value).ownBlock)) HO_3.out (fun k_ hk => hk.2)); clear HO_3; have HO_3 := n_; clear n_; have HX12 := Aside0.mk (show Kd.R k71 71 w11 w.heap.size (fun _ => True) (.slice (some ⟨go10, 0, none⟩) x3_1.length co10) x3_1 from (by (with_reducible repeat (first | apply Kd.R_alloc | apply Kd.R_drewN | apply Kd.R_drew)); exact Kd.R_mono HO_3.out (fun _ hk => trivial))); obtain ⟨ce12, hcl12, hM12, hcc12, hfr12⟩ := Kd.R_elem HX12.out z71 (x4_1 : Int) (of_decide_eq_true (za _)) (by have h_ : (x4_1 : Int) < ((x3_1.length : Int) : Int) := of_decide_eq_true (za _); first | exact h_ | (have e_ := (Kd.R_reads' HO_3.out).1; omega) | simpa using h_); obtain ⟨ve12_5, rfl, ge12_5⟩ := k71_openM hM12; have HP12 := Kd.R_seg HX12.out (x4_1 : Int) (of_decide_eq_true (za _)) (by have h_ : (x4_1 : Int) < ((x3_1.length : Int) : Int) := of_decide_eq_true (za _); first | exact h_ | (have e_ := (Kd.R_reads' HO_3.out).1; omega) | simpa using h_) (seg := [.string t251, .int .i64 t252, .int .i64 t253, .int .i64 t254, .string t255, v257]) (j := 0) hcl12 hcc12 (show 6 ≤ 6 from by decide) (x' := (⟨t251, t252, t253, t254, t255, t256⟩ : S71)) (k71_mkM _ _ _ (⟨t251, t252, t253, t254, t255, t256⟩ : S71) (Kd.R_mono (Kd.R_apart' ((Kd.S_R HO258.out)) (Kd.R_typed HO_3.out) (by decide)) (fun k_ hk => ⟨trivial, fun e_ => (hk.2) (by rw [e_]; rfl)⟩))) (fun _ hk => hk); have hx12_0 := hcc12 0 _ rfl; (try simp only [show (k71).sz = 6 from rfl, Nat.mul_one, Nat.add_zero] at hx12_0); have hf12_0 := hfr12 0; (try simp only [show (k71).sz = 6 from rfl, Nat.mul_one, Nat.add_zero] at hf12_0); have hx12_1 := hcc12 1 _ rfl; (try simp only [show (k71).sz = 6 from rfl, Nat.mul_one, Nat.add_zero] at hx12_1); have hf12_1 := hfr12 1; (try simp only [show (k71).sz = 6 from rfl, Nat.mul_one, Nat.add_zero] at hf12_1); have hx12_2 := hcc12 2 _ rfl; (try simp only [show (k71).sz = 6 from rfl, Nat.mul_one, Nat.add_zero] at hx12_2); have hf12_2 := hfr12 2; (try simp only [show (k71).sz = 6 from rfl, Nat.mul_one, Nat.add_zero] at hf12_2); have hx12_3 := hcc12 3 _ rfl; (try simp only [show (k71).sz = 6 from rfl, Nat.mul_one, Nat.add_zero] at hx12_3); have hf12_3 := hfr12 3; (try simp only [show (k71).sz = 6 from rfl, Nat.mul_one, Nat.add_zero] at hf12_3); have hx12_4 := hcc12 4 _ rfl; (try simp only [show (k71).sz = 6 from rfl, Nat.mul_one, Nat.add_zero] at hx12_4); have hf12_4 := hfr12 4; (try simp only [show (k71).sz = 6 from rfl, Nat.mul_one, Nat.add_zero] at hf12_4); have hx12_5 := hcc12 5 _ rfl; (try simp only [show (k71).sz = 6 from rfl, Nat.mul_one, Nat.add_zero] at hx12_5); have hf12_5 := hfr12 5; (try simp only [show (k71).sz = 6 from rfl, Nat.mul_one, Nat.add_zero] at hf12_5); (try clear hM12); clear hcl12 hcc12 hfr12) | ((with_reducible refine gate_store (t := 71) (p := 21) rfl ?_); refine store_event (t := 71) (p := 21) (v := ?vo_w13) (w1 := ((((((w11.setCell ⟨go10, (x4_1 : Int).toNat * 6, none⟩ (.string t251)).setCell ⟨go10, (x4_1 : Int).toNat * 6 + 1, none⟩ (.int .i64 t252)).setCell ⟨go10, (x4_1 : Int).toNat * 6 + 2, none⟩ (.int .i64 t253)).setCell ⟨go10, (x4_1 : Int).toNat * 6 + 3, none⟩ (.int .i64 t254)).setCell ⟨go10, (x4_1 : Int).toNat * 6 + 4, none⟩ (.string t255)).setCell ⟨go10, (x4_1 : Int).toNat * 6 + 5, none⟩ (v257))) ?hg ?ho ?hn ?hr ?_; (case ho => rfl); (case hg => rfl); (case hn => rfl); (case hr => subst se_; first | (go_simp; done) | (go_simp; rfl)); intro w13 hw; have hg : w11.grownBy w13 (some go10) := (by rw [hw]; exact HP12.2); have hp_ : Kd.R k71 71 w13 w.heap.size (fun _ => True) (.slice (some ⟨go10, 0, none⟩) x3_1.length co10) y259 := (by rw [hw, Ny259.out]; exact HP12.1); clear HP12; replace HO_3 := Aside0.mk (hp_); replace HB := Aside0.mk ((by rw [hw]; exact below_set (below_set (below_set (below_set (below_set (below_set (HB.out) GB10.out) GB10.out) GB10.out) GB10.out) GB10.out) GB10.out : Below w.heap.size w w13)); clear HO258; clear hg hw hp_))
        go_roundg k1
        case measure => have := HK1.out; omega
        case rel => exact ⟨(y259), (wrap64 (x4_1 + 1)), (zE _), H', ⟨by have := HK1.out; omega⟩, ⟨by (with_reducible repeat (first | apply Kd.R_alloc | apply Kd.R_drewN | apply Kd.R_drew)); exact HO_3.out⟩, ⟨zb _⟩⟩
       ·rw [if_neg c9] at H
        exact absurd H (by simp)
      ·rw [if_neg c7] at H
       exact absurd H (by simp)
     ·rw [if_neg c6] at H
      have c6b0 : decide (x4_1 < (l0.length : Int)) = false := decide_eq_false c6
      clear c6
      obtain rfl := Option.some.inj H
      go_wp2
      go_ret
      exact ⟨_, by first | rfl | (simp [errW_none, errW_some] <;> rfl) | (simp [*, errW_none, errW_some] <;> rfl), by (with_reducible repeat (first | apply Kd.R_alloc | apply Kd.R_drewN | apply Kd.R_drew)); exact HO_3.out, zb _⟩
  ·rw [if_neg c3] at H
   exact absurd H (by simp)
 ·rw [if_neg c2] at H
  exact absurd H (by simp)

def laws_toOSym.f (a0_0 : ByteArray) (a0_1 : Int) (a0_2 : Int) (a0_3 : Bool) : Option (ByteArray × Int × Int × Bool) := some (a0_0, a0_1, a0_2, a0_3)
set_option maxHeartbeats 8000000 in
set_option maxRecDepth 100000 in
theorem laws_toOSym.calls (a0_0 : ByteArray) (a0_1 : Int) (a0_2 : Int) (a0_3 : Bool) (r1 : ByteArray) (r2 : Int) (r3 : Int) (r4 : Bool) (w : World) (h : laws_toOSym.f a0_0 a0_1 a0_2 a0_3 = some (r1, r2, r3, r4)) :
 Calls Tryz.prog 49 #[.agg #[.string a0_0, .int .i64 a0_1, .int .i64 a0_2, .bool a0_3]] w fun e w' => e = .returned (.agg #[.string r1, .int .i64 r2, .int .i64 r3, .bool r4]) ∧ Below w.heap.size w w' := by
 have hu65 := Tryz.underlying65
 have hu72 := Tryz.underlying72
 have HB := Aside0.mk (Below.refl w.heap.size w)
 have H : (some (a0_0, a0_1, a0_2, a0_3)) = some (r1, r2, r3, r4) := h
 clear h
 simp only [Option.some.injEq, Prod.mk.injEq] at H
 obtain ⟨rfl, rfl, rfl, rfl⟩ := H
 go_enter Tryz.func49, Tryz.ntmps49
 go_wp2_with (first | ((with_reducible refine gate_dst (N := 1) rfl ?_); refine zbx 1 #[.string a0_0, .int .i64 a0_1, .int .i64 a0_2, .bool a0_3] 65 ?_; intro gb260 hg w2 hbox hb; have BK260 := Aside0.mk (hbox); have GW260 := zs w hg; have GE260 := GW260; replace HB := zt w hb; clear hb hbox hg) | ((with_reducible refine gate_dst (N := 2) rfl ?_); refine zbx 2 #[.string (⟨#[]⟩ : ByteArray), .int .i64 0, .int .i64 0, .bool false] 72 ?_; intro gb261 hg w3 hbox hb; have BK261 := Aside0.mk (hbox); have GW261 := zs w hg; have GE261 := GW261; have NB260_261 := zlt BK260 hg; have NB261_260 := zgt (zlt BK260 hg); replace BK260 := zk BK260 hb; replace HB := zt w hb; clear hb hbox hg) | ((with_reducible refine gate_dst (N := 3) rfl ?_); refine zbx 3 #[.string (⟨#[]⟩ : ByteArray), .int .i64 0, .int .i64 0, .bool false] 72 ?_; intro gb262 hg w4 hbox hb; have BK262 := Aside0.mk (hbox); have GW262 := zs w hg; have GE262 := GW262; have NB260_262 := zlt BK260 hg; have NB262_260 := zgt (zlt BK260 hg); have NB261_262 := zlt BK261 hg; have NB262_261 := zgt (zlt BK261 hg); replace BK260 := zk BK260 hb; replace BK261 := zk BK261 hb; replace HB := zt w hb; clear hb hbox hg; have hnb5 := NB260_261.out; have hnc5 := NB261_260.out; have hnb6 := NB260_262.out; have hnc6 := NB262_260.out; have hcz7_0 := zc0 BK260; have hcz7_1 := zc1 BK260; have hcz7_2 := zc2 BK260; have hcz7_3 := zc3 BK260; have hfz7_0 := blk_frozen BK260.out 0; have hfz7_1 := blk_frozen BK260.out 1; have hfz7_2 := blk_frozen BK260.out 2; have hfz7_3 := blk_frozen BK260.out 3; have hnb8 := NB262_261.out; have hnc8 := NB261_262.out; have hcz9_0 := zc0 BK262; have hcz9_1 := zc1 BK262; have hcz9_2 := zc2 BK262; have hcz9_3 := zc3 BK262; have hfz9_0 := blk_frozen BK262.out 0; have hfz9_1 := blk_frozen BK262.out 1; have hfz9_2 := blk_frozen BK262.out 2; have hfz9_3 := blk_frozen BK262.out 3; have hcz10_0 := zc0 BK261; have hcz10_1 := zc1 BK261; have hcz10_2 := zc2 BK261; have hcz10_3 := zc3 BK261; have hfz10_0 := blk_frozen BK261.out 0; have hfz10_1 := blk_frozen BK261.out 1; have hfz10_2 := blk_frozen BK261.out 2; have hfz10_3 := blk_frozen BK261.out 3))
 refine bodyPost_ret (results_cell_row rfl _ _ gb261 72 #[.string a0_0, .int .i64 a0_1, .int .i64 a0_2, .bool a0_3] (0, 0) _ rfl (zw _) Tryz.underlying72 rfl (by kernel_rfl)) rfl ?_
 exact ⟨ze _, zb _⟩

def laws_toOSymS.l0 : Nat → List (S65) → List (S72) → Int → Option ((List (S72)))
  | 0, _, _, _ => none
  | k + 1, x0, x3, x4 => if x4 < (x0.length : Int) then (if 0 ≤ x4 then ((laws_toOSym.f ((rd_T65 x0 x4).f0) ((rd_T65 x0 x4).f1) ((rd_T65 x0 x4).f2) ((rd_T65 x0 x4).f3)).bind fun bt267 => (if x4 < (x3.length : Int) then (laws_toOSymS.l0 k x0 (x3.set (x4 : Int).toNat (⟨bt267.1, bt267.2.1, bt267.2.2.1, bt267.2.2.2⟩ : S72)) (wrap64 (x4 + 1))) else (none))) else (none)) else (some x3)
def laws_toOSymS.f (k : Nat) (l0 : List (S65)) : Option ((List (S72))) := if 0 ≤ (l0.length : Int) then (if ((l0.length : Int) : Int).toNat ≤ 7036874417766 then (laws_toOSymS.l0 k l0 (List.replicate ((l0.length : Int) : Int).toNat z72) 0) else (none)) else (none)
theorem laws_toOSymS.mono_l : ∀ k, (∀ y0 y1 y2, LeO (laws_toOSymS.l0 k y0 y1 y2) (laws_toOSymS.l0 (k + 1) y0 y1 y2))
  | 0 => fun _ _ _ r h => by simp [laws_toOSymS.l0] at h
  | k + 1 => by
    have ih0 := laws_toOSymS.mono_l k
    · intro y0 y1 y2
      unfold laws_toOSymS.l0
      repeat' with_reducible first | exact ih0 _ _ _ | exact LeO.refl _ | exact LeO.none _ | refine LeO.ite ?_ ?_ | refine LeO.bind ?_ (fun _ => ?_)
theorem laws_toOSymS.mono : ∀ a0 k, LeO (laws_toOSymS.f k a0) (laws_toOSymS.f (k + 1) a0) := by
  intro a0 k
  have ih0 := laws_toOSymS.mono_l k
  unfold laws_toOSymS.f
  repeat' with_reducible first | exact ih0 _ _ _ | exact LeO.refl _ | exact LeO.none _ | refine LeO.ite ?_ ?_ | refine LeO.bind ?_ (fun _ => ?_)
set_option maxHeartbeats 8000000 in
set_option maxRecDepth 100000 in
theorem laws_toOSymS.calls (k : Nat) (A0 : Option Addr) (c0 : Nat) (l0 : List (S65)) (r : List (S72)) (w : World) (hr0 : Kd.C k65 w A0 l0.length l0) (hc0 : l0.length ≤ c0) (h : laws_toOSymS.f k l0 = some r) :
 Calls Tryz.prog 20 #[.slice A0 l0.length c0] w fun e w' => ∃ v0_ : Value, e = .returned (v0_) ∧ Kd.R k72 72 w' w.heap.size (fun _ => True) v0_ r ∧ Below w.heap.size w w' := by
 have hu65 := Tryz.underlying65
 have hu72 := Tryz.underlying72
 have HR0 := Aside0.mk hr0
 have HC0 := Aside0.mk hc0
 clear hr0 hc0
 have HB := Aside0.mk (Below.refl w.heap.size w)
 have H : (if 0 ≤ (l0.length : Int) then (if ((l0.length : Int) : Int).toNat ≤ 7036874417766 then (laws_toOSymS.l0 k l0 (List.replicate ((l0.length : Int) : Int).toNat z72) 0) else (none)) else (none)) = some r := h
 clear h
 by_cases c2 : 0 ≤ (l0.length : Int)
 ·rw [if_pos c2] at H
  have c2b0 := eq_true c2
  have c2b1 : decide (0 ≤ (l0.length : Int)) = true := decide_eq_true c2
  clear c2
  by_cases c3 : ((l0.length : Int) : Int).toNat ≤ 7036874417766
  ·rw [if_pos c3] at H
   have c3b0 := eq_true c3
   have c3b1 : decide (((l0.length : Int) : Int).toNat ≤ 7036874417766) = true := decide_eq_true c3
   clear c3
   obtain ⟨y263, hy263⟩ : ∃ y_ : List (S72), y_ = (List.replicate ((l0.length : Int) : Int).toNat z72) := ⟨_, rfl⟩
   replace H : (laws_toOSymS.l0 k l0 y263 0) = some r := by first | (rw [hy263]; with_reducible exact H) | (have H2_ := (Option.bind_some _ _).symm.trans H; rw [hy263]; with_reducible exact H2_) | (have H2_ := (Option.bind_some _ _).symm.trans H; with_reducible exact H2_) | with_reducible exact H | (rw [hy263]; exact H) | exact H
   have Ny263 := Aside0.mk hy263
   clear hy263
   have H' := Aside0.mk H
   clear H
   go_enter Tryz.func20, Tryz.ntmps20
   go_wp2_with (first | ((with_reducible refine gate_dst (N := 7) rfl ?_); refine Kd.R_make k72 _ 72 rfl (N := 7) rfl 30 _ _ rfl (l0.length : Int) rfl rfl Tryz.underlying30 (.agg #[(.string ⟨#[]⟩), (.int .i64 0), (.int .i64 0), (.bool false)]) 40 info72 rfl (by decide) (by omega) z72 (ok := fun _ => True) (okp := fun _ => True) (k72_mkM _ _ _ z72 ) (fun _ hk => hk) trivial (of_decide_eq_true (za _)) (Nat.le_trans (Nat.mul_le_mul_right _ (of_decide_eq_true (za _) : (l0.length : Int).toNat ≤ 7036874417766)) (by omega)) (Below.refl _ _) (Nat.le_refl _) ?_; intro v264 w4 ho5 hb hg_ hnew_; clear hg_ hnew_; (first | rw [← Ny263.out] at ho5 | (simp only [Int.reduceToNat] at ho5; rw [← Ny263.out] at ho5)); have HO265 := Aside0.mk (Kd.R_lower ho5 (below_size (zb _))); replace HB := zt w hb; clear hb ho5))
   go_loopg [4] k (fun kq v4 w' => ∃ (x3_1 : List (S72)) (x4_1 : Int), v4 = .int .i64 x4_1 ∧ Aside0 (laws_toOSymS.l0 kq l0 x3_1 x4_1 = some r) ∧ Aside0 (kq ≤ k) ∧ Aside0 (Kd.R k72 72 w' w.heap.size (fun _ => True) v264 x3_1) ∧ Aside0 (Below w.heap.size w w'))
   case atStart => exact ⟨(y263), (0), (zE _), H', ⟨Nat.le_refl _⟩, ⟨by (with_reducible repeat (first | apply Kd.R_alloc | apply Kd.R_drewN | apply Kd.R_drew)); exact HO265.out⟩, ⟨zb _⟩⟩
   case round =>
    clear H'
    obtain ⟨x3_1, x4_1, rfl, HA, HK1, HO_3, HB⟩ := hrel
    cases gk with
    | zero => exact absurd HA.out (by simp [laws_toOSymS.l0])
    | succ k1 =>
     have H := HA.out
     clear HA
     simp only [laws_toOSymS.l0] at H
     by_cases c6 : x4_1 < (l0.length : Int)
     ·rw [if_pos c6] at H
      have c6b0 : decide (x4_1 < (l0.length : Int)) = true := decide_eq_true c6
      clear c6
      by_cases c7 : 0 ≤ x4_1
      ·rw [if_pos c7] at H
       have c7b0 : decide (0 ≤ x4_1) = true := decide_eq_true c7
       clear c7
       replace H := Option.bind_eq_some_iff.mp H
       obtain ⟨⟨t267, t268, t269, t270⟩, A80, H⟩ := H
       replace H : (if x4_1 < (x3_1.length : Int) then (laws_toOSymS.l0 k1 l0 (x3_1.set (x4_1 : Int).toNat (⟨t267, t268, t269, t270⟩ : S72)) (wrap64 (x4_1 + 1))) else (none)) = some r := H
       have A8 := Aside0.mk A80
       clear A80
       by_cases c9 : x4_1 < (x3_1.length : Int)
       ·rw [if_pos c9] at H
        have c9b0 : decide (x4_1 < (x3_1.length : Int)) = true := decide_eq_true c9
        clear c9
        obtain ⟨y271, hy271⟩ : ∃ y_ : List (S72), y_ = (x3_1.set (x4_1 : Int).toNat (⟨t267, t268, t269, t270⟩ : S72)) := ⟨_, rfl⟩
        replace H : (laws_toOSymS.l0 k1 l0 y271 (wrap64 (x4_1 + 1))) = some r := by first | (rw [hy271]; with_reducible exact H) | (have H2_ := (Option.bind_some _ _).symm.trans H; rw [hy271]; with_reducible exact H2_) | (have H2_ := (Option.bind_some _ _).symm.trans H; with_reducible exact H2_) | with_reducible exact H | (rw [hy271]; exact H) | exact H
        have Ny271 := Aside0.mk hy271
        clear hy271
        have H' := Aside0.mk H
        clear H
        have p266 : 0 ≤ (x4_1 : Int) := of_decide_eq_true (za _)
        have q266 : x4_1 < (l0.length : Int) := of_decide_eq_true (za _)
        obtain ⟨ad266, e266, hx266_0, hx266_1, hx266_2, hx266_3⟩ := at_T65 HR0.out x4_1 p266 q266
        cases e266
        replace hx266_0 := zx HB hx266_0
        replace hx266_1 := zx HB hx266_1
        replace hx266_2 := zx HB hx266_2
        replace hx266_3 := zx HB hx266_3
        replace p266 := eq_true p266
        replace q266 := eq_true q266
        go_wp2_with (first | ((with_reducible refine gate_callee (f := 49) rfl ?_); refine zc (some 20) Tryz.func49 #[.agg #[.string ((rd_T65 l0 x4_1).f0), .int .i64 ((rd_T65 l0 x4_1).f1), .int .i64 ((rd_T65 l0 x4_1).f2), .bool ((rd_T65 l0 x4_1).f3)]] ?_; (with_reducible refine (laws_toOSym.calls ((rd_T65 l0 x4_1).f0) ((rd_T65 l0 x4_1).f1) ((rd_T65 l0 x4_1).f2) ((rd_T65 l0 x4_1).f3) t267 t268 t269 t270 _ A8.out).mono ?_); rintro e w11 ⟨rfl, hb⟩; refine ⟨_, rfl, ?_⟩; replace HO_3 := Aside0.mk (Kd.R_below (by (with_reducible repeat (first | apply Kd.R_alloc | apply Kd.R_drewN | apply Kd.R_drew)); exact HO_3.out) hb); replace HB := zt w hb; (try clear hb); (try clear hb2); (try clear hk); (try clear hi); have p10 : 0 ≤ (x4_1 : Int) := of_decide_eq_true (za _); have q10 : (x4_1 : Int) < ((x3_1.length : Int) : Int) := of_decide_eq_true (za _); obtain ⟨go10, co10, eo10, gb10, gl10, cl10, HG10⟩ := Kd.R_form HO_3.out (by omega); (first | cases eo10 | (injection eo10 with ea_ en_ ec_; (first | subst ea_ | (injection ea_ with ea_; subst ea_)); subst ec_; clear en_)); have GB10 := Aside0.mk gb10; have GG10 := Aside0.mk HG10; clear gb10 gl10 HG10; obtain ⟨ce10, hcl10, hM10, hcc10, hfr10⟩ := Kd.R_elem HO_3.out z72 (x4_1 : Int) p10 q10; obtain rfl := k72_openM hM10; have hx10_0 : w11.cell? ⟨go10, (x4_1 : Int).toNat * 4, none⟩ = some (.string ((rd_T72 x3_1 x4_1).f0)) := hcc10 0 _ rfl; have hx10_1 : w11.cell? ⟨go10, (x4_1 : Int).toNat * 4 + 1, none⟩ = some (.int .i64 ((rd_T72 x3_1 x4_1).f1)) := hcc10 1 _ rfl; have hx10_2 : w11.cell? ⟨go10, (x4_1 : Int).toNat * 4 + 2, none⟩ = some (.int .i64 ((rd_T72 x3_1 x4_1).f2)) := hcc10 2 _ rfl; have hx10_3 : w11.cell? ⟨go10, (x4_1 : Int).toNat * 4 + 3, none⟩ = some (.bool ((rd_T72 x3_1 x4_1).f3)) := hcc10 3 _ rfl; have hf10_0 : w11.frozen? ⟨go10, (x4_1 : Int).toNat * 4, none⟩ = false := hfr10 0; have hf10_1 : w11.frozen? ⟨go10, (x4_1 : Int).toNat * 4 + 1, none⟩ = false := hfr10 1; have hf10_2 : w11.frozen? ⟨go10, (x4_1 : Int).toNat * 4 + 2, none⟩ = false := hfr10 2; have hf10_3 : w11.frozen? ⟨go10, (x4_1 : Int).toNat * 4 + 3, none⟩ = false := hfr10 3; (try clear hM10); clear hcl10 hcc10 hfr10; replace p10 := eq_true p10; replace q10 := eq_true q10; have HX12 := Aside0.mk (show Kd.R k72 72 w11 w.heap.size (fun _ => True) (.slice (some ⟨go10, 0, none⟩) x3_1.length co10) x3_1 from (by (with_reducible repeat (first | apply Kd.R_alloc | apply Kd.R_drewN | apply Kd.R_drew)); exact HO_3.out)); obtain ⟨ce12, hcl12, hM12, hcc12, hfr12⟩ := Kd.R_elem HX12.out z72 (x4_1 : Int) (of_decide_eq_true (za _)) (by have h_ : (x4_1 : Int) < ((x3_1.length : Int) : Int) := of_decide_eq_true (za _); first | exact h_ | (have e_ := (Kd.R_reads' HO_3.out).1; omega) | simpa using h_); obtain rfl := k72_openM hM12; have HP12 := Kd.R_seg HX12.out (x4_1 : Int) (of_decide_eq_true (za _)) (by have h_ : (x4_1 : Int) < ((x3_1.length : Int) : Int) := of_decide_eq_true (za _); first | exact h_ | (have e_ := (Kd.R_reads' HO_3.out).1; omega) | simpa using h_) (seg := [.string t267, .int .i64 t268, .int .i64 t269, .bool t270]) (j := 0) hcl12 hcc12 (show 4 ≤ 4 from by decide) (x' := (⟨t267, t268, t269, t270⟩ : S72)) (k72_mkM _ _ _ (⟨t267, t268, t269, t270⟩ : S72) ) (fun _ hk => hk); have hx12_0 := hcc12 0 _ rfl; (try simp only [show (k72).sz = 4 from rfl, Nat.mul_one, Nat.add_zero] at hx12_0); have hf12_0 := hfr12 0; (try simp only [show (k72).sz = 4 from rfl, Nat.mul_one, Nat.add_zero] at hf12_0); have hx12_1 := hcc12 1 _ rfl; (try simp only [show (k72).sz = 4 from rfl, Nat.mul_one, Nat.add_zero] at hx12_1); have hf12_1 := hfr12 1; (try simp only [show (k72).sz = 4 from rfl, Nat.mul_one, Nat.add_zero] at hf12_1); have hx12_2 := hcc12 2 _ rfl; (try simp only [show (k72).sz = 4 from rfl, Nat.mul_one, Nat.add_zero] at hx12_2); have hf12_2 := hfr12 2; (try simp only [show (k72).sz = 4 from rfl, Nat.mul_one, Nat.add_zero] at hf12_2); have hx12_3 := hcc12 3 _ rfl; (try simp only [show (k72).sz = 4 from rfl, Nat.mul_one, Nat.add_zero] at hx12_3); have hf12_3 := hfr12 3; (try simp only [show (k72).sz = 4 from rfl, Nat.mul_one, Nat.add_zero] at hf12_3); (try clear hM12); clear hcl12 hcc12 hfr12) | ((with_reducible refine gate_store (t := 72) (p := 21) rfl ?_); refine store_event (t := 72) (p := 21) (v := ?vo_w13) (w1 := ((((w11.setCell ⟨go10, (x4_1 : Int).toNat * 4, none⟩ (.string t267)).setCell ⟨go10, (x4_1 : Int).toNat * 4 + 1, none⟩ (.int .i64 t268)).setCell ⟨go10, (x4_1 : Int).toNat * 4 + 2, none⟩ (.int .i64 t269)).setCell ⟨go10, (x4_1 : Int).toNat * 4 + 3, none⟩ (.bool t270))) ?hg ?ho ?hn ?hr ?_; (case ho => rfl); (case hg => rfl); (case hn => rfl); (case hr => first | (go_simp; done) | (go_simp; rfl)); intro w13 hw; have hg : w11.grownBy w13 (some go10) := (by rw [hw]; exact HP12.2); have hp_ : Kd.R k72 72 w13 w.heap.size (fun _ => True) (.slice (some ⟨go10, 0, none⟩) x3_1.length co10) y271 := (by rw [hw, Ny271.out]; exact HP12.1); clear HP12; replace HO_3 := Aside0.mk (hp_); replace HB := Aside0.mk ((by rw [hw]; exact below_set (below_set (below_set (below_set (HB.out) GB10.out) GB10.out) GB10.out) GB10.out : Below w.heap.size w w13)); clear hg hw hp_))
        go_roundg k1
        case measure => have := HK1.out; omega
        case rel => exact ⟨(y271), (wrap64 (x4_1 + 1)), (zE _), H', ⟨by have := HK1.out; omega⟩, ⟨by (with_reducible repeat (first | apply Kd.R_alloc | apply Kd.R_drewN | apply Kd.R_drew)); exact HO_3.out⟩, ⟨zb _⟩⟩
       ·rw [if_neg c9] at H
        exact absurd H (by simp)
      ·rw [if_neg c7] at H
       exact absurd H (by simp)
     ·rw [if_neg c6] at H
      have c6b0 : decide (x4_1 < (l0.length : Int)) = false := decide_eq_false c6
      clear c6
      obtain rfl := Option.some.inj H
      go_wp2
      go_ret
      exact ⟨_, by first | rfl | (simp [errW_none, errW_some] <;> rfl) | (simp [*, errW_none, errW_some] <;> rfl), by (with_reducible repeat (first | apply Kd.R_alloc | apply Kd.R_drewN | apply Kd.R_drew)); exact HO_3.out, zb _⟩
  ·rw [if_neg c3] at H
   exact absurd H (by simp)
 ·rw [if_neg c2] at H
  exact absurd H (by simp)

def laws_toENodeSS.l0 : Nat → List (List (S119)) → List (List (S124)) → Int → Option ((List (List (S124))))
  | 0, _, _, _ => none
  | k + 1, x0, x3, x4 => if x4 < (x0.length : Int) then (if 0 ≤ x4 then ((laws_toENodeS.f k (rd_L3 x0 x4)).bind fun t276 => (if x4 < (x3.length : Int) then (laws_toENodeSS.l0 k x0 (x3.set (x4 : Int).toNat t276) (wrap64 (x4 + 1))) else (none))) else (none)) else (some x3)
def laws_toENodeSS.f (k : Nat) (l0 : List (List (S119))) : Option ((List (List (S124)))) := if 0 ≤ (l0.length : Int) then (if ((l0.length : Int) : Int).toNat ≤ 11728124029610 then (laws_toENodeSS.l0 k l0 (List.replicate ((l0.length : Int) : Int).toNat []) 0) else (none)) else (none)
theorem laws_toENodeSS.mono_l : ∀ k, (∀ y0 y1 y2, LeO (laws_toENodeSS.l0 k y0 y1 y2) (laws_toENodeSS.l0 (k + 1) y0 y1 y2))
  | 0 => fun _ _ _ r h => by simp [laws_toENodeSS.l0] at h
  | k + 1 => by
    have ih0 := laws_toENodeSS.mono_l k
    · intro y0 y1 y2
      unfold laws_toENodeSS.l0
      repeat' with_reducible first | exact ih0 _ _ _ | exact laws_toENodeS.mono _ _ | exact LeO.refl _ | exact LeO.none _ | refine LeO.ite ?_ ?_ | refine LeO.bind ?_ (fun _ => ?_)
theorem laws_toENodeSS.mono : ∀ a0 k, LeO (laws_toENodeSS.f k a0) (laws_toENodeSS.f (k + 1) a0) := by
  intro a0 k
  have ih0 := laws_toENodeSS.mono_l k
  unfold laws_toENodeSS.f
  repeat' with_reducible first | exact ih0 _ _ _ | exact laws_toENodeS.mono _ _ | exact LeO.refl _ | exact LeO.none _ | refine LeO.ite ?_ ?_ | refine LeO.bind ?_ (fun _ => ?_)
set_option maxHeartbeats 8000000 in
set_option maxRecDepth 100000 in
theorem laws_toENodeSS.calls (k : Nat) (A0 : Option Addr) (c0 : Nat) (l0 : List (List (S119))) (r : List (List (S124))) (w : World) (hr0 : Kd.C (Kd.slice 119 k119) w A0 l0.length l0) (hc0 : l0.length ≤ c0) (h : laws_toENodeSS.f k l0 = some r) :
 Calls Tryz.prog 21 #[.slice A0 l0.length c0] w fun e w' => ∃ v0_ : Value, e = .returned (v0_) ∧ Kd.S (Kd.slice 124 k124) 75 w' w.heap.size (fun _ => True) v0_ r ∧ Below w.heap.size w w' := by
 have HR0 := Aside0.mk hr0
 have HC0 := Aside0.mk hc0
 clear hr0 hc0
 have HB := Aside0.mk (Below.refl w.heap.size w)
 have H : (if 0 ≤ (l0.length : Int) then (if ((l0.length : Int) : Int).toNat ≤ 11728124029610 then (laws_toENodeSS.l0 k l0 (List.replicate ((l0.length : Int) : Int).toNat []) 0) else (none)) else (none)) = some r := h
 clear h
 by_cases c2 : 0 ≤ (l0.length : Int)
 ·rw [if_pos c2] at H
  have c2b0 := eq_true c2
  have c2b1 : decide (0 ≤ (l0.length : Int)) = true := decide_eq_true c2
  clear c2
  by_cases c3 : ((l0.length : Int) : Int).toNat ≤ 11728124029610
  ·rw [if_pos c3] at H
   have c3b0 := eq_true c3
   have c3b1 : decide (((l0.length : Int) : Int).toNat ≤ 11728124029610) = true := decide_eq_true c3
   clear c3
   obtain ⟨y272, hy272⟩ : ∃ y_ : List (List (S124)), y_ = (List.replicate ((l0.length : Int) : Int).toNat []) := ⟨_, rfl⟩
   replace H : (laws_toENodeSS.l0 k l0 y272 0) = some r := by first | (rw [hy272]; with_reducible exact H) | (have H2_ := (Option.bind_some _ _).symm.trans H; rw [hy272]; with_reducible exact H2_) | (have H2_ := (Option.bind_some _ _).symm.trans H; with_reducible exact H2_) | with_reducible exact H | (rw [hy272]; exact H) | exact H
   have Ny272 := Aside0.mk hy272
   clear hy272
   have H' := Aside0.mk H
   clear H
   go_enter Tryz.func21, Tryz.ntmps21
   go_wp2_with (first | ((with_reducible refine gate_dst (N := 7) rfl ?_); refine Kd.S_make (Kd.slice 124 k124) _ 75 rfl (N := 7) rfl 31 _ _ rfl (l0.length : Int) rfl rfl Tryz.underlying31 (.slice none 0 0) 24 info75 rfl (by decide) (by omega) [] (ok := fun _ => True) (okp := fun _ => True) ⟨_, rfl, Kd.R_nil _ _ _ _ _⟩ (fun _ hk => hk) trivial (of_decide_eq_true (za _)) (Nat.le_trans (Nat.mul_le_mul_right _ (of_decide_eq_true (za _) : (l0.length : Int).toNat ≤ 11728124029610)) (by omega)) (Below.refl _ _) (Nat.le_refl _) ?_; intro v273 w4 ho5 hb hg_ hnew_; clear hg_ hnew_; (first | rw [← Ny272.out] at ho5 | (simp only [Int.reduceToNat] at ho5; rw [← Ny272.out] at ho5)); have HO274 := Aside0.mk (Kd.S_lower ho5 (below_size (zb _))); replace HB := zt w hb; clear hb ho5))
   go_loopg [4] k (fun kq v4 w' => ∃ (x3_1 : List (List (S124))) (x4_1 : Int), v4 = .int .i64 x4_1 ∧ Aside0 (laws_toENodeSS.l0 kq l0 x3_1 x4_1 = some r) ∧ Aside0 (kq ≤ k) ∧ Aside0 (Kd.S (Kd.slice 124 k124) 75 w' w.heap.size (fun _ => True) v273 x3_1) ∧ Aside0 (Below w.heap.size w w'))
   case atStart => exact ⟨(y272), (0), (zE _), H', ⟨Nat.le_refl _⟩, ⟨by (with_reducible repeat (first | apply Kd.S_alloc | apply Kd.S_drewN | apply Kd.S_drew)); exact HO274.out⟩, ⟨zb _⟩⟩
   case round =>
    clear H'
    obtain ⟨x3_1, x4_1, rfl, HA, HK1, HO_3, HB⟩ := hrel
    cases gk with
    | zero => exact absurd HA.out (by simp [laws_toENodeSS.l0])
    | succ k1 =>
     have H := HA.out
     clear HA
     simp only [laws_toENodeSS.l0] at H
     by_cases c6 : x4_1 < (l0.length : Int)
     ·rw [if_pos c6] at H
      have c6b0 : decide (x4_1 < (l0.length : Int)) = true := decide_eq_true c6
      clear c6
      by_cases c7 : 0 ≤ x4_1
      ·rw [if_pos c7] at H
       have c7b0 : decide (0 ≤ x4_1) = true := decide_eq_true c7
       clear c7
       obtain ⟨t276, A80, H⟩ := Option.bind_eq_some_iff.mp H
       have A8 := Aside0.mk A80
       clear A80
       by_cases c9 : x4_1 < (x3_1.length : Int)
       ·rw [if_pos c9] at H
        have c9b0 : decide (x4_1 < (x3_1.length : Int)) = true := decide_eq_true c9
        clear c9
        obtain ⟨y279, hy279⟩ : ∃ y_ : List (List (S124)), y_ = (x3_1.set (x4_1 : Int).toNat t276) := ⟨_, rfl⟩
        replace H : (laws_toENodeSS.l0 k1 l0 y279 (wrap64 (x4_1 + 1))) = some r := by first | (rw [hy279]; with_reducible exact H) | (have H2_ := (Option.bind_some _ _).symm.trans H; rw [hy279]; with_reducible exact H2_) | (have H2_ := (Option.bind_some _ _).symm.trans H; with_reducible exact H2_) | with_reducible exact H | (rw [hy279]; exact H) | exact H
        have Ny279 := Aside0.mk hy279
        clear hy279
        have H' := Aside0.mk H
        clear H
        have p275 : 0 ≤ (x4_1 : Int) := of_decide_eq_true (za _)
        have q275 : x4_1 < (l0.length : Int) := of_decide_eq_true (za _)
        obtain ⟨ad275, A275_0, c275_0, e275, hx275_0, hl275_0, hi275_0⟩ := at_L3 HR0.out x4_1 p275 q275
        cases e275
        replace hx275_0 := zx HB hx275_0
        have HR275_0 := Aside0.mk hi275_0
        have HC275_0 := Aside0.mk hl275_0
        clear hi275_0 hl275_0
        replace p275 := eq_true p275
        replace q275 := eq_true q275
        go_wp2_with (first | ((with_reducible refine gate_callee (f := 50) rfl ?_); refine zc (some 20) Tryz.func50 #[.slice A275_0 (rd_L3 l0 x4_1).length c275_0] ?_; (with_reducible refine (laws_toENodeS.calls k1 _ _ (rd_L3 l0 x4_1) t276 _ ?side1 ?side2 A8.out).mono ?_); (case side1 => repeat (first | exact (Kd.C_below HR275_0.out HB.out) | (with_reducible refine Kd.C_alloc ?_ _) | (with_reducible refine Kd.C_drewN ?_ _) | (with_reducible refine Kd.C_drew ?_))); (case side2 => exact HC275_0.out); rintro e w11 ⟨v277, rfl, ho0, hb⟩; obtain ⟨sa_, sc_, se_⟩ := Kd.R_slice ho0; refine ⟨_, rfl, ?_⟩; have HO278 := Aside0.mk (Kd.R_lower ho0 (below_size (zb _))); replace HO_3 := Aside0.mk (Kd.S_elder' (by (with_reducible repeat (first | apply Kd.S_alloc | apply Kd.S_drewN | apply Kd.S_drew)); exact HO_3.out) (Kd.R_base ho0) hb); replace HB := zt w hb; (try clear hb); (try clear hb2); (try clear hk); (try clear hi); (try clear ho0); have p10 : 0 ≤ (x4_1 : Int) := of_decide_eq_true (za _); have q10 : (x4_1 : Int) < ((x3_1.length : Int) : Int) := of_decide_eq_true (za _); obtain ⟨go10, co10, eo10, gb10, gl10, cl10, HG10⟩ := Kd.S_form HO_3.out (by omega); (first | cases eo10 | (injection eo10 with ea_ en_ ec_; (first | subst ea_ | (injection ea_ with ea_; subst ea_)); subst ec_; clear en_)); have GB10 := Aside0.mk gb10; have GG10 := Aside0.mk HG10; clear gb10 gl10 HG10; obtain ⟨_, ce10, hcl10, hM10, hcc10, hfr10, _, _⟩ := Kd.S_elem HO_3.out [] (x4_1 : Int) p10 q10; obtain ⟨ve10_0, rfl, ge10_0⟩ := hM10; have hx10_0 := hcc10 0 _ rfl; have hf10_0 := hfr10 0; (try simp only [show ((Kd.slice 124 k124)).sz = 1 from rfl, Nat.mul_one, Nat.add_zero] at hx10_0); (try simp only [show ((Kd.slice 124 k124)).sz = 1 from rfl, Nat.mul_one, Nat.add_zero] at hf10_0); (try clear hM10); clear hcl10 hcc10 hfr10; replace p10 := eq_true p10; replace q10 := eq_true q10; have n_ := Aside0.mk (Kd.S_mono (ok' := (fun k_ => some k_ ≠ (v277 : Value).ownBlock)) HO_3.out (fun k_ hk => hk.2)); clear HO_3; have HO_3 := n_; clear n_; have HX12 := Aside0.mk (show Kd.S (Kd.slice 124 k124) 75 w11 w.heap.size (fun k_ => ((fun _ => True)) k_ ∧ ¬ ((fun k_ => some k_ = (v277 : Value).ownBlock)) k_) (.slice (some ⟨go10, 0, none⟩) x3_1.length co10) x3_1 from (by (with_reducible repeat (first | apply Kd.S_alloc | apply Kd.S_drewN | apply Kd.S_drew)); exact Kd.S_mono HO_3.out (fun k_ hk => ⟨trivial, fun e_ => hk e_⟩))); obtain ⟨oki12, ce12, hcl12, hM12, hcc12, hfr12, hoki12, hH12⟩ := Kd.S_elem HX12.out [] (x4_1 : Int) (of_decide_eq_true (za _)) (by have h_ : (x4_1 : Int) < ((x3_1.length : Int) : Int) := of_decide_eq_true (za _); first | exact h_ | (have e_ := (Kd.S_reads' HO_3.out).1; omega) | simpa using h_); obtain ⟨ve12_0, rfl, ge12_0⟩ := hM12; have HP12 := Kd.S_seg hH12 (of_decide_eq_true (za _)) (by have h_ : (x4_1 : Int) < ((x3_1.length : Int) : Int) := of_decide_eq_true (za _); first | exact h_ | (have e_ := (Kd.S_reads' HO_3.out).1; omega) | simpa using h_) (seg := [v277]) (j := 0) (show 1 ≤ 1 from by decide) (x' := t276) (Kd.M_row (Kd.R_mono (Kd.R_tight rfl (Kd.R_mono (ok' := fun k_ => ((fun _ => True)) k_ ∧ k_ ≠ go10) (Kd.R_apart' (HO278.out) (Kd.S_typed HO_3.out) (by decide)) (fun k_ hk => ⟨trivial, fun e_ => (hk.2) (by rw [e_]; rfl)⟩))) (fun _ h_ => Or.inr (h_)))) (fun _ hk => hk) (fun k_ hk_ => ((Kd.R_mono (ok' := fun k_ => ((fun _ => True)) k_ ∧ k_ ≠ go10) (Kd.R_apart' (HO278.out) (Kd.S_typed HO_3.out) (by decide)) (fun k_ hk => ⟨trivial, fun e_ => (hk.2) (by rw [e_]; rfl)⟩))).1 k_ hk_.symm); have hx12_0 := hcc12 0 _ rfl; (try simp only [show ((Kd.slice 124 k124)).sz = 1 from rfl, Nat.mul_one, Nat.add_zero] at hx12_0); have hf12_0 := hfr12 0; (try simp only [show ((Kd.slice 124 k124)).sz = 1 from rfl, Nat.mul_one, Nat.add_zero] at hf12_0); (try clear hM12); clear hcl12 hcc12 hfr12 hoki12 hH12; (try simp only [show ((Kd.slice 124 k124)).sz = 1 from rfl, Nat.mul_one, Nat.add_zero] at HP12)) | ((with_reducible refine gate_store (t := 75) (p := 21) rfl ?_); refine store_event (t := 75) (p := 21) (v := ?vo_w13) (w1 := (w11.setCell ⟨go10, (x4_1 : Int).toNat, none⟩ (v277))) ?hg ?ho ?hn ?hr ?_; (case ho => rfl); (case hg => rfl); (case hn => rfl); (case hr => subst se_; first | (go_simp; done) | (go_simp; rfl)); intro w13 hw; have hg : w11.grownBy w13 (some go10) := (by rw [hw]; exact HP12.2); have hp_ : Kd.S (Kd.slice 124 k124) 75 w13 w.heap.size (fun _ => True) (.slice (some ⟨go10, 0, none⟩) x3_1.length co10) y279 := (by rw [hw, Ny279.out]; exact HP12.1); clear HP12; replace HO_3 := Aside0.mk (hp_); replace HB := Aside0.mk ((by rw [hw]; exact below_set (HB.out) GB10.out : Below w.heap.size w w13)); clear HO278; clear hg hw hp_))
        go_roundg k1
        case measure => have := HK1.out; omega
        case rel => exact ⟨(y279), (wrap64 (x4_1 + 1)), (zE _), H', ⟨by have := HK1.out; omega⟩, ⟨by (with_reducible repeat (first | apply Kd.S_alloc | apply Kd.S_drewN | apply Kd.S_drew)); exact HO_3.out⟩, ⟨zb _⟩⟩
       ·rw [if_neg c9] at H
        exact absurd H (by simp)
      ·rw [if_neg c7] at H
       exact absurd H (by simp)
     ·rw [if_neg c6] at H
      have c6b0 : decide (x4_1 < (l0.length : Int)) = false := decide_eq_false c6
      clear c6
      obtain rfl := Option.some.inj H
      go_wp2
      go_ret
      exact ⟨_, by first | rfl | (simp [errW_none, errW_some] <;> rfl) | (simp [*, errW_none, errW_some] <;> rfl), by (with_reducible repeat (first | apply Kd.S_alloc | apply Kd.S_drewN | apply Kd.S_drew)); exact HO_3.out, zb _⟩
  ·rw [if_neg c3] at H
   exact absurd H (by simp)
 ·rw [if_neg c2] at H
  exact absurd H (by simp)

end Go.Proofs.YtlacpadpdfccmaaGreatDoor.PFnExactObjectText
