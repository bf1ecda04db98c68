-- PRINTED BY print.sh 35421559b90ae4d0a3588c463048766b98c2df88dd9212a6774a882060cdf62d: not written by this session
import Derived.Test.YtnchhhafdkpmaaaPFnExactAlux0
import Derived.Test.YtnchhhafdkpmaaaPFnExactAlux1
namespace Go.Proofs.Ytnchhhafdkpmaaa.PFnExactAlu
open Go.RowKit Go.Proofs.YtnchhhafdkpmaaaW.PrintWords Go.Proofs.YtnchhhafdkpmaaaW.PrintLast Go.Proofs.YtnchhhafdkpmaaaW.PrintMore
attribute [local go_sem] max2_int min2_int max_two min_two max_three min_three max_four min_four   -- for this text's walks alone
set_option linter.unusedVariables false
set_option linter.unusedSimpArgs false

/-! ### impl_Alu: function 26 -/
mutual
def impl_Alu.j0 : Nat → Int → Int → Int → Int → Bool → Option (Int × Int)
  | 0, _, _, _, _, _ => none
  | k + 1, x0, x1, x2, x3, x31 => if x31 = true then (some (0, 0)) else (if x0 = 1 then ((impl_has.f x3 16).bind fun t123 => (impl_Alu.j1 k x0 x1 x2 0 t123)) else (if x0 = 3 then ((impl_has.f x3 16).bind fun t124 => (impl_Alu.j1 k x0 x1 x2 0 t124)) else (impl_Alu.j1 k x0 x1 x2 0 false)))
def impl_Alu.j1 : Nat → Int → Int → Int → Int → Bool → Option (Int × Int)
  | 0, _, _, _, _, _ => none
  | k + 1, x0, x1, x2, x10, x41 => if x41 = true then (impl_Alu.j2 k x0 x1 x2 1) else (impl_Alu.j2 k x0 x1 x2 x10)
def impl_Alu.j2 : Nat → Int → Int → Int → Int → Option (Int × Int)
  | 0, _, _, _, _ => none
  | k + 1, x0, x1, x2, x10 => if x0 = 0 then (impl_Alu.j3 k x0 x1 x2 x10 x0 (x0 == 0)) else (impl_Alu.j3 k x0 x1 x2 x10 x0 (x0 == 1))
def impl_Alu.j3 : Nat → Int → Int → Int → Int → Int → Bool → Option (Int × Int)
  | 0, _, _, _, _, _, _ => none
  | k + 1, x0, x1, x2, x10, x42, x43 => if x43 = true then ((impl_flags.f k ((Go.bits .and .i64 (wrap64 ((wrap64 (x1 + x2)) + x10)) 255) == 0) false (decide ((wrap64 ((wrap64 ((Go.bits .and .i64 x1 15) + (Go.bits .and .i64 x2 15))) + x10)) > 15)) (decide ((wrap64 ((wrap64 (x1 + x2)) + x10)) > 255))).bind fun t125 => (some (Go.bits .and .i64 (wrap64 ((wrap64 (x1 + x2)) + x10)) 255, t125))) else (if x42 = 4 then ((impl_flags.f k ((Go.bits .and .i64 x1 x2) == 0) false true false).bind fun t126 => (some (Go.bits .and .i64 x1 x2, t126))) else (if x42 = 5 then ((impl_flags.f k ((Go.bits .xor .i64 x1 x2) == 0) false false false).bind fun t127 => (some (Go.bits .xor .i64 x1 x2, t127))) else (if x42 = 6 then ((impl_flags.f k ((Go.bits .or .i64 x1 x2) == 0) false false false).bind fun t128 => (some (Go.bits .or .i64 x1 x2, t128))) else (if x0 = 7 then ((impl_flags.f k ((Go.bits .and .i64 (wrap64 ((wrap64 (x1 - x2)) - x10)) 255) == 0) true (decide ((Go.bits .and .i64 x1 15) < (wrap64 ((Go.bits .and .i64 x2 15) + x10)))) (decide ((wrap64 ((wrap64 (x1 - x2)) - x10)) < 0))).bind fun t129 => (some (x1, t129))) else ((impl_flags.f k ((Go.bits .and .i64 (wrap64 ((wrap64 (x1 - x2)) - x10)) 255) == 0) true (decide ((Go.bits .and .i64 x1 15) < (wrap64 ((Go.bits .and .i64 x2 15) + x10)))) (decide ((wrap64 ((wrap64 (x1 - x2)) - x10)) < 0))).bind fun t130 => (some (Go.bits .and .i64 (wrap64 ((wrap64 (x1 - x2)) - x10)) 255, t130)))))))
end
def impl_Alu.f (k : Nat) (a0 : Int) (a1 : Int) (a2 : Int) (a3 : Int) : Option (Int × Int) := (impl_within.f a0 0 7).bind fun t119 => (if t119 = true then ((impl_isByte.f a1).bind fun t120 => (if t120 = true then ((impl_isByte.f a2).bind fun t121 => (if t121 = true then ((impl_isByte.f a3).bind fun t122 => (impl_Alu.j0 k a0 a1 a2 a3 (!t122))) else (impl_Alu.j0 k a0 a1 a2 a3 true))) else (impl_Alu.j0 k a0 a1 a2 a3 true))) else (impl_Alu.j0 k a0 a1 a2 a3 true))
theorem impl_Alu.mono_l : ∀ k, (∀ y0 y1 y2 y3 y4, LeO (impl_Alu.j0 k y0 y1 y2 y3 y4) (impl_Alu.j0 (k + 1) y0 y1 y2 y3 y4)) ∧ (∀ y0 y1 y2 y3 y4, LeO (impl_Alu.j1 k y0 y1 y2 y3 y4) (impl_Alu.j1 (k + 1) y0 y1 y2 y3 y4)) ∧ (∀ y0 y1 y2 y3, LeO (impl_Alu.j2 k y0 y1 y2 y3) (impl_Alu.j2 (k + 1) y0 y1 y2 y3)) ∧ (∀ y0 y1 y2 y3 y4 y5, LeO (impl_Alu.j3 k y0 y1 y2 y3 y4 y5) (impl_Alu.j3 (k + 1) y0 y1 y2 y3 y4 y5))
  | 0 => ⟨fun _ _ _ _ _ r h => by simp [impl_Alu.j0] at h, fun _ _ _ _ _ r h => by simp [impl_Alu.j1] at h, fun _ _ _ _ r h => by simp [impl_Alu.j2] at h, fun _ _ _ _ _ _ r h => by simp [impl_Alu.j3] at h⟩
  | k + 1 => by
    obtain ⟨ih0, ih1, ih2, ih3⟩ := impl_Alu.mono_l k
    refine ⟨?_, ?_, ?_, ?_⟩
    · intro y0 y1 y2 y3 y4
      unfold impl_Alu.j0
      repeat' first
      | (with_reducible exact ih0 _ _ _ _ _)
      | (with_reducible exact ih1 _ _ _ _ _)
      | (with_reducible exact ih2 _ _ _ _)
      | (with_reducible exact ih3 _ _ _ _ _ _)
      | (with_reducible exact impl_flags.mono _ _ _ _ _)
      | (with_reducible exact LeO.refl _)
      | (with_reducible exact LeO.none _)
      | (with_reducible refine LeO.ite ?_ ?_)
      | (with_reducible refine LeO.bind ?_ (fun _ => ?_))
      | exact ih0 _ _ _ _ _
      | exact ih1 _ _ _ _ _
      | exact ih2 _ _ _ _
      | exact ih3 _ _ _ _ _ _
      | exact impl_flags.mono _ _ _ _ _
      | exact LeO.none _
      | refine LeO.ite ?_ ?_
      | refine LeO.bind ?_ (fun _ => ?_)
    · intro y0 y1 y2 y3 y4
      unfold impl_Alu.j1
      repeat' first
      | (with_reducible exact ih0 _ _ _ _ _)
      | (with_reducible exact ih1 _ _ _ _ _)
      | (with_reducible exact ih2 _ _ _ _)
      | (with_reducible exact ih3 _ _ _ _ _ _)
      | (with_reducible exact impl_flags.mono _ _ _ _ _)
      | (with_reducible exact LeO.refl _)
      | (with_reducible exact LeO.none _)
      | (with_reducible refine LeO.ite ?_ ?_)
      | (with_reducible refine LeO.bind ?_ (fun _ => ?_))
      | exact ih0 _ _ _ _ _
      | exact ih1 _ _ _ _ _
      | exact ih2 _ _ _ _
      | exact ih3 _ _ _ _ _ _
      | exact impl_flags.mono _ _ _ _ _
      | exact LeO.none _
      | refine LeO.ite ?_ ?_
      | refine LeO.bind ?_ (fun _ => ?_)
    · intro y0 y1 y2 y3
      unfold impl_Alu.j2
      repeat' first
      | (with_reducible exact ih0 _ _ _ _ _)
      | (with_reducible exact ih1 _ _ _ _ _)
      | (with_reducible exact ih2 _ _ _ _)
      | (with_reducible exact ih3 _ _ _ _ _ _)
      | (with_reducible exact impl_flags.mono _ _ _ _ _)
      | (with_reducible exact LeO.refl _)
      | (with_reducible exact LeO.none _)
      | (with_reducible refine LeO.ite ?_ ?_)
      | (with_reducible refine LeO.bind ?_ (fun _ => ?_))
      | exact ih0 _ _ _ _ _
      | exact ih1 _ _ _ _ _
      | exact ih2 _ _ _ _
      | exact ih3 _ _ _ _ _ _
      | exact impl_flags.mono _ _ _ _ _
      | exact LeO.none _
      | refine LeO.ite ?_ ?_
      | refine LeO.bind ?_ (fun _ => ?_)
    · intro y0 y1 y2 y3 y4 y5
      unfold impl_Alu.j3
      repeat' first
      | (with_reducible exact ih0 _ _ _ _ _)
      | (with_reducible exact ih1 _ _ _ _ _)
      | (with_reducible exact ih2 _ _ _ _)
      | (with_reducible exact ih3 _ _ _ _ _ _)
      | (with_reducible exact impl_flags.mono _ _ _ _ _)
      | (with_reducible exact LeO.refl _)
      | (with_reducible exact LeO.none _)
      | (with_reducible refine LeO.ite ?_ ?_)
      | (with_reducible refine LeO.bind ?_ (fun _ => ?_))
      | exact ih0 _ _ _ _ _
      | exact ih1 _ _ _ _ _
      | exact ih2 _ _ _ _
      | exact ih3 _ _ _ _ _ _
      | exact impl_flags.mono _ _ _ _ _
      | exact LeO.none _
      | refine LeO.ite ?_ ?_
      | refine LeO.bind ?_ (fun _ => ?_)
theorem impl_Alu.mono : ∀ a0 a1 a2 a3 k, LeO (impl_Alu.f k a0 a1 a2 a3) (impl_Alu.f (k + 1) a0 a1 a2 a3) := by
  intro a0 a1 a2 a3 k
  obtain ⟨ih0, ih1, ih2, ih3⟩ := impl_Alu.mono_l k
  unfold impl_Alu.f
  repeat' first
      | (with_reducible exact ih0 _ _ _ _ _)
      | (with_reducible exact ih1 _ _ _ _ _)
      | (with_reducible exact ih2 _ _ _ _)
      | (with_reducible exact ih3 _ _ _ _ _ _)
      | (with_reducible exact impl_flags.mono _ _ _ _ _)
      | (with_reducible exact LeO.refl _)
      | (with_reducible exact LeO.none _)
      | (with_reducible refine LeO.ite ?_ ?_)
      | (with_reducible refine LeO.bind ?_ (fun _ => ?_))
      | exact ih0 _ _ _ _ _
      | exact ih1 _ _ _ _ _
      | exact ih2 _ _ _ _
      | exact ih3 _ _ _ _ _ _
      | exact impl_flags.mono _ _ _ _ _
      | exact LeO.none _
      | refine LeO.ite ?_ ?_
      | refine LeO.bind ?_ (fun _ => ?_)
set_option maxHeartbeats 8000000 in
set_option maxRecDepth 100000 in
theorem impl_Alu.calls (k : Nat) (a0 : Int) (a1 : Int) (a2 : Int) (a3 : Int) (r1 : Int) (r2 : Int) (w : World) (h : impl_Alu.f k a0 a1 a2 a3 = some (r1, r2)) :
    Calls Try.prog 26 #[.int .i64 a0, .int .i64 a1, .int .i64 a2, .int .i64 a3] w fun e w' => e = .returned (.tuple #[.int .i64 r1, .int .i64 r2]) ∧ Drawn0 w w' := by
  have H : ((impl_within.f a0 0 7).bind fun t119 => (if t119 = true then ((impl_isByte.f a1).bind fun t120 => (if t120 = true then ((impl_isByte.f a2).bind fun t121 => (if t121 = true then ((impl_isByte.f a3).bind fun t122 => (impl_Alu.j0 k a0 a1 a2 a3 (!t122))) else (impl_Alu.j0 k a0 a1 a2 a3 true))) else (impl_Alu.j0 k a0 a1 a2 a3 true))) else (impl_Alu.j0 k a0 a1 a2 a3 true))) = some (r1, r2) := h
  clear h
  have HC5 := Aside0.mk H
  clear H
  go_enter Try.func26, Try.ntmps26
  go_upto_region 1 with (fail)
  go_cut [31] (fun v31 wc => ∃ (kq : Nat) (x31_4 : Bool), v31 = .bool x31_4 ∧ Aside0 (impl_Alu.j0 kq a0 a1 a2 a3 x31_4 = some (r1, r2)) ∧ Aside0 (kq ≤ k) ∧ Drawn0 w wc)
  case first =>
    have H := HC5.out
    clear HC5
    replace H := Option.bind_eq_some_iff.mp H
    obtain ⟨t119, A60, H⟩ := H
    replace H : (if t119 = true then ((impl_isByte.f a1).bind fun t120 => (if t120 = true then ((impl_isByte.f a2).bind fun t121 => (if t121 = true then ((impl_isByte.f a3).bind fun t122 => (impl_Alu.j0 k a0 a1 a2 a3 (!t122))) else (impl_Alu.j0 k a0 a1 a2 a3 true))) else (impl_Alu.j0 k a0 a1 a2 a3 true))) else (impl_Alu.j0 k a0 a1 a2 a3 true)) = some (r1, r2) := H
    have A6 := Aside0.mk A60
    clear A60
    by_cases c7 : t119 = true
    · subst c7
      have H1 : ((impl_isByte.f a1).bind fun t120 => (if t120 = true then ((impl_isByte.f a2).bind fun t121 => (if t121 = true then ((impl_isByte.f a3).bind fun t122 => (impl_Alu.j0 k a0 a1 a2 a3 (!t122))) else (impl_Alu.j0 k a0 a1 a2 a3 true))) else (impl_Alu.j0 k a0 a1 a2 a3 true))) = some (r1, r2) := by rw [if_pos rfl] at H; exact H
      clear H
      have H := H1
      clear H1
      replace H := Option.bind_eq_some_iff.mp H
      obtain ⟨t120, A80, H⟩ := H
      replace H : (if t120 = true then ((impl_isByte.f a2).bind fun t121 => (if t121 = true then ((impl_isByte.f a3).bind fun t122 => (impl_Alu.j0 k a0 a1 a2 a3 (!t122))) else (impl_Alu.j0 k a0 a1 a2 a3 true))) else (impl_Alu.j0 k a0 a1 a2 a3 true)) = some (r1, r2) := H
      have A8 := Aside0.mk A80
      clear A80
      by_cases c9 : t120 = true
      · subst c9
        have H1 : ((impl_isByte.f a2).bind fun t121 => (if t121 = true then ((impl_isByte.f a3).bind fun t122 => (impl_Alu.j0 k a0 a1 a2 a3 (!t122))) else (impl_Alu.j0 k a0 a1 a2 a3 true))) = some (r1, r2) := by rw [if_pos rfl] at H; exact H
        clear H
        have H := H1
        clear H1
        replace H := Option.bind_eq_some_iff.mp H
        obtain ⟨t121, A100, H⟩ := H
        replace H : (if t121 = true then ((impl_isByte.f a3).bind fun t122 => (impl_Alu.j0 k a0 a1 a2 a3 (!t122))) else (impl_Alu.j0 k a0 a1 a2 a3 true)) = some (r1, r2) := H
        have A10 := Aside0.mk A100
        clear A100
        by_cases c11 : t121 = true
        · subst c11
          have H1 : ((impl_isByte.f a3).bind fun t122 => (impl_Alu.j0 k a0 a1 a2 a3 (!t122))) = some (r1, r2) := by rw [if_pos rfl] at H; exact H
          clear H
          have H := H1
          clear H1
          replace H := Option.bind_eq_some_iff.mp H
          obtain ⟨t122, A120, H⟩ := H
          replace H : (impl_Alu.j0 k a0 a1 a2 a3 (!t122)) = some (r1, r2) := H
          have A12 := Aside0.mk A120
          clear A120
          have H' := Aside0.mk H
          clear H
          go_wp2_with (first | ((with_reducible refine gate_callee (f := 67) rfl ?_); refine goesL_ (some 15) rfl rfl Try.func67 (by kernel_rfl) rfl #[.int .i64 a0, .int .i64 0, .int .i64 7] rfl (by (try simp only [List.map_toArray, List.map_cons, List.map_nil]); first | done | rfl | (simp only [List.length_drop, List.length_take]; rfl)) ?_; (with_reducible refine (impl_within.calls a0 0 7 true _ A6.out).mono ?_); rintro e w' ⟨rfl, ⟨nd, rfl⟩⟩; refine ⟨_, rfl, ?_⟩) | (go_at_call 53; (with_reducible refine (impl_isByte.calls a1 true _ A8.out).mono ?_); rintro e w' ⟨rfl, ⟨nd, rfl⟩⟩) | (go_at_call 53; (with_reducible refine (impl_isByte.calls a2 true _ A10.out).mono ?_); rintro e w' ⟨rfl, ⟨nd, rfl⟩⟩) | (go_at_call 53; (with_reducible refine (impl_isByte.calls a3 t122 _ A12.out).mono ?_); rintro e w' ⟨rfl, ⟨nd, rfl⟩⟩))
          go_meet
          case rel => exact ⟨_, (!t122), (by first | rfl | (simp; done) | (simp [*]; done)), H', ⟨by first | omega | exact Nat.le_refl _⟩, by repeat (first | exact Drawn0.refl _ | apply Drawn0.step)⟩
        · replace c11 := Bool.eq_false_iff.mpr c11
          subst c11
          have H1 : (impl_Alu.j0 k a0 a1 a2 a3 true) = some (r1, r2) := by rw [if_neg (show ¬ (false = true) by decide)] at H; exact H
          clear H
          have H := H1
          clear H1
          have H' := Aside0.mk H
          clear H
          go_wp2_with (first | ((with_reducible refine gate_callee (f := 67) rfl ?_); refine goesL_ (some 15) rfl rfl Try.func67 (by kernel_rfl) rfl #[.int .i64 a0, .int .i64 0, .int .i64 7] rfl (by (try simp only [List.map_toArray, List.map_cons, List.map_nil]); first | done | rfl | (simp only [List.length_drop, List.length_take]; rfl)) ?_; (with_reducible refine (impl_within.calls a0 0 7 true _ A6.out).mono ?_); rintro e w' ⟨rfl, ⟨nd, rfl⟩⟩; refine ⟨_, rfl, ?_⟩) | (go_at_call 53; (with_reducible refine (impl_isByte.calls a1 true _ A8.out).mono ?_); rintro e w' ⟨rfl, ⟨nd, rfl⟩⟩) | (go_at_call 53; (with_reducible refine (impl_isByte.calls a2 false _ A10.out).mono ?_); rintro e w' ⟨rfl, ⟨nd, rfl⟩⟩))
          go_meet
          case rel => exact ⟨_, (true), (by first | rfl | (simp; done) | (simp [*]; done)), H', ⟨by first | omega | exact Nat.le_refl _⟩, by repeat (first | exact Drawn0.refl _ | apply Drawn0.step)⟩
      · replace c9 := Bool.eq_false_iff.mpr c9
        subst c9
        have H1 : (impl_Alu.j0 k a0 a1 a2 a3 true) = some (r1, r2) := by rw [if_neg (show ¬ (false = true) by decide)] at H; exact H
        clear H
        have H := H1
        clear H1
        have H' := Aside0.mk H
        clear H
        go_wp2_with (first | ((with_reducible refine gate_callee (f := 67) rfl ?_); refine goesL_ (some 15) rfl rfl Try.func67 (by kernel_rfl) rfl #[.int .i64 a0, .int .i64 0, .int .i64 7] rfl (by (try simp only [List.map_toArray, List.map_cons, List.map_nil]); first | done | rfl | (simp only [List.length_drop, List.length_take]; rfl)) ?_; (with_reducible refine (impl_within.calls a0 0 7 true _ A6.out).mono ?_); rintro e w' ⟨rfl, ⟨nd, rfl⟩⟩; refine ⟨_, rfl, ?_⟩) | (go_at_call 53; (with_reducible refine (impl_isByte.calls a1 false _ A8.out).mono ?_); rintro e w' ⟨rfl, ⟨nd, rfl⟩⟩))
        go_meet
        case rel => exact ⟨_, (true), (by first | rfl | (simp; done) | (simp [*]; done)), H', ⟨by first | omega | exact Nat.le_refl _⟩, by repeat (first | exact Drawn0.refl _ | apply Drawn0.step)⟩
    · replace c7 := Bool.eq_false_iff.mpr c7
      subst c7
      have H1 : (impl_Alu.j0 k a0 a1 a2 a3 true) = some (r1, r2) := by rw [if_neg (show ¬ (false = true) by decide)] at H; exact H
      clear H
      have H := H1
      clear H1
      have H' := Aside0.mk H
      clear H
      go_wp2_with (first | ((with_reducible refine gate_callee (f := 67) rfl ?_); refine goesL_ (some 15) rfl rfl Try.func67 (by kernel_rfl) rfl #[.int .i64 a0, .int .i64 0, .int .i64 7] rfl (by (try simp only [List.map_toArray, List.map_cons, List.map_nil]); first | done | rfl | (simp only [List.length_drop, List.length_take]; rfl)) ?_; (with_reducible refine (impl_within.calls a0 0 7 false _ A6.out).mono ?_); rintro e w' ⟨rfl, ⟨nd, rfl⟩⟩; refine ⟨_, rfl, ?_⟩))
      go_meet
      case rel => exact ⟨_, (true), (by first | rfl | (simp; done) | (simp [*]; done)), H', ⟨by first | omega | exact Nat.le_refl _⟩, by repeat (first | exact Drawn0.refl _ | apply Drawn0.step)⟩
  case rest =>
    clear HC5
    try clear c1
    try clear c2
    try clear p2
    try clear c6
    try clear c7
    try clear c9
    try clear c11
    obtain ⟨kq, x31_4, rfl, HA, HJ4, ⟨mc4, rfl⟩⟩ := hcut
    cases kq with
    | zero => exact absurd HA.out (by simp [impl_Alu.j0])
    | succ kj4 =>
      have H := HA.out
      clear HA
      simp only [impl_Alu.j0] at H
      by_cases c13 : x31_4 = true
      · subst c13
        have H1 : (some (0, 0)) = some (r1, r2) := by rw [if_pos rfl] at H; exact H
        clear H
        have H := H1
        clear H1
        simp only [Option.some.injEq, Prod.mk.injEq] at H
        obtain ⟨rfl, rfl⟩ := H
        go_wp2
        go_ret2
        exact ⟨by first | rfl | (simp; done) | (simp [*]; done), by repeat (first | exact Drawn0.refl _ | apply Drawn0.step)⟩
      · replace c13 := Bool.eq_false_iff.mpr c13
        subst c13
        have H1 : (if a0 = 1 then ((impl_has.f a3 16).bind fun t123 => (impl_Alu.j1 kj4 a0 a1 a2 0 t123)) else (if a0 = 3 then ((impl_has.f a3 16).bind fun t124 => (impl_Alu.j1 kj4 a0 a1 a2 0 t124)) else (impl_Alu.j1 kj4 a0 a1 a2 0 false))) = some (r1, r2) := by rw [if_neg (show ¬ (false = true) by decide)] at H; exact H
        clear H
        have H := H1
        clear H1
        have HC14 := Aside0.mk H
        clear H
        go_upto_region 4 with (fail)
        go_cut [41] (fun v41 wc => ∃ (kq : Nat) (x41_13 : Bool), v41 = .bool x41_13 ∧ Aside0 (impl_Alu.j1 kq a0 a1 a2 0 x41_13 = some (r1, r2)) ∧ Aside0 (kq ≤ kj4) ∧ Drawn0 w wc)
        case first =>
          have H := HC14.out
          clear HC14
          by_cases c15 : a0 = 1
          · rw [if_pos c15] at H
            have c15b0 : (a0 == 1) = true := beq_iff_eq.mpr c15
            have c15b1 : (a0 != 1) = false := bne_eq_false_iff_eq.mpr c15
            clear c15
            (first | rw [c15b0] | (simp only [i64_w, i32_w]; rw [c15b0]) | skip)
            replace H := Option.bind_eq_some_iff.mp H
            obtain ⟨t123, A160, H⟩ := H
            replace H : (impl_Alu.j1 kj4 a0 a1 a2 0 t123) = some (r1, r2) := H
            have A16 := Aside0.mk A160
            clear A160
            have H' := Aside0.mk H
            clear H
            go_wp2_with (first | (go_at_call 57; (with_reducible refine (impl_has.calls a3 16 t123 _ A16.out).mono ?_); rintro e w' ⟨rfl, ⟨nd, rfl⟩⟩))
            go_meet
            case rel => exact ⟨_, (t123), (by first | rfl | (simp; done) | (simp [*]; done)), H', ⟨by have := HJ4.out; first | omega | exact Nat.le_refl _⟩, by repeat (first | exact Drawn0.refl _ | apply Drawn0.step)⟩
          · rw [if_neg c15] at H
            have c15b0 : (a0 == 1) = false := beq_eq_false_iff_ne.mpr c15
            have c15b1 : (a0 != 1) = true := bne_iff_ne.mpr c15
            (first | rw [c15b0] | (simp only [i64_w, i32_w]; rw [c15b0]) | skip)
            by_cases c17 : a0 = 3
            · rw [if_pos c17] at H
              have c17b0 : (a0 == 3) = true := beq_iff_eq.mpr c17
              have c17b1 : (a0 != 3) = false := bne_eq_false_iff_eq.mpr c17
              clear c17
              replace H := Option.bind_eq_some_iff.mp H
              obtain ⟨t124, A180, H⟩ := H
              replace H : (impl_Alu.j1 kj4 a0 a1 a2 0 t124) = some (r1, r2) := H
              have A18 := Aside0.mk A180
              clear A180
              have H' := Aside0.mk H
              clear H
              go_wp2_with (first | (go_at_call 57; (with_reducible refine (impl_has.calls a3 16 t124 _ A18.out).mono ?_); rintro e w' ⟨rfl, ⟨nd, rfl⟩⟩))
              go_meet
              case rel => exact ⟨_, (t124), (by first | rfl | (simp; done) | (simp [*]; done)), H', ⟨by have := HJ4.out; first | omega | exact Nat.le_refl _⟩, by repeat (first | exact Drawn0.refl _ | apply Drawn0.step)⟩
            · rw [if_neg c17] at H
              have c17b0 : (a0 == 3) = false := beq_eq_false_iff_ne.mpr c17
              have c17b1 : (a0 != 3) = true := bne_iff_ne.mpr c17
              have H' := Aside0.mk H
              clear H
              go_wp2
              go_meet
              case rel => exact ⟨_, (false), (by first | rfl | (simp; done) | (simp [*]; done)), H', ⟨by have := HJ4.out; first | omega | exact Nat.le_refl _⟩, by repeat (first | exact Drawn0.refl _ | apply Drawn0.step)⟩
        case rest =>
          clear HC14
          try clear c1
          try clear c2
          try clear p2
          try clear c4
          try clear c6
          try clear c7
          try clear c9
          try clear c11
          try clear c13
          try clear c15
          try clear c15b0
          try clear c15b1
          try clear c17
          try clear c17b0
          try clear c17b1
          try clear p2
          obtain ⟨kq, x41_13, rfl, HA, HJ13, ⟨mc13, rfl⟩⟩ := hcut
          cases kq with
          | zero => exact absurd HA.out (by simp [impl_Alu.j1])
          | succ kj13 =>
            have H := HA.out
            clear HA
            simp only [impl_Alu.j1] at H
            have HC19 := Aside0.mk H
            clear H
            go_upto_if 41 with (fail)
            go_cut [10] (fun v10 wc => ∃ (kq : Nat) (x10_18 : Int), v10 = .int .i64 x10_18 ∧ Aside0 (impl_Alu.j2 kq a0 a1 a2 x10_18 = some (r1, r2)) ∧ Aside0 (kq ≤ kj13) ∧ Drawn0 w wc)
            case first =>
              have H := HC19.out
              clear HC19
              by_cases c20 : x41_13 = true
              · subst c20
                have H1 : (impl_Alu.j2 kj13 a0 a1 a2 1) = some (r1, r2) := by rw [if_pos rfl] at H; exact H
                clear H
                have H := H1
                clear H1
                have H' := Aside0.mk H
                clear H
                go_wp2
                go_meet
                case rel => exact ⟨_, (1), (by first | rfl | (simp; done) | (simp [*]; done)), H', ⟨by have := HJ4.out; have := HJ13.out; first | omega | exact Nat.le_refl _⟩, by repeat (first | exact Drawn0.refl _ | apply Drawn0.step)⟩
              · replace c20 := Bool.eq_false_iff.mpr c20
                subst c20
                have H1 : (impl_Alu.j2 kj13 a0 a1 a2 0) = some (r1, r2) := by rw [if_neg (show ¬ (false = true) by decide)] at H; exact H
                clear H
                have H := H1
                clear H1
                have H' := Aside0.mk H
                clear H
                go_wp2
                go_meet
                case rel => exact ⟨_, (0), (by first | rfl | (simp; done) | (simp [*]; done)), H', ⟨by have := HJ4.out; have := HJ13.out; first | omega | exact Nat.le_refl _⟩, by repeat (first | exact Drawn0.refl _ | apply Drawn0.step)⟩
            case rest =>
              clear HC19
              try clear c1
              try clear c2
              try clear p2
              try clear c4
              try clear c6
              try clear c7
              try clear c9
              try clear c11
              try clear c13
              try clear c15
              try clear c15b0
              try clear c15b1
              try clear c17
              try clear c17b0
              try clear c17b1
              try clear c20
              try clear p2
              obtain ⟨kq, x10_18, rfl, HA, HJ18, ⟨mc18, rfl⟩⟩ := hcut
              cases kq with
              | zero => exact absurd HA.out (by simp [impl_Alu.j2])
              | succ kj18 =>
                have H := HA.out
                clear HA
                simp only [impl_Alu.j2] at H
                have HC21 := Aside0.mk H
                clear H
                go_upto_if 43 with (fail)
                go_cut [43] (fun v43 wc => ∃ (kq : Nat) (x43_20 : Bool), v43 = .bool x43_20 ∧ Aside0 (impl_Alu.j3 kq a0 a1 a2 x10_18 a0 x43_20 = some (r1, r2)) ∧ Aside0 (kq ≤ kj18) ∧ Drawn0 w wc)
                case first =>
                  have H := HC21.out
                  clear HC21
                  by_cases c22 : a0 = 0
                  · rw [if_pos c22] at H
                    have c22b0 : (a0 == 0) = true := beq_iff_eq.mpr c22
                    have c22b1 : (a0 != 0) = false := bne_eq_false_iff_eq.mpr c22
                    clear c22
                    (first | rw [c22b0] | (simp only [i64_w, i32_w]; rw [c22b0]) | skip)
                    have H' := Aside0.mk H
                    clear H
                    go_wp2
                    go_meet
                    case rel => exact ⟨_, ((a0 == 0)), (by first | rfl | (simp; done) | (simp [*]; done)), H', ⟨by have := HJ4.out; have := HJ13.out; have := HJ18.out; first | omega | exact Nat.le_refl _⟩, by repeat (first | exact Drawn0.refl _ | apply Drawn0.step)⟩
                  · rw [if_neg c22] at H
                    have c22b0 : (a0 == 0) = false := beq_eq_false_iff_ne.mpr c22
                    have c22b1 : (a0 != 0) = true := bne_iff_ne.mpr c22
                    (first | rw [c22b0] | (simp only [i64_w, i32_w]; rw [c22b0]) | skip)
                    have H' := Aside0.mk H
                    clear H
                    go_wp2
                    go_meet
                    case rel => exact ⟨_, ((a0 == 1)), (by first | rfl | (simp; done) | (simp [*]; done)), H', ⟨by have := HJ4.out; have := HJ13.out; have := HJ18.out; first | omega | exact Nat.le_refl _⟩, by repeat (first | exact Drawn0.refl _ | apply Drawn0.step)⟩
                case rest =>
                  clear HC21
                  try clear c1
                  try clear c2
                  try clear p2
                  try clear c4
                  try clear c6
                  try clear c7
                  try clear c9
                  try clear c11
                  try clear c13
                  try clear c15
                  try clear c15b0
                  try clear c15b1
                  try clear c17
                  try clear c17b0
                  try clear c17b1
                  try clear c18
                  try clear c20
                  try clear c22
                  try clear c22b0
                  try clear c22b1
                  try clear p2
                  obtain ⟨kq, x43_20, rfl, HA, HJ20, ⟨mc20, rfl⟩⟩ := hcut
                  cases kq with
                  | zero => exact absurd HA.out (by simp [impl_Alu.j3])
                  | succ kj20 =>
                    have H := HA.out
                    clear HA
                    simp only [impl_Alu.j3] at H
                    by_cases c23 : x43_20 = true
                    · subst c23
                      have H1 : ((impl_flags.f kj20 ((Go.bits .and .i64 (wrap64 ((wrap64 (a1 + a2)) + x10_18)) 255) == 0) false (decide ((wrap64 ((wrap64 ((Go.bits .and .i64 a1 15) + (Go.bits .and .i64 a2 15))) + x10_18)) > 15)) (decide ((wrap64 ((wrap64 (a1 + a2)) + x10_18)) > 255))).bind fun t125 => (some (Go.bits .and .i64 (wrap64 ((wrap64 (a1 + a2)) + x10_18)) 255, t125))) = some (r1, r2) := by rw [if_pos rfl] at H; exact H
                      clear H
                      have H := H1
                      clear H1
                      replace H := Option.bind_eq_some_iff.mp H
                      obtain ⟨t125, A240, H⟩ := H
                      replace H : (some (Go.bits .and .i64 (wrap64 ((wrap64 (a1 + a2)) + x10_18)) 255, t125)) = some (r1, r2) := H
                      have A24 := Aside0.mk A240
                      clear A240
                      simp only [Option.some.injEq, Prod.mk.injEq] at H
                      obtain ⟨rfl, rfl⟩ := H
                      go_wp2_with (first | ((with_reducible refine gate_callee (f := 55) rfl ?_); refine goesL_ (some 66) rfl rfl Try.func55 (by kernel_rfl) rfl #[.bool ((Go.bits .and .i64 (wrap64 ((wrap64 (a1 + a2)) + x10_18)) 255) == 0), .bool false, .bool (decide ((wrap64 ((wrap64 ((Go.bits .and .i64 a1 15) + (Go.bits .and .i64 a2 15))) + x10_18)) > 15)), .bool (decide ((wrap64 ((wrap64 (a1 + a2)) + x10_18)) > 255))] rfl (by (try simp only [List.map_toArray, List.map_cons, List.map_nil]); first | done | rfl | (simp only [List.length_drop, List.length_take]; rfl)) ?_; (with_reducible refine (impl_flags.calls kj20 ((Go.bits .and .i64 (wrap64 ((wrap64 (a1 + a2)) + x10_18)) 255) == 0) false (decide ((wrap64 ((wrap64 ((Go.bits .and .i64 a1 15) + (Go.bits .and .i64 a2 15))) + x10_18)) > 15)) (decide ((wrap64 ((wrap64 (a1 + a2)) + x10_18)) > 255)) t125 _ A24.out).mono ?_); rintro e w' ⟨rfl, ⟨nd, rfl⟩⟩; refine ⟨_, rfl, ?_⟩))
                      go_ret2
                      exact ⟨by first | rfl | (simp; done) | (simp [*]; done), by repeat (first | exact Drawn0.refl _ | apply Drawn0.step)⟩
                    · replace c23 := Bool.eq_false_iff.mpr c23
                      subst c23
                      have H1 : (if a0 = 4 then ((impl_flags.f kj20 ((Go.bits .and .i64 a1 a2) == 0) false true false).bind fun t126 => (some (Go.bits .and .i64 a1 a2, t126))) else (if a0 = 5 then ((impl_flags.f kj20 ((Go.bits .xor .i64 a1 a2) == 0) false false false).bind fun t127 => (some (Go.bits .xor .i64 a1 a2, t127))) else (if a0 = 6 then ((impl_flags.f kj20 ((Go.bits .or .i64 a1 a2) == 0) false false false).bind fun t128 => (some (Go.bits .or .i64 a1 a2, t128))) else (if a0 = 7 then ((impl_flags.f kj20 ((Go.bits .and .i64 (wrap64 ((wrap64 (a1 - a2)) - x10_18)) 255) == 0) true (decide ((Go.bits .and .i64 a1 15) < (wrap64 ((Go.bits .and .i64 a2 15) + x10_18)))) (decide ((wrap64 ((wrap64 (a1 - a2)) - x10_18)) < 0))).bind fun t129 => (some (a1, t129))) else ((impl_flags.f kj20 ((Go.bits .and .i64 (wrap64 ((wrap64 (a1 - a2)) - x10_18)) 255) == 0) true (decide ((Go.bits .and .i64 a1 15) < (wrap64 ((Go.bits .and .i64 a2 15) + x10_18)))) (decide ((wrap64 ((wrap64 (a1 - a2)) - x10_18)) < 0))).bind fun t130 => (some (Go.bits .and .i64 (wrap64 ((wrap64 (a1 - a2)) - x10_18)) 255, t130))))))) = some (r1, r2) := by rw [if_neg (show ¬ (false = true) by decide)] at H; exact H
                      clear H
                      have H := H1
                      clear H1
                      by_cases c25 : a0 = 4
                      · rw [if_pos c25] at H
                        have c25b0 : (a0 == 4) = true := beq_iff_eq.mpr c25
                        have c25b1 : (a0 != 4) = false := bne_eq_false_iff_eq.mpr c25
                        clear c25
                        replace H := Option.bind_eq_some_iff.mp H
                        obtain ⟨t126, A260, H⟩ := H
                        replace H : (some (Go.bits .and .i64 a1 a2, t126)) = some (r1, r2) := H
                        have A26 := Aside0.mk A260
                        clear A260
                        simp only [Option.some.injEq, Prod.mk.injEq] at H
                        obtain ⟨rfl, rfl⟩ := H
                        go_wp2_with (first | ((with_reducible refine gate_callee (f := 55) rfl ?_); refine goesL_ (some 76) rfl rfl Try.func55 (by kernel_rfl) rfl #[.bool ((Go.bits .and .i64 a1 a2) == 0), .bool false, .bool true, .bool false] rfl (by (try simp only [List.map_toArray, List.map_cons, List.map_nil]); first | done | rfl | (simp only [List.length_drop, List.length_take]; rfl)) ?_; (with_reducible refine (impl_flags.calls kj20 ((Go.bits .and .i64 a1 a2) == 0) false true false t126 _ A26.out).mono ?_); rintro e w' ⟨rfl, ⟨nd, rfl⟩⟩; refine ⟨_, rfl, ?_⟩))
                        go_ret2
                        exact ⟨by first | rfl | (simp; done) | (simp [*]; done), by repeat (first | exact Drawn0.refl _ | apply Drawn0.step)⟩
                      · rw [if_neg c25] at H
                        have c25b0 : (a0 == 4) = false := beq_eq_false_iff_ne.mpr c25
                        have c25b1 : (a0 != 4) = true := bne_iff_ne.mpr c25
                        by_cases c27 : a0 = 5
                        · rw [if_pos c27] at H
                          have c27b0 : (a0 == 5) = true := beq_iff_eq.mpr c27
                          have c27b1 : (a0 != 5) = false := bne_eq_false_iff_eq.mpr c27
                          clear c27
                          replace H := Option.bind_eq_some_iff.mp H
                          obtain ⟨t127, A280, H⟩ := H
                          replace H : (some (Go.bits .xor .i64 a1 a2, t127)) = some (r1, r2) := H
                          have A28 := Aside0.mk A280
                          clear A280
                          simp only [Option.some.injEq, Prod.mk.injEq] at H
                          obtain ⟨rfl, rfl⟩ := H
                          go_wp2_with (first | ((with_reducible refine gate_callee (f := 55) rfl ?_); refine goesL_ (some 86) rfl rfl Try.func55 (by kernel_rfl) rfl #[.bool ((Go.bits .xor .i64 a1 a2) == 0), .bool false, .bool false, .bool false] rfl (by (try simp only [List.map_toArray, List.map_cons, List.map_nil]); first | done | rfl | (simp only [List.length_drop, List.length_take]; rfl)) ?_; (with_reducible refine (impl_flags.calls kj20 ((Go.bits .xor .i64 a1 a2) == 0) false false false t127 _ A28.out).mono ?_); rintro e w' ⟨rfl, ⟨nd, rfl⟩⟩; refine ⟨_, rfl, ?_⟩))
                          go_ret2
                          exact ⟨by first | rfl | (simp; done) | (simp [*]; done), by repeat (first | exact Drawn0.refl _ | apply Drawn0.step)⟩
                        · rw [if_neg c27] at H
                          have c27b0 : (a0 == 5) = false := beq_eq_false_iff_ne.mpr c27
                          have c27b1 : (a0 != 5) = true := bne_iff_ne.mpr c27
                          by_cases c29 : a0 = 6
                          · rw [if_pos c29] at H
                            have c29b0 : (a0 == 6) = true := beq_iff_eq.mpr c29
                            have c29b1 : (a0 != 6) = false := bne_eq_false_iff_eq.mpr c29
                            clear c29
                            replace H := Option.bind_eq_some_iff.mp H
                            obtain ⟨t128, A300, H⟩ := H
                            replace H : (some (Go.bits .or .i64 a1 a2, t128)) = some (r1, r2) := H
                            have A30 := Aside0.mk A300
                            clear A300
                            simp only [Option.some.injEq, Prod.mk.injEq] at H
                            obtain ⟨rfl, rfl⟩ := H
                            go_wp2_with (first | ((with_reducible refine gate_callee (f := 55) rfl ?_); refine goesL_ (some 96) rfl rfl Try.func55 (by kernel_rfl) rfl #[.bool ((Go.bits .or .i64 a1 a2) == 0), .bool false, .bool false, .bool false] rfl (by (try simp only [List.map_toArray, List.map_cons, List.map_nil]); first | done | rfl | (simp only [List.length_drop, List.length_take]; rfl)) ?_; (with_reducible refine (impl_flags.calls kj20 ((Go.bits .or .i64 a1 a2) == 0) false false false t128 _ A30.out).mono ?_); rintro e w' ⟨rfl, ⟨nd, rfl⟩⟩; refine ⟨_, rfl, ?_⟩))
                            go_ret2
                            exact ⟨by first | rfl | (simp; done) | (simp [*]; done), by repeat (first | exact Drawn0.refl _ | apply Drawn0.step)⟩
                          · rw [if_neg c29] at H
                            have c29b0 : (a0 == 6) = false := beq_eq_false_iff_ne.mpr c29
                            have c29b1 : (a0 != 6) = true := bne_iff_ne.mpr c29
                            by_cases c31 : a0 = 7
                            · rw [if_pos c31] at H
                              have c31b0 : (a0 == 7) = true := beq_iff_eq.mpr c31
                              have c31b1 : (a0 != 7) = false := bne_eq_false_iff_eq.mpr c31
                              clear c31
                              replace H := Option.bind_eq_some_iff.mp H
                              obtain ⟨t129, A320, H⟩ := H
                              replace H : (some (a1, t129)) = some (r1, r2) := H
                              have A32 := Aside0.mk A320
                              clear A320
                              simp only [Option.some.injEq, Prod.mk.injEq] at H
                              obtain ⟨rfl, rfl⟩ := H
                              go_wp2_with (first | ((with_reducible refine gate_callee (f := 55) rfl ?_); refine goesL_ (some 120) rfl rfl Try.func55 (by kernel_rfl) rfl #[.bool ((Go.bits .and .i64 (wrap64 ((wrap64 (a1 - a2)) - x10_18)) 255) == 0), .bool true, .bool (decide ((Go.bits .and .i64 a1 15) < (wrap64 ((Go.bits .and .i64 a2 15) + x10_18)))), .bool (decide ((wrap64 ((wrap64 (a1 - a2)) - x10_18)) < 0))] rfl (by (try simp only [List.map_toArray, List.map_cons, List.map_nil]); first | done | rfl | (simp only [List.length_drop, List.length_take]; rfl)) ?_; (with_reducible refine (impl_flags.calls kj20 ((Go.bits .and .i64 (wrap64 ((wrap64 (a1 - a2)) - x10_18)) 255) == 0) true (decide ((Go.bits .and .i64 a1 15) < (wrap64 ((Go.bits .and .i64 a2 15) + x10_18)))) (decide ((wrap64 ((wrap64 (a1 - a2)) - x10_18)) < 0)) t129 _ A32.out).mono ?_); rintro e w' ⟨rfl, ⟨nd, rfl⟩⟩; refine ⟨_, rfl, ?_⟩))
                              go_ret2
                              exact ⟨by first | rfl | (simp; done) | (simp [*]; done), by repeat (first | exact Drawn0.refl _ | apply Drawn0.step)⟩
                            · rw [if_neg c31] at H
                              have c31b0 : (a0 == 7) = false := beq_eq_false_iff_ne.mpr c31
                              have c31b1 : (a0 != 7) = true := bne_iff_ne.mpr c31
                              replace H := Option.bind_eq_some_iff.mp H
                              obtain ⟨t130, A330, H⟩ := H
                              replace H : (some (Go.bits .and .i64 (wrap64 ((wrap64 (a1 - a2)) - x10_18)) 255, t130)) = some (r1, r2) := H
                              have A33 := Aside0.mk A330
                              clear A330
                              simp only [Option.some.injEq, Prod.mk.injEq] at H
                              obtain ⟨rfl, rfl⟩ := H
                              go_wp2_with (first | ((with_reducible refine gate_callee (f := 55) rfl ?_); refine goesL_ (some 120) rfl rfl Try.func55 (by kernel_rfl) rfl #[.bool ((Go.bits .and .i64 (wrap64 ((wrap64 (a1 - a2)) - x10_18)) 255) == 0), .bool true, .bool (decide ((Go.bits .and .i64 a1 15) < (wrap64 ((Go.bits .and .i64 a2 15) + x10_18)))), .bool (decide ((wrap64 ((wrap64 (a1 - a2)) - x10_18)) < 0))] rfl (by (try simp only [List.map_toArray, List.map_cons, List.map_nil]); first | done | rfl | (simp only [List.length_drop, List.length_take]; rfl)) ?_; (with_reducible refine (impl_flags.calls kj20 ((Go.bits .and .i64 (wrap64 ((wrap64 (a1 - a2)) - x10_18)) 255) == 0) true (decide ((Go.bits .and .i64 a1 15) < (wrap64 ((Go.bits .and .i64 a2 15) + x10_18)))) (decide ((wrap64 ((wrap64 (a1 - a2)) - x10_18)) < 0)) t130 _ A33.out).mono ?_); rintro e w' ⟨rfl, ⟨nd, rfl⟩⟩; refine ⟨_, rfl, ?_⟩))
                              go_ret2
                              exact ⟨by first | rfl | (simp; done) | (simp [*]; done), by repeat (first | exact Drawn0.refl _ | apply Drawn0.step)⟩

/-! ### laws_FnExactAlu: function 7 -/
def laws_FnExactAlu.f (k : Nat) (a0 : Int) (a1 : Int) (a2 : Int) (a3 : Int) : Option (Bool) := (spec_Alu.f k a0 a1 a2 a3).bind fun bt131 => ((impl_Alu.f k a0 a1 a2 a3).bind fun bt133 => (if bt133.1 = bt131.1 then (if bt133.2 = bt131.2 then (some true) else (some false)) else (some false)))
theorem laws_FnExactAlu.mono : ∀ a0 a1 a2 a3 k, LeO (laws_FnExactAlu.f k a0 a1 a2 a3) (laws_FnExactAlu.f (k + 1) a0 a1 a2 a3) := by
  intro a0 a1 a2 a3 k
  unfold laws_FnExactAlu.f
  repeat' first
      | (with_reducible exact impl_Alu.mono _ _ _ _ _)
      | (with_reducible exact spec_Alu.mono _ _ _ _ _)
      | (with_reducible exact LeO.refl _)
      | (with_reducible exact LeO.none _)
      | (with_reducible refine LeO.ite ?_ ?_)
      | (with_reducible refine LeO.bind ?_ (fun _ => ?_))
      | exact impl_Alu.mono _ _ _ _ _
      | exact spec_Alu.mono _ _ _ _ _
      | exact LeO.none _
      | refine LeO.ite ?_ ?_
      | refine LeO.bind ?_ (fun _ => ?_)
set_option maxHeartbeats 8000000 in
set_option maxRecDepth 100000 in
theorem laws_FnExactAlu.calls (k : Nat) (a0 : Int) (a1 : Int) (a2 : Int) (a3 : Int) (r : Bool) (w : World) (h : laws_FnExactAlu.f k a0 a1 a2 a3 = some r) :
    Calls Try.prog 7 #[.int .i64 a0, .int .i64 a1, .int .i64 a2, .int .i64 a3] w fun e w' => e = .returned (.bool r) ∧ Drawn0 w w' := by
  have H : ((spec_Alu.f k a0 a1 a2 a3).bind fun bt131 => ((impl_Alu.f k a0 a1 a2 a3).bind fun bt133 => (if bt133.1 = bt131.1 then (if bt133.2 = bt131.2 then (some true) else (some false)) else (some false)))) = some r := h
  clear h
  replace H := Option.bind_eq_some_iff.mp H
  obtain ⟨⟨t131, t132⟩, A50, H⟩ := H
  replace H : ((impl_Alu.f k a0 a1 a2 a3).bind fun bt133 => (if bt133.1 = t131 then (if bt133.2 = t132 then (some true) else (some false)) else (some false))) = some r := H
  have A5 := Aside0.mk A50
  clear A50
  replace H := Option.bind_eq_some_iff.mp H
  obtain ⟨⟨t133, t134⟩, A60, H⟩ := H
  replace H : (if t133 = t131 then (if t134 = t132 then (some true) else (some false)) else (some false)) = some r := H
  have A6 := Aside0.mk A60
  clear A60
  by_cases c7 : t133 = t131
  · rw [if_pos c7] at H
    have c7b0 : (t133 == t131) = true := beq_iff_eq.mpr c7
    have c7b1 : (t133 != t131) = false := bne_eq_false_iff_eq.mpr c7
    clear c7
    by_cases c8 : t134 = t132
    · rw [if_pos c8] at H
      have c8b0 : (t134 == t132) = true := beq_iff_eq.mpr c8
      have c8b1 : (t134 != t132) = false := bne_eq_false_iff_eq.mpr c8
      clear c8
      obtain rfl := Option.some.inj H
      go_enter Try.func7, Try.ntmps7
      go_wp2_with (first | ((with_reducible refine gate_callee (f := 25) rfl ?_); refine goesL_ (some 18) rfl rfl Try.func25 (by kernel_rfl) rfl #[.int .i64 a0, .int .i64 a1, .int .i64 a2, .int .i64 a3] rfl (by (try simp only [List.map_toArray, List.map_cons, List.map_nil]); first | done | rfl | (simp only [List.length_drop, List.length_take]; rfl)) ?_; (with_reducible refine (spec_Alu.calls k a0 a1 a2 a3 t131 t132 _ A5.out).mono ?_); rintro e w' ⟨rfl, ⟨nd, rfl⟩⟩; refine ⟨_, rfl, ?_⟩) | ((with_reducible refine gate_callee (f := 26) rfl ?_); refine goesL_ (some 26) rfl rfl Try.func26 (by kernel_rfl) rfl #[.int .i64 a0, .int .i64 a1, .int .i64 a2, .int .i64 a3] rfl (by (try simp only [List.map_toArray, List.map_cons, List.map_nil]); first | done | rfl | (simp only [List.length_drop, List.length_take]; rfl)) ?_; (with_reducible refine (impl_Alu.calls k a0 a1 a2 a3 t133 t134 _ A6.out).mono ?_); rintro e w' ⟨rfl, ⟨nd, rfl⟩⟩; refine ⟨_, rfl, ?_⟩))
      go_ret
      exact ⟨by first | rfl | (simp; done) | (simp [*]; done), by repeat (first | exact Drawn0.refl _ | apply Drawn0.step)⟩
    · rw [if_neg c8] at H
      have c8b0 : (t134 == t132) = false := beq_eq_false_iff_ne.mpr c8
      have c8b1 : (t134 != t132) = true := bne_iff_ne.mpr c8
      obtain rfl := Option.some.inj H
      go_enter Try.func7, Try.ntmps7
      go_wp2_with (first | ((with_reducible refine gate_callee (f := 25) rfl ?_); refine goesL_ (some 18) rfl rfl Try.func25 (by kernel_rfl) rfl #[.int .i64 a0, .int .i64 a1, .int .i64 a2, .int .i64 a3] rfl (by (try simp only [List.map_toArray, List.map_cons, List.map_nil]); first | done | rfl | (simp only [List.length_drop, List.length_take]; rfl)) ?_; (with_reducible refine (spec_Alu.calls k a0 a1 a2 a3 t131 t132 _ A5.out).mono ?_); rintro e w' ⟨rfl, ⟨nd, rfl⟩⟩; refine ⟨_, rfl, ?_⟩) | ((with_reducible refine gate_callee (f := 26) rfl ?_); refine goesL_ (some 26) rfl rfl Try.func26 (by kernel_rfl) rfl #[.int .i64 a0, .int .i64 a1, .int .i64 a2, .int .i64 a3] rfl (by (try simp only [List.map_toArray, List.map_cons, List.map_nil]); first | done | rfl | (simp only [List.length_drop, List.length_take]; rfl)) ?_; (with_reducible refine (impl_Alu.calls k a0 a1 a2 a3 t133 t134 _ A6.out).mono ?_); rintro e w' ⟨rfl, ⟨nd, rfl⟩⟩; refine ⟨_, rfl, ?_⟩))
      go_ret
      exact ⟨by first | rfl | (simp; done) | (simp [*]; done), by repeat (first | exact Drawn0.refl _ | apply Drawn0.step)⟩
  · rw [if_neg c7] at H
    have c7b0 : (t133 == t131) = false := beq_eq_false_iff_ne.mpr c7
    have c7b1 : (t133 != t131) = true := bne_iff_ne.mpr c7
    obtain rfl := Option.some.inj H
    go_enter Try.func7, Try.ntmps7
    go_wp2_with (first | ((with_reducible refine gate_callee (f := 25) rfl ?_); refine goesL_ (some 18) rfl rfl Try.func25 (by kernel_rfl) rfl #[.int .i64 a0, .int .i64 a1, .int .i64 a2, .int .i64 a3] rfl (by (try simp only [List.map_toArray, List.map_cons, List.map_nil]); first | done | rfl | (simp only [List.length_drop, List.length_take]; rfl)) ?_; (with_reducible refine (spec_Alu.calls k a0 a1 a2 a3 t131 t132 _ A5.out).mono ?_); rintro e w' ⟨rfl, ⟨nd, rfl⟩⟩; refine ⟨_, rfl, ?_⟩) | ((with_reducible refine gate_callee (f := 26) rfl ?_); refine goesL_ (some 26) rfl rfl Try.func26 (by kernel_rfl) rfl #[.int .i64 a0, .int .i64 a1, .int .i64 a2, .int .i64 a3] rfl (by (try simp only [List.map_toArray, List.map_cons, List.map_nil]); first | done | rfl | (simp only [List.length_drop, List.length_take]; rfl)) ?_; (with_reducible refine (impl_Alu.calls k a0 a1 a2 a3 t133 t134 _ A6.out).mono ?_); rintro e w' ⟨rfl, ⟨nd, rfl⟩⟩; refine ⟨_, rfl, ?_⟩))
    go_ret
    exact ⟨by first | rfl | (simp; done) | (simp [*]; done), by repeat (first | exact Drawn0.refl _ | apply Drawn0.step)⟩

/-- THE ONE PURE STATEMENT of laws_FnExactAlu: yours. -/
def laws_FnExactAlu.Pure : Prop := ∀ (a0 : Int) (a1 : Int) (a2 : Int) (a3 : Int), (Lit.int .i64 a0).wf = true → (Lit.int .i64 a1).wf = true → (Lit.int .i64 a2).wf = true → (Lit.int .i64 a3).wf = true → ∃ k, laws_FnExactAlu.f k a0 a1 a2 a3 = some true
theorem laws_FnExactAlu.walk (P : laws_FnExactAlu.Pure) (a0 : Int) (a1 : Int) (a2 : Int) (a3 : Int) (w : World) (w0 : (Lit.int .i64 a0).wf = true) (w1 : (Lit.int .i64 a1).wf = true) (w2 : (Lit.int .i64 a2).wf = true) (w3 : (Lit.int .i64 a3).wf = true) :
    Calls Try.prog 7 #[.int .i64 a0, .int .i64 a1, .int .i64 a2, .int .i64 a3] w fun e w' => e = .returned (.bool true) ∧ Below w.heap.size w w' := by
  obtain ⟨k, h⟩ := P a0 a1 a2 a3 w0 w1 w2 w3
  refine (laws_FnExactAlu.calls k a0 a1 a2 a3 true w h).mono ?_
  rintro e w' ⟨rfl, hd⟩
  exact ⟨rfl, hd.below⟩

end Go.Proofs.Ytnchhhafdkpmaaa.PFnExactAlu
