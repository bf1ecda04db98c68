-- PRINTED BY print.sh 35421559b90ae4d0a3588c463048766b98c2df88dd9212a6774a882060cdf62d: not written by this session
import Derived.Test.YtnchhhafdkpmaaaPFnExactTurnedx0
import Derived.Test.YtnchhhafdkpmaaaPFnExactTurnedx1
namespace Go.Proofs.Ytnchhhafdkpmaaa.PFnExactTurned
open Go.RowKit Go.Proofs.YtnchhhafdkpmaaaW.PrintWords Go.Proofs.YtnchhhafdkpmaaaW.PrintLast Go.Proofs.YtnchhhafdkpmaaaW.PrintMore
attribute [local go_sem] max2_int min2_int max_two min_two max_three min_three max_four min_four   -- for this text's walks alone
set_option linter.unusedVariables false
set_option linter.unusedSimpArgs false

/-! ### impl_Turned: function 28 -/
def impl_Turned.j0 : Nat → Int → Int → Int → Bool → Option (Int × Int)
  | 0, _, _, _, _ => none
  | k + 1, x0, x1, x2, x23 => if x23 = true then (some (0, 0)) else (if x0 = 0 then ((impl_flags.f k ((Go.bits .and .i64 (Go.bits .or .i64 (wrap64 (x1 * 2)) (x1 / 128)) 255) == 0) false false ((x1 / 128) == 1)).bind fun t125 => (some (Go.bits .and .i64 (Go.bits .or .i64 (wrap64 (x1 * 2)) (x1 / 128)) 255, t125))) else (if x0 = 1 then ((impl_flags.f k ((Go.bits .and .i64 (Go.bits .or .i64 (x1 / 2) (wrap64 (x1 * 128))) 255) == 0) false false ((Go.bits .and .i64 x1 1) == 1)).bind fun t126 => (some (Go.bits .and .i64 (Go.bits .or .i64 (x1 / 2) (wrap64 (x1 * 128))) 255, t126))) else (if x0 = 2 then ((impl_flags.f k ((Go.bits .and .i64 (Go.bits .or .i64 (wrap64 (x1 * 2)) (Go.bits .and .i64 (wrap64 (Int.tdiv x2 16)) 1)) 255) == 0) false false ((x1 / 128) == 1)).bind fun t127 => (some (Go.bits .and .i64 (Go.bits .or .i64 (wrap64 (x1 * 2)) (Go.bits .and .i64 (wrap64 (Int.tdiv x2 16)) 1)) 255, t127))) else (if x0 = 3 then ((impl_flags.f k ((Go.bits .and .i64 (Go.bits .or .i64 (x1 / 2) (wrap64 ((Go.bits .and .i64 (wrap64 (Int.tdiv x2 16)) 1) * 128))) 255) == 0) false false ((Go.bits .and .i64 x1 1) == 1)).bind fun t128 => (some (Go.bits .and .i64 (Go.bits .or .i64 (x1 / 2) (wrap64 ((Go.bits .and .i64 (wrap64 (Int.tdiv x2 16)) 1) * 128))) 255, t128))) else (if x0 = 4 then ((impl_flags.f k ((Go.bits .and .i64 (wrap64 (x1 * 2)) 255) == 0) false false ((x1 / 128) == 1)).bind fun t129 => (some (Go.bits .and .i64 (wrap64 (x1 * 2)) 255, t129))) else (if x0 = 5 then ((impl_flags.f k ((Go.bits .and .i64 (Go.bits .or .i64 (x1 / 2) (Go.bits .and .i64 x1 128)) 255) == 0) false false ((Go.bits .and .i64 x1 1) == 1)).bind fun t130 => (some (Go.bits .and .i64 (Go.bits .or .i64 (x1 / 2) (Go.bits .and .i64 x1 128)) 255, t130))) else (if x0 = 6 then ((impl_flags.f k ((Go.bits .and .i64 (Go.bits .or .i64 (wrap64 (x1 * 16)) (x1 / 16)) 255) == 0) false false (0 == 1)).bind fun t131 => (some (Go.bits .and .i64 (Go.bits .or .i64 (wrap64 (x1 * 16)) (x1 / 16)) 255, t131))) else (if x0 = 7 then ((impl_flags.f k ((Go.bits .and .i64 (x1 / 2) 255) == 0) false false ((Go.bits .and .i64 x1 1) == 1)).bind fun t132 => (some (Go.bits .and .i64 (x1 / 2) 255, t132))) else ((impl_flags.f k ((Go.bits .and .i64 0 255) == 0) false false (0 == 1)).bind fun t133 => (some (Go.bits .and .i64 0 255, t133)))))))))))
def impl_Turned.f (k : Nat) (a0 : Int) (a1 : Int) (a2 : Int) : Option (Int × Int) := (impl_within.f a0 0 7).bind fun t122 => (if t122 = true then ((impl_isByte.f a1).bind fun t123 => (if t123 = true then ((impl_isByte.f a2).bind fun t124 => (impl_Turned.j0 k a0 a1 a2 (!t124))) else (impl_Turned.j0 k a0 a1 a2 true))) else (impl_Turned.j0 k a0 a1 a2 true))
theorem impl_Turned.mono_l : ∀ k, (∀ y0 y1 y2 y3, LeO (impl_Turned.j0 k y0 y1 y2 y3) (impl_Turned.j0 (k + 1) y0 y1 y2 y3))
  | 0 => fun _ _ _ _ r h => by simp [impl_Turned.j0] at h
  | k + 1 => by
    have ih0 := impl_Turned.mono_l k
    · intro y0 y1 y2 y3
      unfold impl_Turned.j0
      repeat' first
      | (with_reducible exact ih0 _ _ _ _)
      | (with_reducible exact impl_flags.mono _ _ _ _ _)
      | (with_reducible exact LeO.refl _)
      | (with_reducible exact LeO.none _)
      | (with_reducible refine LeO.ite ?_ ?_)
      | (with_reducible refine LeO.bind ?_ (fun _ => ?_))
      | exact ih0 _ _ _ _
      | exact impl_flags.mono _ _ _ _ _
      | exact LeO.none _
      | refine LeO.ite ?_ ?_
      | refine LeO.bind ?_ (fun _ => ?_)
theorem impl_Turned.mono : ∀ a0 a1 a2 k, LeO (impl_Turned.f k a0 a1 a2) (impl_Turned.f (k + 1) a0 a1 a2) := by
  intro a0 a1 a2 k
  have ih0 := impl_Turned.mono_l k
  unfold impl_Turned.f
  repeat' first
      | (with_reducible exact ih0 _ _ _ _)
      | (with_reducible exact impl_flags.mono _ _ _ _ _)
      | (with_reducible exact LeO.refl _)
      | (with_reducible exact LeO.none _)
      | (with_reducible refine LeO.ite ?_ ?_)
      | (with_reducible refine LeO.bind ?_ (fun _ => ?_))
      | exact ih0 _ _ _ _
      | exact impl_flags.mono _ _ _ _ _
      | exact LeO.none _
      | refine LeO.ite ?_ ?_
      | refine LeO.bind ?_ (fun _ => ?_)
set_option maxHeartbeats 8000000 in
set_option maxRecDepth 100000 in
theorem impl_Turned.calls (k : Nat) (a0 : Int) (a1 : Int) (a2 : Int) (r1 : Int) (r2 : Int) (w : World) (h : impl_Turned.f k a0 a1 a2 = some (r1, r2)) :
    Calls Try.prog 28 #[.int .i64 a0, .int .i64 a1, .int .i64 a2] w fun e w' => e = .returned (.tuple #[.int .i64 r1, .int .i64 r2]) ∧ Drawn0 w w' := by
  have H : ((impl_within.f a0 0 7).bind fun t122 => (if t122 = true then ((impl_isByte.f a1).bind fun t123 => (if t123 = true then ((impl_isByte.f a2).bind fun t124 => (impl_Turned.j0 k a0 a1 a2 (!t124))) else (impl_Turned.j0 k a0 a1 a2 true))) else (impl_Turned.j0 k a0 a1 a2 true))) = some (r1, r2) := h
  clear h
  have HC4 := Aside0.mk H
  clear H
  go_enter Try.func28, Try.ntmps28
  go_upto_region 1 with (fail)
  go_cut [23] (fun v23 wc => ∃ (kq : Nat) (x23_3 : Bool), v23 = .bool x23_3 ∧ Aside0 (impl_Turned.j0 kq a0 a1 a2 x23_3 = some (r1, r2)) ∧ Aside0 (kq ≤ k) ∧ Drawn0 w wc)
  case first =>
    have H := HC4.out
    clear HC4
    replace H := Option.bind_eq_some_iff.mp H
    obtain ⟨t122, A50, H⟩ := H
    replace H : (if t122 = true then ((impl_isByte.f a1).bind fun t123 => (if t123 = true then ((impl_isByte.f a2).bind fun t124 => (impl_Turned.j0 k a0 a1 a2 (!t124))) else (impl_Turned.j0 k a0 a1 a2 true))) else (impl_Turned.j0 k a0 a1 a2 true)) = some (r1, r2) := H
    have A5 := Aside0.mk A50
    clear A50
    by_cases c6 : t122 = true
    · subst c6
      have H1 : ((impl_isByte.f a1).bind fun t123 => (if t123 = true then ((impl_isByte.f a2).bind fun t124 => (impl_Turned.j0 k a0 a1 a2 (!t124))) else (impl_Turned.j0 k a0 a1 a2 true))) = some (r1, r2) := by rw [if_pos rfl] at H; exact H
      clear H
      have H := H1
      clear H1
      replace H := Option.bind_eq_some_iff.mp H
      obtain ⟨t123, A70, H⟩ := H
      replace H : (if t123 = true then ((impl_isByte.f a2).bind fun t124 => (impl_Turned.j0 k a0 a1 a2 (!t124))) else (impl_Turned.j0 k a0 a1 a2 true)) = some (r1, r2) := H
      have A7 := Aside0.mk A70
      clear A70
      by_cases c8 : t123 = true
      · subst c8
        have H1 : ((impl_isByte.f a2).bind fun t124 => (impl_Turned.j0 k a0 a1 a2 (!t124))) = some (r1, r2) := by rw [if_pos rfl] at H; exact H
        clear H
        have H := H1
        clear H1
        replace H := Option.bind_eq_some_iff.mp H
        obtain ⟨t124, A90, H⟩ := H
        replace H : (impl_Turned.j0 k a0 a1 a2 (!t124)) = some (r1, r2) := H
        have A9 := Aside0.mk A90
        clear A90
        have H' := Aside0.mk H
        clear H
        go_wp2_with (first | ((with_reducible refine gate_callee (f := 67) rfl ?_); refine goesL_ (some 12) rfl rfl Try.func67 (by kernel_rfl) rfl #[.int .i64 a0, .int .i64 0, .int .i64 7] rfl (by (try simp only [List.map_toArray, List.map_cons, List.map_nil]); first | done | rfl | (simp only [List.length_drop, List.length_take]; rfl)) ?_; (with_reducible refine (impl_within.calls a0 0 7 true _ A5.out).mono ?_); rintro e w' ⟨rfl, ⟨nd, rfl⟩⟩; refine ⟨_, rfl, ?_⟩) | (go_at_call 53; (with_reducible refine (impl_isByte.calls a1 true _ A7.out).mono ?_); rintro e w' ⟨rfl, ⟨nd, rfl⟩⟩) | (go_at_call 53; (with_reducible refine (impl_isByte.calls a2 t124 _ A9.out).mono ?_); rintro e w' ⟨rfl, ⟨nd, rfl⟩⟩))
        go_meet
        case rel => exact ⟨_, (!t124), (by first | rfl | (simp; done) | (simp [*]; done)), H', ⟨by first | omega | exact Nat.le_refl _⟩, by repeat (first | exact Drawn0.refl _ | apply Drawn0.step)⟩
      · replace c8 := Bool.eq_false_iff.mpr c8
        subst c8
        have H1 : (impl_Turned.j0 k a0 a1 a2 true) = some (r1, r2) := by rw [if_neg (show ¬ (false = true) by decide)] at H; exact H
        clear H
        have H := H1
        clear H1
        have H' := Aside0.mk H
        clear H
        go_wp2_with (first | ((with_reducible refine gate_callee (f := 67) rfl ?_); refine goesL_ (some 12) rfl rfl Try.func67 (by kernel_rfl) rfl #[.int .i64 a0, .int .i64 0, .int .i64 7] rfl (by (try simp only [List.map_toArray, List.map_cons, List.map_nil]); first | done | rfl | (simp only [List.length_drop, List.length_take]; rfl)) ?_; (with_reducible refine (impl_within.calls a0 0 7 true _ A5.out).mono ?_); rintro e w' ⟨rfl, ⟨nd, rfl⟩⟩; refine ⟨_, rfl, ?_⟩) | (go_at_call 53; (with_reducible refine (impl_isByte.calls a1 false _ A7.out).mono ?_); rintro e w' ⟨rfl, ⟨nd, rfl⟩⟩))
        go_meet
        case rel => exact ⟨_, (true), (by first | rfl | (simp; done) | (simp [*]; done)), H', ⟨by first | omega | exact Nat.le_refl _⟩, by repeat (first | exact Drawn0.refl _ | apply Drawn0.step)⟩
    · replace c6 := Bool.eq_false_iff.mpr c6
      subst c6
      have H1 : (impl_Turned.j0 k a0 a1 a2 true) = some (r1, r2) := by rw [if_neg (show ¬ (false = true) by decide)] at H; exact H
      clear H
      have H := H1
      clear H1
      have H' := Aside0.mk H
      clear H
      go_wp2_with (first | ((with_reducible refine gate_callee (f := 67) rfl ?_); refine goesL_ (some 12) rfl rfl Try.func67 (by kernel_rfl) rfl #[.int .i64 a0, .int .i64 0, .int .i64 7] rfl (by (try simp only [List.map_toArray, List.map_cons, List.map_nil]); first | done | rfl | (simp only [List.length_drop, List.length_take]; rfl)) ?_; (with_reducible refine (impl_within.calls a0 0 7 false _ A5.out).mono ?_); rintro e w' ⟨rfl, ⟨nd, rfl⟩⟩; refine ⟨_, rfl, ?_⟩))
      go_meet
      case rel => exact ⟨_, (true), (by first | rfl | (simp; done) | (simp [*]; done)), H', ⟨by first | omega | exact Nat.le_refl _⟩, by repeat (first | exact Drawn0.refl _ | apply Drawn0.step)⟩
  case rest =>
    clear HC4
    try clear c2
    try clear p2
    try clear c6
    try clear c8
    obtain ⟨kq, x23_3, rfl, HA, HJ3, ⟨mc3, rfl⟩⟩ := hcut
    cases kq with
    | zero => exact absurd HA.out (by simp [impl_Turned.j0])
    | succ kj3 =>
      have H := HA.out
      clear HA
      simp only [impl_Turned.j0] at H
      by_cases c10 : x23_3 = true
      · subst c10
        have H1 : (some (0, 0)) = some (r1, r2) := by rw [if_pos rfl] at H; exact H
        clear H
        have H := H1
        clear H1
        simp only [Option.some.injEq, Prod.mk.injEq] at H
        obtain ⟨rfl, rfl⟩ := H
        go_wp2
        go_ret2
        exact ⟨by first | rfl | (simp; done) | (simp [*]; done), by repeat (first | exact Drawn0.refl _ | apply Drawn0.step)⟩
      · replace c10 := Bool.eq_false_iff.mpr c10
        subst c10
        have H1 : (if a0 = 0 then ((impl_flags.f kj3 ((Go.bits .and .i64 (Go.bits .or .i64 (wrap64 (a1 * 2)) (a1 / 128)) 255) == 0) false false ((a1 / 128) == 1)).bind fun t125 => (some (Go.bits .and .i64 (Go.bits .or .i64 (wrap64 (a1 * 2)) (a1 / 128)) 255, t125))) else (if a0 = 1 then ((impl_flags.f kj3 ((Go.bits .and .i64 (Go.bits .or .i64 (a1 / 2) (wrap64 (a1 * 128))) 255) == 0) false false ((Go.bits .and .i64 a1 1) == 1)).bind fun t126 => (some (Go.bits .and .i64 (Go.bits .or .i64 (a1 / 2) (wrap64 (a1 * 128))) 255, t126))) else (if a0 = 2 then ((impl_flags.f kj3 ((Go.bits .and .i64 (Go.bits .or .i64 (wrap64 (a1 * 2)) (Go.bits .and .i64 (wrap64 (Int.tdiv a2 16)) 1)) 255) == 0) false false ((a1 / 128) == 1)).bind fun t127 => (some (Go.bits .and .i64 (Go.bits .or .i64 (wrap64 (a1 * 2)) (Go.bits .and .i64 (wrap64 (Int.tdiv a2 16)) 1)) 255, t127))) else (if a0 = 3 then ((impl_flags.f kj3 ((Go.bits .and .i64 (Go.bits .or .i64 (a1 / 2) (wrap64 ((Go.bits .and .i64 (wrap64 (Int.tdiv a2 16)) 1) * 128))) 255) == 0) false false ((Go.bits .and .i64 a1 1) == 1)).bind fun t128 => (some (Go.bits .and .i64 (Go.bits .or .i64 (a1 / 2) (wrap64 ((Go.bits .and .i64 (wrap64 (Int.tdiv a2 16)) 1) * 128))) 255, t128))) else (if a0 = 4 then ((impl_flags.f kj3 ((Go.bits .and .i64 (wrap64 (a1 * 2)) 255) == 0) false false ((a1 / 128) == 1)).bind fun t129 => (some (Go.bits .and .i64 (wrap64 (a1 * 2)) 255, t129))) else (if a0 = 5 then ((impl_flags.f kj3 ((Go.bits .and .i64 (Go.bits .or .i64 (a1 / 2) (Go.bits .and .i64 a1 128)) 255) == 0) false false ((Go.bits .and .i64 a1 1) == 1)).bind fun t130 => (some (Go.bits .and .i64 (Go.bits .or .i64 (a1 / 2) (Go.bits .and .i64 a1 128)) 255, t130))) else (if a0 = 6 then ((impl_flags.f kj3 ((Go.bits .and .i64 (Go.bits .or .i64 (wrap64 (a1 * 16)) (a1 / 16)) 255) == 0) false false (0 == 1)).bind fun t131 => (some (Go.bits .and .i64 (Go.bits .or .i64 (wrap64 (a1 * 16)) (a1 / 16)) 255, t131))) else (if a0 = 7 then ((impl_flags.f kj3 ((Go.bits .and .i64 (a1 / 2) 255) == 0) false false ((Go.bits .and .i64 a1 1) == 1)).bind fun t132 => (some (Go.bits .and .i64 (a1 / 2) 255, t132))) else ((impl_flags.f kj3 ((Go.bits .and .i64 0 255) == 0) false false (0 == 1)).bind fun t133 => (some (Go.bits .and .i64 0 255, t133))))))))))) = some (r1, r2) := by rw [if_neg (show ¬ (false = true) by decide)] at H; exact H
        clear H
        have H := H1
        clear H1
        by_cases c11 : a0 = 0
        · rw [if_pos c11] at H
          have c11b0 : (a0 == 0) = true := beq_iff_eq.mpr c11
          have c11b1 : (a0 != 0) = false := bne_eq_false_iff_eq.mpr c11
          clear c11
          replace H := Option.bind_eq_some_iff.mp H
          obtain ⟨t125, A120, H⟩ := H
          replace H : (some (Go.bits .and .i64 (Go.bits .or .i64 (wrap64 (a1 * 2)) (a1 / 128)) 255, t125)) = some (r1, r2) := H
          have A12 := Aside0.mk A120
          clear A120
          simp only [Option.some.injEq, Prod.mk.injEq] at H
          obtain ⟨rfl, rfl⟩ := H
          go_wp2_with (first | ((with_reducible refine gate_callee (f := 55) rfl ?_); refine goesL_ (some 98) rfl rfl Try.func55 (by kernel_rfl) rfl #[.bool ((Go.bits .and .i64 (Go.bits .or .i64 (wrap64 (a1 * 2)) (a1 / 128)) 255) == 0), .bool false, .bool false, .bool ((a1 / 128) == 1)] rfl (by (try simp only [List.map_toArray, List.map_cons, List.map_nil]); first | done | rfl | (simp only [List.length_drop, List.length_take]; rfl)) ?_; (with_reducible refine (impl_flags.calls kj3 ((Go.bits .and .i64 (Go.bits .or .i64 (wrap64 (a1 * 2)) (a1 / 128)) 255) == 0) false false ((a1 / 128) == 1) t125 _ A12.out).mono ?_); rintro e w' ⟨rfl, ⟨nd, rfl⟩⟩; refine ⟨_, rfl, ?_⟩))
          go_ret2
          exact ⟨by first | rfl | (simp; done) | (simp [*]; done), by repeat (first | exact Drawn0.refl _ | apply Drawn0.step)⟩
        · rw [if_neg c11] at H
          have c11b0 : (a0 == 0) = false := beq_eq_false_iff_ne.mpr c11
          have c11b1 : (a0 != 0) = true := bne_iff_ne.mpr c11
          by_cases c13 : a0 = 1
          · rw [if_pos c13] at H
            have c13b0 : (a0 == 1) = true := beq_iff_eq.mpr c13
            have c13b1 : (a0 != 1) = false := bne_eq_false_iff_eq.mpr c13
            clear c13
            replace H := Option.bind_eq_some_iff.mp H
            obtain ⟨t126, A140, H⟩ := H
            replace H : (some (Go.bits .and .i64 (Go.bits .or .i64 (a1 / 2) (wrap64 (a1 * 128))) 255, t126)) = some (r1, r2) := H
            have A14 := Aside0.mk A140
            clear A140
            simp only [Option.some.injEq, Prod.mk.injEq] at H
            obtain ⟨rfl, rfl⟩ := H
            go_wp2_with (first | ((with_reducible refine gate_callee (f := 55) rfl ?_); refine goesL_ (some 98) rfl rfl Try.func55 (by kernel_rfl) rfl #[.bool ((Go.bits .and .i64 (Go.bits .or .i64 (a1 / 2) (wrap64 (a1 * 128))) 255) == 0), .bool false, .bool false, .bool ((Go.bits .and .i64 a1 1) == 1)] rfl (by (try simp only [List.map_toArray, List.map_cons, List.map_nil]); first | done | rfl | (simp only [List.length_drop, List.length_take]; rfl)) ?_; (with_reducible refine (impl_flags.calls kj3 ((Go.bits .and .i64 (Go.bits .or .i64 (a1 / 2) (wrap64 (a1 * 128))) 255) == 0) false false ((Go.bits .and .i64 a1 1) == 1) t126 _ A14.out).mono ?_); rintro e w' ⟨rfl, ⟨nd, rfl⟩⟩; refine ⟨_, rfl, ?_⟩))
            go_ret2
            exact ⟨by first | rfl | (simp; done) | (simp [*]; done), by repeat (first | exact Drawn0.refl _ | apply Drawn0.step)⟩
          · rw [if_neg c13] at H
            have c13b0 : (a0 == 1) = false := beq_eq_false_iff_ne.mpr c13
            have c13b1 : (a0 != 1) = true := bne_iff_ne.mpr c13
            by_cases c15 : a0 = 2
            · rw [if_pos c15] at H
              have c15b0 : (a0 == 2) = true := beq_iff_eq.mpr c15
              have c15b1 : (a0 != 2) = false := bne_eq_false_iff_eq.mpr c15
              clear c15
              replace H := Option.bind_eq_some_iff.mp H
              obtain ⟨t127, A160, H⟩ := H
              replace H : (some (Go.bits .and .i64 (Go.bits .or .i64 (wrap64 (a1 * 2)) (Go.bits .and .i64 (wrap64 (Int.tdiv a2 16)) 1)) 255, t127)) = some (r1, r2) := H
              have A16 := Aside0.mk A160
              clear A160
              simp only [Option.some.injEq, Prod.mk.injEq] at H
              obtain ⟨rfl, rfl⟩ := H
              go_wp2_with (first | ((with_reducible refine gate_callee (f := 55) rfl ?_); refine goesL_ (some 98) rfl rfl Try.func55 (by kernel_rfl) rfl #[.bool ((Go.bits .and .i64 (Go.bits .or .i64 (wrap64 (a1 * 2)) (Go.bits .and .i64 (wrap64 (Int.tdiv a2 16)) 1)) 255) == 0), .bool false, .bool false, .bool ((a1 / 128) == 1)] rfl (by (try simp only [List.map_toArray, List.map_cons, List.map_nil]); first | done | rfl | (simp only [List.length_drop, List.length_take]; rfl)) ?_; (with_reducible refine (impl_flags.calls kj3 ((Go.bits .and .i64 (Go.bits .or .i64 (wrap64 (a1 * 2)) (Go.bits .and .i64 (wrap64 (Int.tdiv a2 16)) 1)) 255) == 0) false false ((a1 / 128) == 1) t127 _ A16.out).mono ?_); rintro e w' ⟨rfl, ⟨nd, rfl⟩⟩; refine ⟨_, rfl, ?_⟩))
              go_ret2
              exact ⟨by first | rfl | (simp; done) | (simp [*]; done), by repeat (first | exact Drawn0.refl _ | apply Drawn0.step)⟩
            · rw [if_neg c15] at H
              have c15b0 : (a0 == 2) = false := beq_eq_false_iff_ne.mpr c15
              have c15b1 : (a0 != 2) = true := bne_iff_ne.mpr c15
              by_cases c17 : a0 = 3
              · rw [if_pos c17] at H
                have c17b0 : (a0 == 3) = true := beq_iff_eq.mpr c17
                have c17b1 : (a0 != 3) = false := bne_eq_false_iff_eq.mpr c17
                clear c17
                replace H := Option.bind_eq_some_iff.mp H
                obtain ⟨t128, A180, H⟩ := H
                replace H : (some (Go.bits .and .i64 (Go.bits .or .i64 (a1 / 2) (wrap64 ((Go.bits .and .i64 (wrap64 (Int.tdiv a2 16)) 1) * 128))) 255, t128)) = some (r1, r2) := H
                have A18 := Aside0.mk A180
                clear A180
                simp only [Option.some.injEq, Prod.mk.injEq] at H
                obtain ⟨rfl, rfl⟩ := H
                go_wp2_with (first | ((with_reducible refine gate_callee (f := 55) rfl ?_); refine goesL_ (some 98) rfl rfl Try.func55 (by kernel_rfl) rfl #[.bool ((Go.bits .and .i64 (Go.bits .or .i64 (a1 / 2) (wrap64 ((Go.bits .and .i64 (wrap64 (Int.tdiv a2 16)) 1) * 128))) 255) == 0), .bool false, .bool false, .bool ((Go.bits .and .i64 a1 1) == 1)] rfl (by (try simp only [List.map_toArray, List.map_cons, List.map_nil]); first | done | rfl | (simp only [List.length_drop, List.length_take]; rfl)) ?_; (with_reducible refine (impl_flags.calls kj3 ((Go.bits .and .i64 (Go.bits .or .i64 (a1 / 2) (wrap64 ((Go.bits .and .i64 (wrap64 (Int.tdiv a2 16)) 1) * 128))) 255) == 0) false false ((Go.bits .and .i64 a1 1) == 1) t128 _ A18.out).mono ?_); rintro e w' ⟨rfl, ⟨nd, rfl⟩⟩; refine ⟨_, rfl, ?_⟩))
                go_ret2
                exact ⟨by first | rfl | (simp; done) | (simp [*]; done), by repeat (first | exact Drawn0.refl _ | apply Drawn0.step)⟩
              · rw [if_neg c17] at H
                have c17b0 : (a0 == 3) = false := beq_eq_false_iff_ne.mpr c17
                have c17b1 : (a0 != 3) = true := bne_iff_ne.mpr c17
                by_cases c19 : a0 = 4
                · rw [if_pos c19] at H
                  have c19b0 : (a0 == 4) = true := beq_iff_eq.mpr c19
                  have c19b1 : (a0 != 4) = false := bne_eq_false_iff_eq.mpr c19
                  clear c19
                  replace H := Option.bind_eq_some_iff.mp H
                  obtain ⟨t129, A200, H⟩ := H
                  replace H : (some (Go.bits .and .i64 (wrap64 (a1 * 2)) 255, t129)) = some (r1, r2) := H
                  have A20 := Aside0.mk A200
                  clear A200
                  simp only [Option.some.injEq, Prod.mk.injEq] at H
                  obtain ⟨rfl, rfl⟩ := H
                  go_wp2_with (first | ((with_reducible refine gate_callee (f := 55) rfl ?_); refine goesL_ (some 98) rfl rfl Try.func55 (by kernel_rfl) rfl #[.bool ((Go.bits .and .i64 (wrap64 (a1 * 2)) 255) == 0), .bool false, .bool false, .bool ((a1 / 128) == 1)] rfl (by (try simp only [List.map_toArray, List.map_cons, List.map_nil]); first | done | rfl | (simp only [List.length_drop, List.length_take]; rfl)) ?_; (with_reducible refine (impl_flags.calls kj3 ((Go.bits .and .i64 (wrap64 (a1 * 2)) 255) == 0) false false ((a1 / 128) == 1) t129 _ A20.out).mono ?_); rintro e w' ⟨rfl, ⟨nd, rfl⟩⟩; refine ⟨_, rfl, ?_⟩))
                  go_ret2
                  exact ⟨by first | rfl | (simp; done) | (simp [*]; done), by repeat (first | exact Drawn0.refl _ | apply Drawn0.step)⟩
                · rw [if_neg c19] at H
                  have c19b0 : (a0 == 4) = false := beq_eq_false_iff_ne.mpr c19
                  have c19b1 : (a0 != 4) = true := bne_iff_ne.mpr c19
                  by_cases c21 : a0 = 5
                  · rw [if_pos c21] at H
                    have c21b0 : (a0 == 5) = true := beq_iff_eq.mpr c21
                    have c21b1 : (a0 != 5) = false := bne_eq_false_iff_eq.mpr c21
                    clear c21
                    replace H := Option.bind_eq_some_iff.mp H
                    obtain ⟨t130, A220, H⟩ := H
                    replace H : (some (Go.bits .and .i64 (Go.bits .or .i64 (a1 / 2) (Go.bits .and .i64 a1 128)) 255, t130)) = some (r1, r2) := H
                    have A22 := Aside0.mk A220
                    clear A220
                    simp only [Option.some.injEq, Prod.mk.injEq] at H
                    obtain ⟨rfl, rfl⟩ := H
                    go_wp2_with (first | ((with_reducible refine gate_callee (f := 55) rfl ?_); refine goesL_ (some 98) rfl rfl Try.func55 (by kernel_rfl) rfl #[.bool ((Go.bits .and .i64 (Go.bits .or .i64 (a1 / 2) (Go.bits .and .i64 a1 128)) 255) == 0), .bool false, .bool false, .bool ((Go.bits .and .i64 a1 1) == 1)] rfl (by (try simp only [List.map_toArray, List.map_cons, List.map_nil]); first | done | rfl | (simp only [List.length_drop, List.length_take]; rfl)) ?_; (with_reducible refine (impl_flags.calls kj3 ((Go.bits .and .i64 (Go.bits .or .i64 (a1 / 2) (Go.bits .and .i64 a1 128)) 255) == 0) false false ((Go.bits .and .i64 a1 1) == 1) t130 _ A22.out).mono ?_); rintro e w' ⟨rfl, ⟨nd, rfl⟩⟩; refine ⟨_, rfl, ?_⟩))
                    go_ret2
                    exact ⟨by first | rfl | (simp; done) | (simp [*]; done), by repeat (first | exact Drawn0.refl _ | apply Drawn0.step)⟩
                  · rw [if_neg c21] at H
                    have c21b0 : (a0 == 5) = false := beq_eq_false_iff_ne.mpr c21
                    have c21b1 : (a0 != 5) = true := bne_iff_ne.mpr c21
                    by_cases c23 : a0 = 6
                    · rw [if_pos c23] at H
                      have c23b0 : (a0 == 6) = true := beq_iff_eq.mpr c23
                      have c23b1 : (a0 != 6) = false := bne_eq_false_iff_eq.mpr c23
                      clear c23
                      replace H := Option.bind_eq_some_iff.mp H
                      obtain ⟨t131, A240, H⟩ := H
                      replace H : (some (Go.bits .and .i64 (Go.bits .or .i64 (wrap64 (a1 * 16)) (a1 / 16)) 255, t131)) = some (r1, r2) := H
                      have A24 := Aside0.mk A240
                      clear A240
                      simp only [Option.some.injEq, Prod.mk.injEq] at H
                      obtain ⟨rfl, rfl⟩ := H
                      go_wp2_with (first | ((with_reducible refine gate_callee (f := 55) rfl ?_); refine goesL_ (some 98) rfl rfl Try.func55 (by kernel_rfl) rfl #[.bool ((Go.bits .and .i64 (Go.bits .or .i64 (wrap64 (a1 * 16)) (a1 / 16)) 255) == 0), .bool false, .bool false, .bool (0 == 1)] rfl (by (try simp only [List.map_toArray, List.map_cons, List.map_nil]); first | done | rfl | (simp only [List.length_drop, List.length_take]; rfl)) ?_; (with_reducible refine (impl_flags.calls kj3 ((Go.bits .and .i64 (Go.bits .or .i64 (wrap64 (a1 * 16)) (a1 / 16)) 255) == 0) false false (0 == 1) t131 _ A24.out).mono ?_); rintro e w' ⟨rfl, ⟨nd, rfl⟩⟩; refine ⟨_, rfl, ?_⟩))
                      go_ret2
                      exact ⟨by first | rfl | (simp; done) | (simp [*]; done), by repeat (first | exact Drawn0.refl _ | apply Drawn0.step)⟩
                    · rw [if_neg c23] at H
                      have c23b0 : (a0 == 6) = false := beq_eq_false_iff_ne.mpr c23
                      have c23b1 : (a0 != 6) = true := bne_iff_ne.mpr c23
                      by_cases c25 : a0 = 7
                      · rw [if_pos c25] at H
                        have c25b0 : (a0 == 7) = true := beq_iff_eq.mpr c25
                        have c25b1 : (a0 != 7) = false := bne_eq_false_iff_eq.mpr c25
                        clear c25
                        replace H := Option.bind_eq_some_iff.mp H
                        obtain ⟨t132, A260, H⟩ := H
                        replace H : (some (Go.bits .and .i64 (a1 / 2) 255, t132)) = some (r1, r2) := H
                        have A26 := Aside0.mk A260
                        clear A260
                        simp only [Option.some.injEq, Prod.mk.injEq] at H
                        obtain ⟨rfl, rfl⟩ := H
                        go_wp2_with (first | ((with_reducible refine gate_callee (f := 55) rfl ?_); refine goesL_ (some 98) rfl rfl Try.func55 (by kernel_rfl) rfl #[.bool ((Go.bits .and .i64 (a1 / 2) 255) == 0), .bool false, .bool false, .bool ((Go.bits .and .i64 a1 1) == 1)] rfl (by (try simp only [List.map_toArray, List.map_cons, List.map_nil]); first | done | rfl | (simp only [List.length_drop, List.length_take]; rfl)) ?_; (with_reducible refine (impl_flags.calls kj3 ((Go.bits .and .i64 (a1 / 2) 255) == 0) false false ((Go.bits .and .i64 a1 1) == 1) t132 _ A26.out).mono ?_); rintro e w' ⟨rfl, ⟨nd, rfl⟩⟩; refine ⟨_, rfl, ?_⟩))
                        go_ret2
                        exact ⟨by first | rfl | (simp; done) | (simp [*]; done), by repeat (first | exact Drawn0.refl _ | apply Drawn0.step)⟩
                      · rw [if_neg c25] at H
                        have c25b0 : (a0 == 7) = false := beq_eq_false_iff_ne.mpr c25
                        have c25b1 : (a0 != 7) = true := bne_iff_ne.mpr c25
                        replace H := Option.bind_eq_some_iff.mp H
                        obtain ⟨t133, A270, H⟩ := H
                        replace H : (some (Go.bits .and .i64 0 255, t133)) = some (r1, r2) := H
                        have A27 := Aside0.mk A270
                        clear A270
                        simp only [Option.some.injEq, Prod.mk.injEq] at H
                        obtain ⟨rfl, rfl⟩ := H
                        go_wp2_with (first | ((with_reducible refine gate_callee (f := 55) rfl ?_); refine goesL_ (some 98) rfl rfl Try.func55 (by kernel_rfl) rfl #[.bool ((Go.bits .and .i64 0 255) == 0), .bool false, .bool false, .bool (0 == 1)] rfl (by (try simp only [List.map_toArray, List.map_cons, List.map_nil]); first | done | rfl | (simp only [List.length_drop, List.length_take]; rfl)) ?_; (with_reducible refine (impl_flags.calls kj3 ((Go.bits .and .i64 0 255) == 0) false false (0 == 1) t133 _ A27.out).mono ?_); rintro e w' ⟨rfl, ⟨nd, rfl⟩⟩; refine ⟨_, rfl, ?_⟩))
                        go_ret2
                        exact ⟨by first | rfl | (simp; done) | (simp [*]; done), by repeat (first | exact Drawn0.refl _ | apply Drawn0.step)⟩

/-! ### laws_FnExactTurned: function 8 -/
def laws_FnExactTurned.f (k : Nat) (a0 : Int) (a1 : Int) (a2 : Int) : Option (Bool) := (spec_Turned.f a0 a1 a2).bind fun bt134 => ((impl_Turned.f k a0 a1 a2).bind fun bt136 => (if bt136.1 = bt134.1 then (if bt136.2 = bt134.2 then (some true) else (some false)) else (some false)))
theorem laws_FnExactTurned.mono : ∀ a0 a1 a2 k, LeO (laws_FnExactTurned.f k a0 a1 a2) (laws_FnExactTurned.f (k + 1) a0 a1 a2) := by
  intro a0 a1 a2 k
  unfold laws_FnExactTurned.f
  repeat' first
      | (with_reducible exact impl_Turned.mono _ _ _ _)
      | (with_reducible exact LeO.refl _)
      | (with_reducible exact LeO.none _)
      | (with_reducible refine LeO.ite ?_ ?_)
      | (with_reducible refine LeO.bind ?_ (fun _ => ?_))
      | exact impl_Turned.mono _ _ _ _
      | exact LeO.none _
      | refine LeO.ite ?_ ?_
      | refine LeO.bind ?_ (fun _ => ?_)
set_option maxHeartbeats 8000000 in
set_option maxRecDepth 100000 in
theorem laws_FnExactTurned.calls (k : Nat) (a0 : Int) (a1 : Int) (a2 : Int) (r : Bool) (w : World) (h : laws_FnExactTurned.f k a0 a1 a2 = some r) :
    Calls Try.prog 8 #[.int .i64 a0, .int .i64 a1, .int .i64 a2] w fun e w' => e = .returned (.bool r) ∧ Drawn0 w w' := by
  have H : ((spec_Turned.f a0 a1 a2).bind fun bt134 => ((impl_Turned.f k a0 a1 a2).bind fun bt136 => (if bt136.1 = bt134.1 then (if bt136.2 = bt134.2 then (some true) else (some false)) else (some false)))) = some r := h
  clear h
  replace H := Option.bind_eq_some_iff.mp H
  obtain ⟨⟨t134, t135⟩, A40, H⟩ := H
  replace H : ((impl_Turned.f k a0 a1 a2).bind fun bt136 => (if bt136.1 = t134 then (if bt136.2 = t135 then (some true) else (some false)) else (some false))) = some r := H
  have A4 := Aside0.mk A40
  clear A40
  replace H := Option.bind_eq_some_iff.mp H
  obtain ⟨⟨t136, t137⟩, A50, H⟩ := H
  replace H : (if t136 = t134 then (if t137 = t135 then (some true) else (some false)) else (some false)) = some r := H
  have A5 := Aside0.mk A50
  clear A50
  by_cases c6 : t136 = t134
  · rw [if_pos c6] at H
    have c6b0 : (t136 == t134) = true := beq_iff_eq.mpr c6
    have c6b1 : (t136 != t134) = false := bne_eq_false_iff_eq.mpr c6
    clear c6
    by_cases c7 : t137 = t135
    · rw [if_pos c7] at H
      have c7b0 : (t137 == t135) = true := beq_iff_eq.mpr c7
      have c7b1 : (t137 != t135) = false := bne_eq_false_iff_eq.mpr c7
      clear c7
      obtain rfl := Option.some.inj H
      go_enter Try.func8, Try.ntmps8
      go_wp2_with (first | ((with_reducible refine gate_callee (f := 27) rfl ?_); refine goesL_ (some 15) rfl rfl Try.func27 (by kernel_rfl) rfl #[.int .i64 a0, .int .i64 a1, .int .i64 a2] rfl (by (try simp only [List.map_toArray, List.map_cons, List.map_nil]); first | done | rfl | (simp only [List.length_drop, List.length_take]; rfl)) ?_; (with_reducible refine (spec_Turned.calls a0 a1 a2 t134 t135 _ A4.out).mono ?_); rintro e w' ⟨rfl, ⟨nd, rfl⟩⟩; refine ⟨_, rfl, ?_⟩) | ((with_reducible refine gate_callee (f := 28) rfl ?_); refine goesL_ (some 22) rfl rfl Try.func28 (by kernel_rfl) rfl #[.int .i64 a0, .int .i64 a1, .int .i64 a2] rfl (by (try simp only [List.map_toArray, List.map_cons, List.map_nil]); first | done | rfl | (simp only [List.length_drop, List.length_take]; rfl)) ?_; (with_reducible refine (impl_Turned.calls k a0 a1 a2 t136 t137 _ A5.out).mono ?_); rintro e w' ⟨rfl, ⟨nd, rfl⟩⟩; refine ⟨_, rfl, ?_⟩))
      go_ret
      exact ⟨by first | rfl | (simp; done) | (simp [*]; done), by repeat (first | exact Drawn0.refl _ | apply Drawn0.step)⟩
    · rw [if_neg c7] at H
      have c7b0 : (t137 == t135) = false := beq_eq_false_iff_ne.mpr c7
      have c7b1 : (t137 != t135) = true := bne_iff_ne.mpr c7
      obtain rfl := Option.some.inj H
      go_enter Try.func8, Try.ntmps8
      go_wp2_with (first | ((with_reducible refine gate_callee (f := 27) rfl ?_); refine goesL_ (some 15) rfl rfl Try.func27 (by kernel_rfl) rfl #[.int .i64 a0, .int .i64 a1, .int .i64 a2] rfl (by (try simp only [List.map_toArray, List.map_cons, List.map_nil]); first | done | rfl | (simp only [List.length_drop, List.length_take]; rfl)) ?_; (with_reducible refine (spec_Turned.calls a0 a1 a2 t134 t135 _ A4.out).mono ?_); rintro e w' ⟨rfl, ⟨nd, rfl⟩⟩; refine ⟨_, rfl, ?_⟩) | ((with_reducible refine gate_callee (f := 28) rfl ?_); refine goesL_ (some 22) rfl rfl Try.func28 (by kernel_rfl) rfl #[.int .i64 a0, .int .i64 a1, .int .i64 a2] rfl (by (try simp only [List.map_toArray, List.map_cons, List.map_nil]); first | done | rfl | (simp only [List.length_drop, List.length_take]; rfl)) ?_; (with_reducible refine (impl_Turned.calls k a0 a1 a2 t136 t137 _ A5.out).mono ?_); rintro e w' ⟨rfl, ⟨nd, rfl⟩⟩; refine ⟨_, rfl, ?_⟩))
      go_ret
      exact ⟨by first | rfl | (simp; done) | (simp [*]; done), by repeat (first | exact Drawn0.refl _ | apply Drawn0.step)⟩
  · rw [if_neg c6] at H
    have c6b0 : (t136 == t134) = false := beq_eq_false_iff_ne.mpr c6
    have c6b1 : (t136 != t134) = true := bne_iff_ne.mpr c6
    obtain rfl := Option.some.inj H
    go_enter Try.func8, Try.ntmps8
    go_wp2_with (first | ((with_reducible refine gate_callee (f := 27) rfl ?_); refine goesL_ (some 15) rfl rfl Try.func27 (by kernel_rfl) rfl #[.int .i64 a0, .int .i64 a1, .int .i64 a2] rfl (by (try simp only [List.map_toArray, List.map_cons, List.map_nil]); first | done | rfl | (simp only [List.length_drop, List.length_take]; rfl)) ?_; (with_reducible refine (spec_Turned.calls a0 a1 a2 t134 t135 _ A4.out).mono ?_); rintro e w' ⟨rfl, ⟨nd, rfl⟩⟩; refine ⟨_, rfl, ?_⟩) | ((with_reducible refine gate_callee (f := 28) rfl ?_); refine goesL_ (some 22) rfl rfl Try.func28 (by kernel_rfl) rfl #[.int .i64 a0, .int .i64 a1, .int .i64 a2] rfl (by (try simp only [List.map_toArray, List.map_cons, List.map_nil]); first | done | rfl | (simp only [List.length_drop, List.length_take]; rfl)) ?_; (with_reducible refine (impl_Turned.calls k a0 a1 a2 t136 t137 _ A5.out).mono ?_); rintro e w' ⟨rfl, ⟨nd, rfl⟩⟩; refine ⟨_, rfl, ?_⟩))
    go_ret
    exact ⟨by first | rfl | (simp; done) | (simp [*]; done), by repeat (first | exact Drawn0.refl _ | apply Drawn0.step)⟩

/-- THE ONE PURE STATEMENT of laws_FnExactTurned: yours. -/
def laws_FnExactTurned.Pure : Prop := ∀ (a0 : Int) (a1 : Int) (a2 : Int), (Lit.int .i64 a0).wf = true → (Lit.int .i64 a1).wf = true → (Lit.int .i64 a2).wf = true → ∃ k, laws_FnExactTurned.f k a0 a1 a2 = some true
theorem laws_FnExactTurned.walk (P : laws_FnExactTurned.Pure) (a0 : Int) (a1 : Int) (a2 : Int) (w : World) (w0 : (Lit.int .i64 a0).wf = true) (w1 : (Lit.int .i64 a1).wf = true) (w2 : (Lit.int .i64 a2).wf = true) :
    Calls Try.prog 8 #[.int .i64 a0, .int .i64 a1, .int .i64 a2] w fun e w' => e = .returned (.bool true) ∧ Below w.heap.size w w' := by
  obtain ⟨k, h⟩ := P a0 a1 a2 w0 w1 w2
  refine (laws_FnExactTurned.calls k a0 a1 a2 true w h).mono ?_
  rintro e w' ⟨rfl, hd⟩
  exact ⟨rfl, hd.below⟩

end Go.Proofs.Ytnchhhafdkpmaaa.PFnExactTurned
