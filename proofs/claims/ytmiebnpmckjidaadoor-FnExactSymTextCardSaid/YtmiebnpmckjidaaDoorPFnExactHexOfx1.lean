/- What the Go functions that the law FnExactHexOf reaches compute, function by function, and that Go comes to just that. -/
import Derived.Test.YtmiebnpmckjidaaDoorPFnExactHexOfx0
namespace Go.Proofs.YtmiebnpmckjidaaDoor.PFnExactHexOf
open Go.RowKit Go.Proofs.YtmiebnpmckjidaaDoorW.PrintWords Go.Proofs.YtmiebnpmckjidaaDoorW.PrintLast Go.Proofs.YtmiebnpmckjidaaDoorW.PrintMore
attribute [local go_sem] max2_int min2_int max_two min_two max_three min_three max_four min_four   -- for this text's walks alone
set_option linter.unusedVariables false
set_option linter.unusedSimpArgs false

/-! ### spec_l1In: function 46 -/
def spec_l1In.f (a0 : Int) (a1 : Int) (a2 : Int) : Option (Bool) := if a0 ≥ a1 then (some (decide (a0 ≤ a2))) else (some false)
set_option maxHeartbeats 8000000 in
set_option maxRecDepth 100000 in
theorem spec_l1In.calls (a0 : Int) (a1 : Int) (a2 : Int) (r : Bool) (w : World) (h : spec_l1In.f a0 a1 a2 = some r) :
    Calls Tryd.prog 46 #[.int .i64 a0, .int .i64 a1, .int .i64 a2] w fun e w' => e = .returned (.bool r) ∧ Drawn0 w w' := by
  have H : (if a0 ≥ a1 then (some (decide (a0 ≤ a2))) else (some false)) = some r := h
  clear h
  by_cases c4 : a0 ≥ a1
  · rw [if_pos c4] at H
    have c4b0 : decide (a1 ≤ a0) = true := decide_eq_true c4
    clear c4
    obtain rfl := Option.some.inj H
    go_enter Tryd.func46, Tryd.ntmps46
    go_wp2
    first | go_ret | ((try simp only [Exit.inBlock, Exit.then]); apply bodyPost_ret; (exact results_tmp rfl _ _ _); rfl)
    exact ⟨by first | rfl | (simp; done) | (simp [*]; done), by repeat (first | exact Drawn0.refl _ | apply Drawn0.step)⟩
  · rw [if_neg c4] at H
    have c4b0 : decide (a1 ≤ a0) = false := decide_eq_false c4
    clear c4
    obtain rfl := Option.some.inj H
    go_enter Tryd.func46, Tryd.ntmps46
    go_wp2
    first | go_ret | ((try simp only [Exit.inBlock, Exit.then]); apply bodyPost_ret; (exact results_tmp rfl _ _ _); rfl)
    exact ⟨by first | rfl | (simp; done) | (simp [*]; done), by repeat (first | exact Drawn0.refl _ | apply Drawn0.step)⟩

/-! ### spec_HexOf: function 14 -/
mutual
def spec_HexOf.j0 : Nat → Int → Int → Bool → Option (ByteArray)
  | 0, _, _, _ => none
  | k + 1, x0, x1, x14 => if x14 = true then (some (⟨#[]⟩ : ByteArray)) else (spec_HexOf.l0 k x0 x1 (⟨#[]⟩ : ByteArray) 0)
def spec_HexOf.l0 : Nat → Int → Int → ByteArray → Int → Option (ByteArray)
  | 0, _, _, _, _ => none
  | k + 1, x0, x1, x5, x6 => if x6 < x1 then (if 0 ≤ (Int.tmod x0 16) then (if (Int.tmod x0 16) ≤ (wrap64 ((Int.tmod x0 16) + 1)) then (if (wrap64 ((Int.tmod x0 16) + 1)) ≤ 16 then (if ((⟨#[48, 49, 50, 51, 52, 53, 54, 55, 56, 57, 65, 66, 67, 68, 69, 70]⟩ : ByteArray).extract ((Int.tmod x0 16) : Int).toNat ((wrap64 ((Int.tmod x0 16) + 1)) : Int).toNat).size + x5.size ≤ 9223372036854775807 then (spec_HexOf.l0 k (wrap64 (Int.tdiv x0 16)) x1 (((⟨#[48, 49, 50, 51, 52, 53, 54, 55, 56, 57, 65, 66, 67, 68, 69, 70]⟩ : ByteArray).extract ((Int.tmod x0 16) : Int).toNat ((wrap64 ((Int.tmod x0 16) + 1)) : Int).toNat) ++ x5) (wrap64 (x6 + 1))) else (none)) else (none)) else (none)) else (none)) else (if x0 > 0 then (some (⟨#[]⟩ : ByteArray)) else (if 1 + x5.size ≤ 9223372036854775807 then (some ((⟨#[36]⟩ : ByteArray) ++ x5)) else (none)))
end
def spec_HexOf.f (k : Nat) (a0 : Int) (a1 : Int) : Option (ByteArray) := (spec_l1In.f a1 1 4).bind fun t101 => (if t101 = true then ((spec_l1In.f a0 0 65535).bind fun t102 => (spec_HexOf.j0 k a0 a1 (!t102))) else (spec_HexOf.j0 k a0 a1 true))
theorem spec_HexOf.mono_l : ∀ k, (∀ y0 y1 y2, LeO (spec_HexOf.j0 k y0 y1 y2) (spec_HexOf.j0 (k + 1) y0 y1 y2)) ∧ (∀ y0 y1 y2 y3, LeO (spec_HexOf.l0 k y0 y1 y2 y3) (spec_HexOf.l0 (k + 1) y0 y1 y2 y3))
  | 0 => ⟨fun _ _ _ r h => by simp [spec_HexOf.j0] at h, fun _ _ _ _ r h => by simp [spec_HexOf.l0] at h⟩
  | k + 1 => by
    obtain ⟨ih0, ih1⟩ := spec_HexOf.mono_l k
    refine ⟨?_, ?_⟩
    · intro y0 y1 y2
      unfold spec_HexOf.j0
      repeat' first
      | (with_reducible exact ih0 _ _ _)
      | (with_reducible exact ih1 _ _ _ _)
      | (with_reducible exact LeO.refl _)
      | (with_reducible exact LeO.none _)
      | (with_reducible refine LeO.ite ?_ ?_)
      | (with_reducible refine LeO.bind ?_ (fun _ => ?_))
      | exact ih0 _ _ _
      | exact ih1 _ _ _ _
      | exact LeO.none _
      | refine LeO.ite ?_ ?_
      | refine LeO.bind ?_ (fun _ => ?_)
    · intro y0 y1 y2 y3
      unfold spec_HexOf.l0
      repeat' first
      | (with_reducible exact ih0 _ _ _)
      | (with_reducible exact ih1 _ _ _ _)
      | (with_reducible exact LeO.refl _)
      | (with_reducible exact LeO.none _)
      | (with_reducible refine LeO.ite ?_ ?_)
      | (with_reducible refine LeO.bind ?_ (fun _ => ?_))
      | exact ih0 _ _ _
      | exact ih1 _ _ _ _
      | exact LeO.none _
      | refine LeO.ite ?_ ?_
      | refine LeO.bind ?_ (fun _ => ?_)
theorem spec_HexOf.mono : ∀ a0 a1 k, LeO (spec_HexOf.f k a0 a1) (spec_HexOf.f (k + 1) a0 a1) := by
  intro a0 a1 k
  obtain ⟨ih0, ih1⟩ := spec_HexOf.mono_l k
  unfold spec_HexOf.f
  repeat' first
      | (with_reducible exact ih0 _ _ _)
      | (with_reducible exact ih1 _ _ _ _)
      | (with_reducible exact LeO.refl _)
      | (with_reducible exact LeO.none _)
      | (with_reducible refine LeO.ite ?_ ?_)
      | (with_reducible refine LeO.bind ?_ (fun _ => ?_))
      | exact ih0 _ _ _
      | exact ih1 _ _ _ _
      | exact LeO.none _
      | refine LeO.ite ?_ ?_
      | refine LeO.bind ?_ (fun _ => ?_)
set_option maxHeartbeats 8000000 in
set_option maxRecDepth 100000 in
theorem spec_HexOf.calls (k : Nat) (a0 : Int) (a1 : Int) (r : ByteArray) (w : World) (h : spec_HexOf.f k a0 a1 = some r) :
    Calls Tryd.prog 14 #[.int .i64 a0, .int .i64 a1] w fun e w' => e = .returned (.string r) ∧ Drawn0 w w' := by
  have H : ((spec_l1In.f a1 1 4).bind fun t101 => (if t101 = true then ((spec_l1In.f a0 0 65535).bind fun t102 => (spec_HexOf.j0 k a0 a1 (!t102))) else (spec_HexOf.j0 k a0 a1 true))) = some r := h
  clear h
  have HC3 := Aside0.mk H
  clear H
  go_enter Tryd.func14, Tryd.ntmps14
  go_upto_region 1 with (fail)
  go_cut [14] (fun v14 wc => ∃ (kq : Nat) (x14_2 : Bool), v14 = .bool x14_2 ∧ Aside0 (spec_HexOf.j0 kq a0 a1 x14_2 = some r) ∧ Aside0 (kq ≤ k) ∧ Drawn0 w wc)
  case first =>
    have H := HC3.out
    clear HC3
    replace H := Option.bind_eq_some_iff.mp H
    obtain ⟨t101, A40, H⟩ := H
    replace H : (if t101 = true then ((spec_l1In.f a0 0 65535).bind fun t102 => (spec_HexOf.j0 k a0 a1 (!t102))) else (spec_HexOf.j0 k a0 a1 true)) = some r := H
    have A4 := Aside0.mk A40
    clear A40
    by_cases c5 : t101 = true
    · subst c5
      have H1 : ((spec_l1In.f a0 0 65535).bind fun t102 => (spec_HexOf.j0 k a0 a1 (!t102))) = some r := by rw [if_pos rfl] at H; exact H
      clear H
      have H := H1
      clear H1
      replace H := Option.bind_eq_some_iff.mp H
      obtain ⟨t102, A60, H⟩ := H
      replace H : (spec_HexOf.j0 k a0 a1 (!t102)) = some r := H
      have A6 := Aside0.mk A60
      clear A60
      have H' := Aside0.mk H
      clear H
      go_wp2_with (first | ((with_reducible refine gate_callee (f := 46) rfl ?_); refine goesL_ (some 8) rfl rfl Tryd.func46 (by kernel_rfl) rfl #[.int .i64 a1, .int .i64 1, .int .i64 4] rfl (by (try simp only [List.map_toArray, List.map_cons, List.map_nil]); first | done | rfl | (simp only [List.length_drop, List.length_take]; rfl)) ?_; (with_reducible refine (spec_l1In.calls a1 1 4 true _ A4.out).mono ?_); rintro e w' ⟨rfl, ⟨nd, rfl⟩⟩; refine ⟨_, rfl, ?_⟩) | (go_at_call 46; (with_reducible refine (spec_l1In.calls a0 0 65535 t102 _ A6.out).mono ?_); rintro e w' ⟨rfl, ⟨nd, rfl⟩⟩))
      go_meet
      case rel => exact ⟨_, (!t102), (by first | rfl | (simp; done) | (simp [*]; done)), H', ⟨by first | omega | exact Nat.le_refl _⟩, by repeat (first | exact Drawn0.refl _ | apply Drawn0.step)⟩
    · replace c5 := Bool.eq_false_iff.mpr c5
      subst c5
      have H1 : (spec_HexOf.j0 k a0 a1 true) = some r := by rw [if_neg (show ¬ (false = true) by decide)] at H; exact H
      clear H
      have H := H1
      clear H1
      have H' := Aside0.mk H
      clear H
      go_wp2_with (first | ((with_reducible refine gate_callee (f := 46) rfl ?_); refine goesL_ (some 8) rfl rfl Tryd.func46 (by kernel_rfl) rfl #[.int .i64 a1, .int .i64 1, .int .i64 4] rfl (by (try simp only [List.map_toArray, List.map_cons, List.map_nil]); first | done | rfl | (simp only [List.length_drop, List.length_take]; rfl)) ?_; (with_reducible refine (spec_l1In.calls a1 1 4 false _ A4.out).mono ?_); rintro e w' ⟨rfl, ⟨nd, rfl⟩⟩; refine ⟨_, rfl, ?_⟩))
      go_meet
      case rel => exact ⟨_, (true), (by first | rfl | (simp; done) | (simp [*]; done)), H', ⟨by first | omega | exact Nat.le_refl _⟩, by repeat (first | exact Drawn0.refl _ | apply Drawn0.step)⟩
  case rest =>
    clear HC3
    try clear c1
    try clear p2
    try clear c4
    try clear c5
    obtain ⟨kq, x14_2, rfl, HA, HJ2, ⟨mc2, rfl⟩⟩ := hcut
    cases kq with
    | zero => exact absurd HA.out (by simp [spec_HexOf.j0])
    | succ kj2 =>
      have H := HA.out
      clear HA
      simp only [spec_HexOf.j0] at H
      by_cases c7 : x14_2 = true
      · subst c7
        have H1 : (some (⟨#[]⟩ : ByteArray)) = some r := by rw [if_pos rfl] at H; exact H
        clear H
        have H := H1
        clear H1
        obtain rfl := Option.some.inj H
        go_wp2
        first | go_ret | ((try simp only [Exit.inBlock, Exit.then]); apply bodyPost_ret; (exact results_tmp rfl _ _ _); rfl)
        exact ⟨by first | rfl | (simp; done) | (simp [*]; done), by repeat (first | exact Drawn0.refl _ | apply Drawn0.step)⟩
      · replace c7 := Bool.eq_false_iff.mpr c7
        subst c7
        have H1 : (spec_HexOf.l0 kj2 a0 a1 (⟨#[]⟩ : ByteArray) 0) = some r := by rw [if_neg (show ¬ (false = true) by decide)] at H; exact H
        clear H
        have H := H1
        clear H1
        have H' := Aside0.mk H
        clear H
        go_wp2
        go_loopg [0, 5, 6] kj2 (fun kq v0 v5 v6 w' => ∃ (x0_2 : Int) (x5_2 : ByteArray) (x6_2 : Int), v0 = .int .i64 x0_2 ∧ v5 = .string x5_2 ∧ v6 = .int .i64 x6_2 ∧ Aside0 (spec_HexOf.l0 kq x0_2 a1 x5_2 x6_2 = some r) ∧ Aside0 (kq ≤ kj2) ∧ Drawn0 w w')
        case atStart => exact ⟨(a0), ((⟨#[]⟩ : ByteArray)), (0), (by first | rfl | (simp; done) | (simp [*]; done)), (by first | rfl | (simp; done) | (simp [*]; done)), (by first | rfl | (simp; done) | (simp [*]; done)), H', ⟨Nat.le_refl _⟩, by repeat (first | exact Drawn0.refl _ | apply Drawn0.step)⟩
        case round =>
          clear H'
          try clear c1
          try clear c2
          try clear p2
          try clear c4
          try clear c5
          try clear c7
          try clear p2
          obtain ⟨x0_2, x5_2, x6_2, rfl, rfl, rfl, HA, HK2, ⟨m2, rfl⟩⟩ := hrel
          cases gk with
          | zero => exact absurd HA.out (by simp [spec_HexOf.l0])
          | succ k2 =>
            have H := HA.out
            clear HA
            simp only [spec_HexOf.l0] at H
            by_cases c8 : x6_2 < a1
            · rw [if_pos c8] at H
              have c8b0 : decide (x6_2 < a1) = true := decide_eq_true c8
              clear c8
              obtain ⟨ji9, hji9⟩ : ∃ j_ : Int, (Int.tmod x0_2 16) = j_ := ⟨_, rfl⟩
              replace H : (if 0 ≤ (ji9) then (if (ji9) ≤ (wrap64 ((ji9) + 1)) then (if (wrap64 ((ji9) + 1)) ≤ 16 then (if ((⟨#[48, 49, 50, 51, 52, 53, 54, 55, 56, 57, 65, 66, 67, 68, 69, 70]⟩ : ByteArray).extract ((ji9) : Int).toNat ((wrap64 ((ji9) + 1)) : Int).toNat).size + x5_2.size ≤ 9223372036854775807 then (spec_HexOf.l0 k2 (wrap64 (Int.tdiv x0_2 16)) a1 (((⟨#[48, 49, 50, 51, 52, 53, 54, 55, 56, 57, 65, 66, 67, 68, 69, 70]⟩ : ByteArray).extract ((ji9) : Int).toNat ((wrap64 ((ji9) + 1)) : Int).toNat) ++ x5_2) (wrap64 (x6_2 + 1))) else (none)) else (none)) else (none)) else (none)) = some r := by first | (rw [hji9] at H; exact H) | (simp only [hji9] at H ⊢; exact H)
              by_cases c10 : 0 ≤ (ji9)
              · rw [if_pos c10] at H
                have c10b0 := eq_true c10
                have c10b1 : decide (0 ≤ (ji9)) = true := decide_eq_true c10
                clear c10
                by_cases c11 : (ji9) ≤ (wrap64 ((ji9) + 1))
                · rw [if_pos c11] at H
                  have c11b0 := eq_true c11
                  have c11b1 : decide ((ji9) ≤ (wrap64 ((ji9) + 1))) = true := decide_eq_true c11
                  by_cases c12 : (wrap64 ((ji9) + 1)) ≤ 16
                  · rw [if_pos c12] at H
                    have c12b0 := eq_true c12
                    have c12b1 : decide ((wrap64 ((ji9) + 1)) ≤ 16) = true := decide_eq_true c12
                    by_cases c13 : ((⟨#[48, 49, 50, 51, 52, 53, 54, 55, 56, 57, 65, 66, 67, 68, 69, 70]⟩ : ByteArray).extract ((ji9) : Int).toNat ((wrap64 ((ji9) + 1)) : Int).toNat).size + x5_2.size ≤ 9223372036854775807
                    · rw [if_pos c13] at H
                      have c13b0 := eq_true c13
                      have c13b1 : decide (((⟨#[48, 49, 50, 51, 52, 53, 54, 55, 56, 57, 65, 66, 67, 68, 69, 70]⟩ : ByteArray).extract ((ji9) : Int).toNat ((wrap64 ((ji9) + 1)) : Int).toNat).size + x5_2.size ≤ 9223372036854775807) = true := decide_eq_true c13
                      try have c13b2 : (9223372036854775807 < ((⟨#[48, 49, 50, 51, 52, 53, 54, 55, 56, 57, 65, 66, 67, 68, 69, 70]⟩ : ByteArray).extract ((ji9) : Int).toNat ((wrap64 ((ji9) + 1)) : Int).toNat).size + x5_2.size) = False := eq_false (Nat.not_lt.2 c13)
                      have H' := Aside0.mk H
                      clear H
                      go_wp2
                      go_roundg k2
                      case measure => have := HJ2.out; have := HK2.out; omega
                      case rel => exact ⟨(wrap64 (Int.tdiv x0_2 16)), (((⟨#[48, 49, 50, 51, 52, 53, 54, 55, 56, 57, 65, 66, 67, 68, 69, 70]⟩ : ByteArray).extract ((ji9) : Int).toNat ((wrap64 ((ji9) + 1)) : Int).toNat) ++ x5_2), (wrap64 (x6_2 + 1)), (by first | rfl | (simp; done) | (simp [*]; done)), (by first | rfl | (simp; done) | (simp only [← hji9] <;> (first | rfl | simp)) | (simp [*]; done)), (by first | rfl | (simp; done) | (simp [*]; done)), H', ⟨by have := HJ2.out; have := HK2.out; omega⟩, by repeat (first | exact Drawn0.refl _ | apply Drawn0.step)⟩
                    · rw [if_neg c13] at H
                      exact absurd H (by simp)
                  · rw [if_neg c12] at H
                    exact absurd H (by simp)
                · rw [if_neg c11] at H
                  exact absurd H (by simp)
              · rw [if_neg c10] at H
                exact absurd H (by simp)
            · rw [if_neg c8] at H
              have c8b0 : decide (x6_2 < a1) = false := decide_eq_false c8
              clear c8
              by_cases c14 : x0_2 > 0
              · rw [if_pos c14] at H
                have c14b0 : decide (0 < x0_2) = true := decide_eq_true c14
                clear c14
                obtain rfl := Option.some.inj H
                go_wp2
                first | go_ret | ((try simp only [Exit.inBlock, Exit.then]); apply bodyPost_ret; (exact results_tmp rfl _ _ _); rfl)
                exact ⟨by first | rfl | (simp; done) | (simp [*]; done), by repeat (first | exact Drawn0.refl _ | apply Drawn0.step)⟩
              · rw [if_neg c14] at H
                have c14b0 : decide (0 < x0_2) = false := decide_eq_false c14
                clear c14
                by_cases c15 : 1 + x5_2.size ≤ 9223372036854775807
                · rw [if_pos c15] at H
                  have c15b0 := eq_true c15
                  have c15b1 : decide (1 + x5_2.size ≤ 9223372036854775807) = true := decide_eq_true c15
                  try have c15b2 : (9223372036854775807 < 1 + x5_2.size) = False := eq_false (Nat.not_lt.2 c15)
                  obtain rfl := Option.some.inj H
                  go_wp2
                  first | go_ret | ((try simp only [Exit.inBlock, Exit.then]); apply bodyPost_ret; (exact results_tmp rfl _ _ _); rfl)
                  exact ⟨by first | rfl | (simp; done) | (simp [*]; done), by repeat (first | exact Drawn0.refl _ | apply Drawn0.step)⟩
                · rw [if_neg c15] at H
                  exact absurd H (by simp)

/-! ### impl_within: function 47 -/
def impl_within.f (a0 : Int) (a1 : Int) (a2 : Int) : Option (Bool) := if a0 ≥ a1 then (some (decide (a0 ≤ a2))) else (some false)
set_option maxHeartbeats 8000000 in
set_option maxRecDepth 100000 in
theorem impl_within.calls (a0 : Int) (a1 : Int) (a2 : Int) (r : Bool) (w : World) (h : impl_within.f a0 a1 a2 = some r) :
    Calls Tryd.prog 47 #[.int .i64 a0, .int .i64 a1, .int .i64 a2] w fun e w' => e = .returned (.bool r) ∧ Drawn0 w w' := by
  have H : (if a0 ≥ a1 then (some (decide (a0 ≤ a2))) else (some false)) = some r := h
  clear h
  by_cases c4 : a0 ≥ a1
  · rw [if_pos c4] at H
    have c4b0 : decide (a1 ≤ a0) = true := decide_eq_true c4
    clear c4
    obtain rfl := Option.some.inj H
    go_enter Tryd.func47, Tryd.ntmps47
    go_wp2
    first | go_ret | ((try simp only [Exit.inBlock, Exit.then]); apply bodyPost_ret; (exact results_tmp rfl _ _ _); rfl)
    exact ⟨by first | rfl | (simp; done) | (simp [*]; done), by repeat (first | exact Drawn0.refl _ | apply Drawn0.step)⟩
  · rw [if_neg c4] at H
    have c4b0 : decide (a1 ≤ a0) = false := decide_eq_false c4
    clear c4
    obtain rfl := Option.some.inj H
    go_enter Tryd.func47, Tryd.ntmps47
    go_wp2
    first | go_ret | ((try simp only [Exit.inBlock, Exit.then]); apply bodyPost_ret; (exact results_tmp rfl _ _ _); rfl)
    exact ⟨by first | rfl | (simp; done) | (simp [*]; done), by repeat (first | exact Drawn0.refl _ | apply Drawn0.step)⟩

/-! ### impl_isWord: function 48 -/
def impl_isWord.f (a0 : Int) : Option (Bool) := (impl_within.f a0 0 65535).bind fun t103 => (some t103)
set_option maxHeartbeats 8000000 in
set_option maxRecDepth 100000 in
theorem impl_isWord.calls (a0 : Int) (r : Bool) (w : World) (h : impl_isWord.f a0 = some r) :
    Calls Tryd.prog 48 #[.int .i64 a0] w fun e w' => e = .returned (.bool r) ∧ Drawn0 w w' := by
  have H : ((impl_within.f a0 0 65535).bind fun t103 => (some t103)) = some r := h
  clear h
  replace H := Option.bind_eq_some_iff.mp H
  obtain ⟨t103, A20, H⟩ := H
  replace H : (some t103) = some r := H
  have A2 := Aside0.mk A20
  clear A20
  obtain rfl := Option.some.inj H
  go_enter Tryd.func48, Tryd.ntmps48
  go_wp2_with (first | ((with_reducible refine gate_callee (f := 47) rfl ?_); refine goesL_ (some 4) rfl rfl Tryd.func47 (by kernel_rfl) rfl #[.int .i64 a0, .int .i64 0, .int .i64 65535] rfl (by (try simp only [List.map_toArray, List.map_cons, List.map_nil]); first | done | rfl | (simp only [List.length_drop, List.length_take]; rfl)) ?_; (with_reducible refine (impl_within.calls a0 0 65535 t103 _ A2.out).mono ?_); rintro e w' ⟨rfl, ⟨nd, rfl⟩⟩; refine ⟨_, rfl, ?_⟩))
  first | go_ret | ((try simp only [Exit.inBlock, Exit.then]); apply bodyPost_ret; (exact results_tmp rfl _ _ _); rfl)
  exact ⟨by first | rfl | (simp; done) | (simp [*]; done), by repeat (first | exact Drawn0.refl _ | apply Drawn0.step)⟩

/-! ### strings_ToUpper: function 93 -/
def strings_ToUpper.f (a0 : ByteArray) : Option ByteArray := if a0.size ≤ 140737488355328 then (if (a0.data.toList.all fun b => decide (b.toNat < 128)) = true then some ⟨(Go.Lib.toUpperA a0.data.toList).toArray⟩ else none) else none
theorem strings_ToUpper.calls (a0 : ByteArray) (r : ByteArray) (w : World) (h : strings_ToUpper.f a0 = some r) :
    Calls Tryd.prog 93 #[.string a0] w fun e w' => e = .returned (.string r) ∧ Below w.heap.size w w' := by
  unfold strings_ToUpper.f at h
  by_cases h0 : a0.size ≤ 140737488355328
  · by_cases h1 : (a0.data.toList.all fun b => decide (b.toNat < 128)) = true
    · rw [if_pos h0, if_pos h1] at h
      obtain rfl := Option.some.inj h
      exact Tryd.strings_ToUpper_ascii a0 w h0 (fun j b hb => of_decide_eq_true (List.all_eq_true.1 h1 b (List.mem_of_getElem? hb)))
    · rw [if_pos h0, if_neg h1] at h
      cases h
  · rw [if_neg h0] at h
    cases h

/-! ### strconv_FormatInt: function 94 -/
open Go.Proofs.YtmiebnpmckjidaaDoor.Aid
def strconv_FormatInt.f (a0 a1 : Int) : Option ByteArray := if a1 = 10 then (if -9223372036854775808 ≤ a0 then (if a0 ≤ 9223372036854775807 then some ⟨(Go.Lib.itoa a0).toArray⟩ else none) else none) else if a1 = 16 then (if 0 ≤ a0 then (if a0 < 65536 then some ⟨(hexLow a0.toNat).toArray⟩ else none) else none) else none
open Go.Lib in
set_option maxRecDepth 100000 in
theorem strconv_FormatInt.tz64 (w : World) (hG : GW w) : Calls Tryd.prog 191 #[.int .u64 16] w fun e w' => e = .returned (.int .i64 4) ∧ Drawn0 w w' := by
  have e15 : IntKind.u64.wrap (bits BinOp.and IntKind.u64 16 (IntKind.u64.wrap (-16)) * 285870213051353865) / 288230376151711744 = 15 := by decide
  have hc : w.cell? ⟨8, (IntKind.u64.wrap (bits BinOp.and IntKind.u64 16 (IntKind.u64.wrap (-16)) * 285870213051353865) / 288230376151711744).toNat, none⟩ = some (.int .u8 4) := by
    rw [e15]
    exact TabIs.cell hG.db64 (g := 8) (by kernel_rfl) 15 (by decide)
  have hb : 0 ≤ IntKind.u64.wrap (bits BinOp.and IntKind.u64 16 (IntKind.u64.wrap (-16)) * 285870213051353865) / 288230376151711744 ∧ IntKind.u64.wrap (bits BinOp.and IntKind.u64 16 (IntKind.u64.wrap (-16)) * 285870213051353865) / 288230376151711744 < 64 := by
    rw [e15]; decide
  clear e15
  go_enter Tryd.func191, Tryd.ntmps191
  go_wp2
  go_ret
  exact ⟨rfl, Drawn0.refl _⟩
set_option maxRecDepth 100000 in
theorem strconv_FormatInt.pow2 (w : World) : Calls Tryd.prog 182 #[.int .i64 16] w fun e w' => e = .returned (.bool true) ∧ Drawn0 w w' := by
  go_enter Tryd.func182, Tryd.ntmps182
  go_wp2
  rw [show bits BinOp.and IntKind.i64 16 15 = 0 from by decide]
  go_ret
  exact ⟨rfl, Drawn0.refl _⟩
set_option maxRecDepth 100000 in
theorem strconv_FormatInt.tz (w : World) (hG : GW w) : Calls Tryd.prog 183 #[.int .u64 16] w fun e w' => e = .returned (.int .i64 4) ∧ Drawn0 w w' := by
  go_enter Tryd.func183, Tryd.ntmps183
  go_wp2_with (go_at_call 191; refine (strconv_FormatInt.tz64 _ hG).mono ?_; rintro e w' ⟨rfl, ⟨m, rfl⟩⟩)
  go_ret
  exact ⟨rfl, ⟨m, rfl⟩⟩
def strconv_FormatInt.hexDigits : ByteArray := ⟨#[48, 49, 50, 51, 52, 53, 54, 55, 56, 57, 97, 98, 99, 100, 101, 102, 103, 104, 105, 106, 107, 108, 109, 110, 111, 112, 113, 114, 115, 116, 117, 118, 119, 120, 121, 122]⟩
theorem strconv_FormatInt.hexDigits_at : ∀ (r : Nat) (h : r < 16), strconv_FormatInt.hexDigits[r]'(Nat.lt_of_lt_of_le h (by decide)) = hexB r := by decide
theorem strconv_FormatInt.hex_at (r : Nat) (h : r < 16) (w : World) : (Instr.index 9 (.string strconv_FormatInt.hexDigits) (.int .u64 (r : Int))).run Tryd.prog w = .ok (.int .u8 ((hexB r).toNat : Int)) w := by
  rw [run_index_string w 9 strconv_FormatInt.hexDigits .u64 _ Tryd.underlying9, dif_pos ⟨by omega, by rw [show strconv_FormatInt.hexDigits.size = 36 from rfl]; omega⟩]
  have e : ((r : Int)).toNat = r := by omega
  simp only [e]
  rw [strconv_FormatInt.hexDigits_at r h]
def strconv_FormatInt.HexInv (n j : Nat) (C : Array Value) : Prop := C.size = 65 ∧ (∀ t, t < j → C[64 - t]? = some (.int .u8 ((hexB (n / 16 ^ t % 16)).toNat : Int))) ∧ (16 ^ j ≤ n ∨ j = 0)
theorem strconv_FormatInt.hexLow_of (n j : Nat) (hn : n < 65536) (hj : j ≤ 3) (h0 : 16 ^ j ≤ n ∨ j = 0) (h1 : n / 16 ^ j < 16) : (List.range (j + 1)).map (fun t => hexB (n / 16 ^ (j - t) % 16)) = hexLow n := by
  unfold hexLow
  have h4 : j = 0 ∨ j = 1 ∨ j = 2 ∨ j = 3 := by omega
  rcases h4 with rfl | rfl | rfl | rfl
  · rw [if_pos (by omega)]
    simp [List.range_succ_eq_map]
    congr 1
    omega
  · rw [if_neg (by omega), if_pos (by omega)]
    simp [List.range_succ_eq_map]
    congr 1
    omega
  · rw [if_neg (by omega), if_neg (by omega), if_pos (by omega)]
    simp [List.range_succ_eq_map]
    congr 1
    omega
  · rw [if_neg (by omega), if_neg (by omega), if_neg (by omega)]
    simp [List.range_succ_eq_map]
    congr 1
    omega
theorem strconv_FormatInt.add_plain_at (g q i : Nat) : (⟨g, q, none⟩ : Addr).add i = ⟨g, q + i, none⟩ := by unfold Addr.add; split <;> simp_all
theorem strconv_FormatInt.below_own {w wr : World} {g : Nat} {v : Value} (h : Below w.heap.size w wr) (hg : w.heap.size ≤ g) (q : Nat) : Below w.heap.size w (wr.setCell ⟨g, q, none⟩ v) := h.setCell hg _
set_option maxRecDepth 100000 in
theorem strconv_FormatInt.hexSlice (g q : Nat) (hq : q ≤ 64) (hq0 : 0 < q) (W : World) : (Instr.sliceAt 174 (.pointer (some ⟨g, 0, none⟩)) (some (.int .i64 (q : Int))) none none).run Tryd.prog W = .ok (.slice (some ⟨g, q, none⟩) (65 - q) (65 - q)) W := by
  rw [run_sliceAt_array_l W 174 ⟨g, 0, none⟩ (by kernel_rfl) .i64 q (by omega) (by rw [show Tryd.prog.arrayLen 174 = 65 by kernel_rfl]; omega), show Tryd.prog.arrayLen 174 = 65 by kernel_rfl, show Tryd.prog.elem 174 = 5 by kernel_rfl]
  have hs : (sizeOf 5).run Tryd.prog W = .ok 1 W := by go_simp
  rw [hs]
  simp only [Result.andThen, slicedAt, Int.toNat_natCast]
  rw [if_neg (by omega), add_plain, Nat.mul_one]
set_option maxRecDepth 100000 in
set_option maxHeartbeats 4000000 in
theorem strconv_FormatInt.fb (n : Nat) (hn : n < 65536) (w : World) (hG : GW w) : Calls Tryd.prog 161 #[.slice none 0 0, .int .u64 n, .int .i64 16, .bool false, .bool false] w fun e w' => e = .returned (.tuple #[.slice none 0 0, .string ⟨(hexLow n).toArray⟩]) ∧ Below w.heap.size w w' := by
  have HG := Aside0.mk hG
  clear hG
  have HN := Aside0.mk hn
  clear hn
  go_enter Tryd.func161, Tryd.ntmps161
  go_wp2_with (first | (go_at_call 182; refine (strconv_FormatInt.pow2 _).mono ?_; rintro e w' ⟨rfl, ⟨m, rfl⟩⟩) | (go_at_call 183; refine (strconv_FormatInt.tz _ ?_).mono ?_; (exact HG.out.alloc _ |>.drewN _); rintro e w' ⟨rfl, ⟨m2, rfl⟩⟩))
  go_loopg [1, 13] 4 (fun gg s1 s13 wr => ∃ (j q : Nat) (C : Array Value), j ≤ 3 ∧ 4 - j ≤ gg ∧ s1 = .int .u64 ((n / 16 ^ j : Nat) : Int) ∧ s13 = .int .i64 ((q : Int) + 1) ∧ Aside0 (q + 1 + j = 65) ∧ Aside0 (strconv_FormatInt.HexInv n j C) ∧ Aside0 (wr.heap[w.heap.size]? = some (.cells C 174 (0, 0))) ∧ Aside0 (Below w.heap.size w wr))
  case atStart =>
    refine ⟨0, 64, Tryd.zeroCells174, by omega, by omega, by simp, rfl, ⟨rfl⟩, ⟨⟨by decide +kernel, fun t ht => by omega, .inr rfl⟩⟩, ⟨?_⟩, ⟨pw_below_drewN (below_alloc (Below.refl _ _) _) _⟩⟩
    show (w.heap.push _)[w.heap.size]? = _
    rw [Array.getElem?_push_size]
  case round =>
    obtain ⟨j, q, C, hj, hg, rfl, rfl, HQ, HI, HC, HB⟩ := hrel
    rename_i wr_
    rename World => wr
    have hq : (q : Int) < 65 := by have := HQ.out; omega
    obtain ⟨v, hv⟩ : ∃ v, v = n / 16 ^ j := ⟨_, rfl⟩
    have hcq : ∃ c0, C[q]? = some c0 := ⟨C[q]'(by rw [HI.out.1]; omega), Array.getElem?_eq_getElem _⟩
    obtain ⟨c0, hc0⟩ := hcq
    have hcell : wr.cell? ⟨w.heap.size, q, none⟩ = some c0 := by
      simp only [World.cell?, HC.out]
      exact hc0
    have hfro : wr.frozen? ⟨w.heap.size, q, none⟩ = false := by
      simp [World.frozen?, HC.out]
    have hr : bits BinOp.and IntKind.u64 (v : Int) 15 = ((v % 16 : Nat) : Int) := by
      have hb : v < 65536 := by rw [hv]; exact Nat.lt_of_le_of_lt (Nat.div_le_self _ _) HN.out
      have h := bits_mask .u64 64 (by decide) (fun n h0 h1 => by rw [IntKind.wrap_u64]; omega) 4 (by decide) (v : Int) (by omega) (by omega)
      rw [show (2 : Int) ^ 4 - 1 = 15 from rfl, show (2 : Int) ^ 4 = 16 from rfl] at h
      rw [h]
      omega
    have hX : ∀ w, (Instr.index 9 (.string ⟨#[48, 49, 50, 51, 52, 53, 54, 55, 56, 57, 97, 98, 99, 100, 101, 102, 103, 104, 105, 106, 107, 108, 109, 110, 111, 112, 113, 114, 115, 116, 117, 118, 119, 120, 121, 122]⟩) (.int .u64 ((v % 16 : Nat) : Int))).run Tryd.prog w = .ok (.int .u8 ((hexB (v % 16)).toNat : Int)) w := strconv_FormatInt.hex_at (v % 16) (by omega)
    rw [← hv]
    have hd : (hexB (v % 16)).toNat = (hexB (n / 16 ^ j % 16)).toNat := by rw [hv]
    have HV := Aside0.mk hv
    have HD := Aside0.mk hd
    clear hv hd hc0
    have hput : (wr.setCell ⟨w.heap.size, q, none⟩ (.int .u8 ((hexB (v % 16)).toNat : Int))).heap[w.heap.size]? = some (.cells (C.setIfInBounds q (.int .u8 ((hexB (v % 16)).toNat : Int))) 174 (0, 0)) := by
      exact heap_setCell_same _ _ _ _ _ _ HC.out
    have HP := Aside0.mk hput
    clear hput
    by_cases h16 : (16 : Int) ≤ (v : Int)
    · generalize hrr : v % 16 = r at hr hX HP HD
      have HRR := Aside0.mk hrr
      clear hrr
      go_wp2
      go_roundg (4 - (j + 1))
      case measure => omega
      case rel =>
        have hv16 : 16 ≤ n / 16 ^ j := by rw [← HV.out]; omega
        have hpow : 16 ^ (j + 1) ≤ n := by
          rw [Nat.pow_succ, Nat.mul_comm]
          exact (Nat.le_div_iff_mul_le (Nat.pow_pos (by decide))).1 hv16
        have hj3 : j + 1 ≤ 3 := by
          rcases Nat.lt_or_ge j 3 with h | h
          · exact h
          · have : j = 3 := by omega
            subst this
            have := HN.out
            omega
        refine ⟨j + 1, q - 1, _, hj3, by omega, ?_, ?_, ⟨by have := HQ.out; omega⟩, ⟨?_⟩, ⟨HP.out⟩, ⟨by repeat (first | exact strconv_FormatInt.below_own HB.out (Nat.le_refl _) _ | apply pw_below_drewN | apply below_drew)⟩⟩
        · show Value.int IntKind.u64 _ = _
          congr 1
          rw [HV.out, Nat.pow_succ, ← Nat.div_div_eq_div_mul]
          omega
        · show Value.int IntKind.i64 _ = _
          congr 1
          have := HQ.out
          omega
        · refine ⟨by rw [Array.size_setIfInBounds]; exact HI.out.1, fun t ht => ?_, .inl hpow⟩
          have hq' := HQ.out
          by_cases e : t = j
          · subst e
            rw [show 64 - t = q by omega, Array.getElem?_setIfInBounds_self_of_lt (by rw [HI.out.1]; omega), HD.out]
          · rw [Array.getElem?_setIfInBounds_ne (by omega)]
            exact HI.out.2.1 t (by omega)
    · have h15 : v < 16 := by omega
      have hX2 : ∀ w, (Instr.index 9 (.string ⟨#[48, 49, 50, 51, 52, 53, 54, 55, 56, 57, 97, 98, 99, 100, 101, 102, 103, 104, 105, 106, 107, 108, 109, 110, 111, 112, 113, 114, 115, 116, 117, 118, 119, 120, 121, 122]⟩) (.int .u64 (v:Int))).run Tryd.prog w = .ok (.int .u8 ((hexB v).toNat : Int)) w := strconv_FormatInt.hex_at v h15
      rw [Nat.mod_eq_of_lt h15] at HP HD
      clear hX hr
      have hSl := strconv_FormatInt.hexSlice w.heap.size q (by have := HQ.out; omega) (by have := HQ.out; omega)
      have hback := run_convert_bytes_back (P := Tryd.prog) (wr.setCell ⟨w.heap.size, q, none⟩ (.int .u8 ((hexB v).toNat : Int))) 93 9 5 ⟨w.heap.size, q, none⟩ (65 - q) ((List.range (j + 1)).map (fun t => hexB (n / 16 ^ (j - t) % 16))) Tryd.underlying93 Tryd.underlying5 Tryd.underlying9 (fun i hi => by
        have hi' : i < j + 1 := by simpa using hi
        have hq' := HQ.out
        rw [strconv_FormatInt.add_plain_at]
        simp only [World.cell?, HP.out]
        by_cases e : i = 0
        · subst e
          rw [Nat.add_zero, Array.getElem?_setIfInBounds_self_of_lt (by rw [HI.out.1]; omega)]
          simp only [List.getElem_map, List.getElem_range, Nat.sub_zero]
          rw [HD.out]
          rfl
        · rw [Array.getElem?_setIfInBounds_ne (by omega), show q + i = 64 - (j - i) by omega, HI.out.2.1 (j - i) (by omega)]
          simp only [List.getElem_map, List.getElem_range]
          rfl)
      rw [show ((List.range (j + 1)).map (fun t => hexB (n / 16 ^ (j - t) % 16))).length = 65 - q by rw [List.length_map, List.length_range]; have := HQ.out; omega, strconv_FormatInt.hexLow_of n j HN.out hj HI.out.2.2 (by rw [← HV.out]; exact h15)] at hback
      clear h15
      go_wp2
      go_ret2
      exact ⟨rfl, by repeat (first | exact strconv_FormatInt.below_own HB.out (Nat.le_refl _) _ | apply pw_below_drewN | apply below_drew)⟩
set_option maxRecDepth 100000 in
set_option maxHeartbeats 4000000 in
theorem strconv_FormatInt.fi (n : Nat) (hn : n < 65536) (w : World) (hG : GW w) : Calls Tryd.prog 132 #[.int .i64 n, .int .i64 16] w fun e w' => e = .returned (.string ⟨(hexLow n).toArray⟩) ∧ Below w.heap.size w w' := by
  have HG := Aside0.mk hG
  clear hG
  have HN := Aside0.mk hn
  have hw : IntKind.u64.wrap (n : Int) = (n : Int) := by rw [IntKind.wrap_u64]; omega
  have hneg : ¬ ((n : Int) < 0) := by omega
  clear hn
  go_enter Tryd.func132, Tryd.ntmps132
  go_wp2_with (go_at_call 161; refine (strconv_FormatInt.fb n HN.out _ ?_).mono ?_; (repeat (first | exact HG.out | apply GW.drewN | apply GW.drew)); rintro e w' ⟨rfl, hb⟩)
  go_ret
  exact ⟨rfl, by repeat (first | exact below_step (by repeat (first | exact Below.refl _ _ | apply pw_below_drewN | apply below_drew)) hb | exact hb | apply pw_below_drewN | apply below_drew)⟩
set_option maxRecDepth 100000 in
theorem strconv_FormatInt.hex (n : Nat) (hn : n < 65536) (w : World) (hG : GW w) :
    Calls Tryd.prog 94 #[.int .i64 n, .int .i64 16] w fun e w' => e = .returned (.string ⟨(hexLow n).toArray⟩) ∧ Below w.heap.size w w' := by
  have HG := Aside0.mk hG
  clear hG
  have HN := Aside0.mk hn
  clear hn
  go_enter Tryd.func94, Tryd.ntmps94
  go_wp2_with (go_at_call 132; refine (strconv_FormatInt.fi n HN.out _ ?_).mono ?_; (repeat (first | exact HG.out | apply GW.drewN | apply GW.drew)); rintro e w' ⟨rfl, hb⟩)
  go_ret
  exact ⟨rfl, by repeat (first | exact below_step (by repeat (first | exact Below.refl _ _ | apply pw_below_drewN | apply below_drew)) hb | exact hb | apply pw_below_drewN | apply below_drew)⟩
theorem strconv_FormatInt.calls (a0 a1 : Int) (r : ByteArray) (w : World) (hG : GW w) (h : strconv_FormatInt.f a0 a1 = some r) :
    Calls Tryd.prog 94 #[.int .i64 a0, .int .i64 a1] w fun e w' => e = .returned (.string r) ∧ Below w.heap.size w w' := by
  unfold strconv_FormatInt.f at h
  by_cases h0 : a1 = 10
  · by_cases h1 : -9223372036854775808 ≤ a0
    · by_cases h2 : a0 ≤ 9223372036854775807
      · rw [if_pos h0, if_pos h1, if_pos h2] at h
        obtain rfl := Option.some.inj h
        subst h0
        refine (Tryd.strconv_FormatInt_10 a0 h1 h2 w hG.pow10).mono ?_
        rintro e w' ⟨rfl, k, os, rfl⟩
        exact ⟨rfl, below_grow w k os⟩
      · rw [if_pos h0, if_pos h1, if_neg h2] at h
        cases h
    · rw [if_pos h0, if_neg h1] at h
      cases h
  · by_cases h3 : a1 = 16
    · by_cases h1 : 0 ≤ a0
      · by_cases h2 : a0 < 65536
        · rw [if_neg h0, if_pos h3, if_pos h1, if_pos h2] at h
          obtain rfl := Option.some.inj h
          subst h3
          obtain ⟨n, rfl⟩ : ∃ n : Nat, a0 = (n : Int) := ⟨a0.toNat, by omega⟩
          exact strconv_FormatInt.hex n (by omega) w hG
        · rw [if_neg h0, if_pos h3, if_pos h1, if_neg h2] at h
          cases h
      · rw [if_neg h0, if_pos h3, if_neg h1] at h
        cases h
    · rw [if_neg h0, if_neg h3] at h
      cases h

/-! ### strings_Repeat: function 95 -/
def strings_Repeat.f (a0 : ByteArray) (a1 : Int) : Option ByteArray := if 0 ≤ a1 then (if a1 ≤ 9223372036854775807 then (if a0.size * a1.toNat ≤ 140737488355328 then some ⟨(Go.Lib.repeatL a0.data.toList a1.toNat).toArray⟩ else none) else none) else none
theorem strings_Repeat.calls (a0 : ByteArray) (a1 : Int) (r : ByteArray) (w : World) (h : strings_Repeat.f a0 a1 = some r) :
    Calls Tryd.prog 95 #[.string a0, .int .i64 a1] w fun e w' => e = .returned (.string r) ∧ Below w.heap.size w w' := by
  unfold strings_Repeat.f at h
  split at h
  · split at h
    · split at h
      · obtain rfl := Option.some.inj h
        obtain ⟨c, rfl⟩ : ∃ c : Nat, a1 = (c : Int) := ⟨a1.toNat, by omega⟩
        exact Tryd.strings_Repeat a0 c w (by omega) (by simpa using ‹a0.size * (c : Int).toNat ≤ 140737488355328›)
      · cases h
    · cases h
  · cases h

/-! ### impl_hexDigits: function 49 -/
def impl_hexDigits.f (a0 : Int) (a1 : Int) : Option (ByteArray) := (strconv_FormatInt.f a0 16).bind fun t104 => ((strings_ToUpper.f t104).bind fun t105 => ((strings_Repeat.f (⟨#[48]⟩ : ByteArray) (mx 0 (wrap64 (a1 - (t105.size : Int))))).bind fun t106 => (if t106.size + t105.size ≤ 9223372036854775807 then (some (t106 ++ t105)) else (none))))
set_option maxHeartbeats 8000000 in
set_option maxRecDepth 100000 in
theorem impl_hexDigits.calls (a0 : Int) (a1 : Int) (r : ByteArray) (w : World) (hG : GW w) (h : impl_hexDigits.f a0 a1 = some r) :
    Calls Tryd.prog 49 #[.int .i64 a0, .int .i64 a1] w fun e w' => e = .returned (.string r) ∧ Below w.heap.size w w' := by
  have HB := Aside0.mk (Below.refl w.heap.size w)
  have HG := Aside0.mk hG
  clear hG
  have H : ((strconv_FormatInt.f a0 16).bind fun t104 => ((strings_ToUpper.f t104).bind fun t105 => ((strings_Repeat.f (⟨#[48]⟩ : ByteArray) (mx 0 (wrap64 (a1 - (t105.size : Int))))).bind fun t106 => (if t106.size + t105.size ≤ 9223372036854775807 then (some (t106 ++ t105)) else (none))))) = some r := h
  clear h
  replace H := Option.bind_eq_some_iff.mp H
  obtain ⟨t104, A30, H⟩ := H
  replace H : ((strings_ToUpper.f t104).bind fun t105 => ((strings_Repeat.f (⟨#[48]⟩ : ByteArray) (mx 0 (wrap64 (a1 - (t105.size : Int))))).bind fun t106 => (if t106.size + t105.size ≤ 9223372036854775807 then (some (t106 ++ t105)) else (none)))) = some r := H
  have A3 := Aside0.mk A30
  clear A30
  replace H := Option.bind_eq_some_iff.mp H
  obtain ⟨t105, A40, H⟩ := H
  replace H : ((strings_Repeat.f (⟨#[48]⟩ : ByteArray) (mx 0 (wrap64 (a1 - (t105.size : Int))))).bind fun t106 => (if t106.size + t105.size ≤ 9223372036854775807 then (some (t106 ++ t105)) else (none))) = some r := H
  have A4 := Aside0.mk A40
  clear A40
  obtain ⟨ji5, hji5⟩ : ∃ j_ : Int, (mx 0 (wrap64 (a1 - (t105.size : Int)))) = j_ := ⟨_, rfl⟩
  replace H : ((strings_Repeat.f (⟨#[48]⟩ : ByteArray) (ji5)).bind fun t106 => (if t106.size + t105.size ≤ 9223372036854775807 then (some (t106 ++ t105)) else (none))) = some r := by first | (rw [hji5] at H; exact H) | (simp only [hji5] at H ⊢; exact H)
  (try rw [hji5] at A3)
  (try rw [hji5] at A4)
  (try (have hji5l : 0 ≤ ji5 := by (rw [← hji5]; unfold mx; (repeat' split) <;> omega)))
  (try (have hji5m : 0 ≤ ji5 := by omega))
  have hji5_ : (if 0 < (wrap64 (a1 - (t105.size : Int))) then (wrap64 (a1 - (t105.size : Int))) else 0) = ji5 := hji5
  replace H := Option.bind_eq_some_iff.mp H
  obtain ⟨t106, A60, H⟩ := H
  replace H : (if t106.size + t105.size ≤ 9223372036854775807 then (some (t106 ++ t105)) else (none)) = some r := H
  have A6 := Aside0.mk A60
  clear A60
  by_cases c7 : t106.size + t105.size ≤ 9223372036854775807
  · rw [if_pos c7] at H
    have c7b0 := eq_true c7
    have c7b1 : decide (t106.size + t105.size ≤ 9223372036854775807) = true := decide_eq_true c7
    try have c7b2 : (9223372036854775807 < t106.size + t105.size) = False := eq_false (Nat.not_lt.2 c7)
    obtain rfl := Option.some.inj H
    go_enter Tryd.func49, Tryd.ntmps49
    go_wp2_with (first | ((with_reducible refine gate_callee (f := 94) rfl ?_); refine goesL_ (some 7) rfl rfl Tryd.func94 (by kernel_rfl) rfl #[.int .i64 a0, .int .i64 16] rfl (by (try simp only [List.map_toArray, List.map_cons, List.map_nil]); first | done | rfl | (simp only [List.length_drop, List.length_take]; rfl)) ?_; (with_reducible refine (strconv_FormatInt.calls a0 16 t104 _ ?side1 A3.out).mono ?_); (case side1 => exact GW.below HG.out (by repeat (first | (with_reducible first | exact HB.out | apply below_alloc | apply pw_below_drewN | apply below_drew1) | exact HB.out))); rintro e w8 ⟨rfl, hb⟩; refine ⟨_, rfl, ?_⟩; have n0_ := Aside0.mk (below_step (by repeat (first | (with_reducible first | exact HB.out | apply below_alloc | apply pw_below_drewN | apply below_drew1) | exact HB.out)) hb); clear HB; have HB := n0_; clear n0_; (try clear hb); (try clear hb2); (try clear hk); (try clear hi)) | ((with_reducible refine gate_callee (f := 93) rfl ?_); refine goesL_ (some 8) rfl rfl Tryd.func93 (by kernel_rfl) rfl #[.string t104] rfl (by (try simp only [List.map_toArray, List.map_cons, List.map_nil]); first | done | rfl | (simp only [List.length_drop, List.length_take]; rfl)) ?_; (with_reducible refine (strings_ToUpper.calls t104 t105 _ A4.out).mono ?_); rintro e w9 ⟨rfl, hb⟩; refine ⟨_, rfl, ?_⟩; have n0_ := Aside0.mk (below_step (by repeat (first | (with_reducible first | exact HB.out | apply below_alloc | apply pw_below_drewN | apply below_drew1) | exact HB.out)) hb); clear HB; have HB := n0_; clear n0_; (try clear hb); (try clear hb2); (try clear hk); (try clear hi)) | ((with_reducible refine gate_callee (f := 95) rfl ?_); refine goesL_ (some 14) rfl rfl Tryd.func95 (by kernel_rfl) rfl #[.string (⟨#[48]⟩ : ByteArray), .int .i64 ji5] rfl (by (try simp only [List.map_toArray, List.map_cons, List.map_nil]); first | done | (simp only [hji5]; rfl) | rfl | (simp only [List.length_drop, List.length_take]; rfl)) ?_; (with_reducible refine (strings_Repeat.calls (⟨#[48]⟩ : ByteArray) ji5 t106 _ A6.out).mono ?_); rintro e w10 ⟨rfl, hb⟩; refine ⟨_, rfl, ?_⟩; have n0_ := Aside0.mk (below_step (by repeat (first | (with_reducible first | exact HB.out | apply below_alloc | apply pw_below_drewN | apply below_drew1) | exact HB.out)) hb); clear HB; have HB := n0_; clear n0_; (try clear hb); (try clear hb2); (try clear hk); (try clear hi)))
    first | go_ret | ((try simp only [Exit.inBlock, Exit.then]); apply bodyPost_ret; (exact results_tmp rfl _ _ _); rfl)
    exact ⟨by first | rfl | (simp [errW_none, errW_some] <;> rfl) | (simp only [← hji5]; first | rfl | (simp [errW_none, errW_some] <;> rfl)) | (simp [*, errW_none, errW_some] <;> rfl), by repeat (first | (with_reducible first | exact HB.out | apply below_alloc | apply pw_below_drewN | apply below_drew1) | exact HB.out)⟩
  · rw [if_neg c7] at H
    exact absurd H (by simp)

/-! ### impl_HexOf: function 15 -/
def impl_HexOf.f (a0 : Int) (a1 : Int) : Option (ByteArray) := (impl_within.f a1 1 4).bind fun t107 => (if t107 = true then ((impl_isWord.f a0).bind fun t108 => (if t108 = true then (if 0 ≤ (wrap64 (4 * a1)) then (if (shr .i64 a0 (wrap64 (4 * a1))) > 0 then (some (⟨#[]⟩ : ByteArray)) else ((impl_hexDigits.f a0 a1).bind fun t109 => (if 1 + t109.size ≤ 9223372036854775807 then (some ((⟨#[36]⟩ : ByteArray) ++ t109)) else (none)))) else (none)) else (some (⟨#[]⟩ : ByteArray)))) else (some (⟨#[]⟩ : ByteArray)))
set_option maxHeartbeats 8000000 in
set_option maxRecDepth 100000 in
theorem impl_HexOf.calls (a0 : Int) (a1 : Int) (r : ByteArray) (w : World) (hG : GW w) (h : impl_HexOf.f a0 a1 = some r) :
    Calls Tryd.prog 15 #[.int .i64 a0, .int .i64 a1] w fun e w' => e = .returned (.string r) ∧ Below w.heap.size w w' := by
  have HB := Aside0.mk (Below.refl w.heap.size w)
  have HG := Aside0.mk hG
  clear hG
  have H : ((impl_within.f a1 1 4).bind fun t107 => (if t107 = true then ((impl_isWord.f a0).bind fun t108 => (if t108 = true then (if 0 ≤ (wrap64 (4 * a1)) then (if (shr .i64 a0 (wrap64 (4 * a1))) > 0 then (some (⟨#[]⟩ : ByteArray)) else ((impl_hexDigits.f a0 a1).bind fun t109 => (if 1 + t109.size ≤ 9223372036854775807 then (some ((⟨#[36]⟩ : ByteArray) ++ t109)) else (none)))) else (none)) else (some (⟨#[]⟩ : ByteArray)))) else (some (⟨#[]⟩ : ByteArray)))) = some r := h
  clear h
  replace H := Option.bind_eq_some_iff.mp H
  obtain ⟨t107, A30, H⟩ := H
  replace H : (if t107 = true then ((impl_isWord.f a0).bind fun t108 => (if t108 = true then (if 0 ≤ (wrap64 (4 * a1)) then (if (shr .i64 a0 (wrap64 (4 * a1))) > 0 then (some (⟨#[]⟩ : ByteArray)) else ((impl_hexDigits.f a0 a1).bind fun t109 => (if 1 + t109.size ≤ 9223372036854775807 then (some ((⟨#[36]⟩ : ByteArray) ++ t109)) else (none)))) else (none)) else (some (⟨#[]⟩ : ByteArray)))) else (some (⟨#[]⟩ : ByteArray))) = some r := H
  have A3 := Aside0.mk A30
  clear A30
  by_cases c4 : t107 = true
  · subst c4
    have H1 : ((impl_isWord.f a0).bind fun t108 => (if t108 = true then (if 0 ≤ (wrap64 (4 * a1)) then (if (shr .i64 a0 (wrap64 (4 * a1))) > 0 then (some (⟨#[]⟩ : ByteArray)) else ((impl_hexDigits.f a0 a1).bind fun t109 => (if 1 + t109.size ≤ 9223372036854775807 then (some ((⟨#[36]⟩ : ByteArray) ++ t109)) else (none)))) else (none)) else (some (⟨#[]⟩ : ByteArray)))) = some r := by rw [if_pos rfl] at H; exact H
    clear H
    have H := H1
    clear H1
    replace H := Option.bind_eq_some_iff.mp H
    obtain ⟨t108, A50, H⟩ := H
    replace H : (if t108 = true then (if 0 ≤ (wrap64 (4 * a1)) then (if (shr .i64 a0 (wrap64 (4 * a1))) > 0 then (some (⟨#[]⟩ : ByteArray)) else ((impl_hexDigits.f a0 a1).bind fun t109 => (if 1 + t109.size ≤ 9223372036854775807 then (some ((⟨#[36]⟩ : ByteArray) ++ t109)) else (none)))) else (none)) else (some (⟨#[]⟩ : ByteArray))) = some r := H
    have A5 := Aside0.mk A50
    clear A50
    by_cases c6 : t108 = true
    · subst c6
      have H1 : (if 0 ≤ (wrap64 (4 * a1)) then (if (shr .i64 a0 (wrap64 (4 * a1))) > 0 then (some (⟨#[]⟩ : ByteArray)) else ((impl_hexDigits.f a0 a1).bind fun t109 => (if 1 + t109.size ≤ 9223372036854775807 then (some ((⟨#[36]⟩ : ByteArray) ++ t109)) else (none)))) else (none)) = some r := by rw [if_pos rfl] at H; exact H
      clear H
      have H := H1
      clear H1
      obtain ⟨ji7, hji7⟩ : ∃ j_ : Int, (wrap64 (4 * a1)) = j_ := ⟨_, rfl⟩
      replace H : (if 0 ≤ (ji7) then (if (shr .i64 a0 (ji7)) > 0 then (some (⟨#[]⟩ : ByteArray)) else ((impl_hexDigits.f a0 a1).bind fun t109 => (if 1 + t109.size ≤ 9223372036854775807 then (some ((⟨#[36]⟩ : ByteArray) ++ t109)) else (none)))) else (none)) = some r := by first | (rw [hji7] at H; exact H) | (simp only [hji7] at H ⊢; exact H)
      (try rw [hji7] at A3)
      (try rw [hji7] at A5)
      have hji7w : (IntKind.i64.wrap (4 * a1)) = ji7 := (i64_w _).trans hji7
      by_cases c8 : 0 ≤ (ji7)
      · rw [if_pos c8] at H
        have c8b0 := eq_true c8
        have c8b1 : decide (0 ≤ (ji7)) = true := decide_eq_true c8
        clear c8
        obtain ⟨ji9, hji9⟩ : ∃ j_ : Int, (shr .i64 a0 (ji7)) = j_ := ⟨_, rfl⟩
        replace H : (if (ji9) > 0 then (some (⟨#[]⟩ : ByteArray)) else ((impl_hexDigits.f a0 a1).bind fun t109 => (if 1 + t109.size ≤ 9223372036854775807 then (some ((⟨#[36]⟩ : ByteArray) ++ t109)) else (none)))) = some r := by first | (rw [hji9] at H; exact H) | (simp only [hji9] at H ⊢; exact H)
        (try rw [hji9] at A3)
        (try rw [hji9] at A5)
        have hji9_ : (a0 / 2 ^ min (ji7).toNat 64) = ji9 := hji9
        have hji9z : (ji7) ≤ 64 → (a0 / 2 ^ (ji7).toNat) = ji9 := shr_small hji9
        by_cases c10 : (ji9) > 0
        · rw [if_pos c10] at H
          have c10b0 : decide (0 < (ji9)) = true := decide_eq_true c10
          clear c10
          obtain rfl := Option.some.inj H
          go_enter Tryd.func15, Tryd.ntmps15
          go_wp2_with (first | ((with_reducible refine gate_callee (f := 47) rfl ?_); refine goesL_ (some 6) rfl rfl Tryd.func47 (by kernel_rfl) rfl #[.int .i64 a1, .int .i64 1, .int .i64 4] rfl (by (try simp only [List.map_toArray, List.map_cons, List.map_nil]); first | done | rfl | (simp only [List.length_drop, List.length_take]; rfl)) ?_; (with_reducible refine (impl_within.calls a1 1 4 true _ A3.out).mono ?_); rintro e w' ⟨rfl, ⟨nd, rfl⟩⟩; refine ⟨_, rfl, ?_⟩) | (go_at_call 48; (with_reducible refine (impl_isWord.calls a0 true _ A5.out).mono ?_); rintro e w' ⟨rfl, ⟨nd, rfl⟩⟩))
          first | go_ret | ((try simp only [Exit.inBlock, Exit.then]); apply bodyPost_ret; (exact results_tmp rfl _ _ _); rfl)
          exact ⟨by first | rfl | (simp [errW_none, errW_some] <;> rfl) | (simp only [← hji7, ← hji9]; first | rfl | (simp [errW_none, errW_some] <;> rfl)) | (simp [*, errW_none, errW_some] <;> rfl), by repeat (first | (with_reducible first | exact HB.out | apply below_alloc | apply pw_below_drewN | apply below_drew1) | exact HB.out)⟩
        · rw [if_neg c10] at H
          have c10b0 : decide (0 < (ji9)) = false := decide_eq_false c10
          clear c10
          replace H := Option.bind_eq_some_iff.mp H
          obtain ⟨t109, A110, H⟩ := H
          replace H : (if 1 + t109.size ≤ 9223372036854775807 then (some ((⟨#[36]⟩ : ByteArray) ++ t109)) else (none)) = some r := H
          have A11 := Aside0.mk A110
          clear A110
          by_cases c12 : 1 + t109.size ≤ 9223372036854775807
          · rw [if_pos c12] at H
            have c12b0 := eq_true c12
            have c12b1 : decide (1 + t109.size ≤ 9223372036854775807) = true := decide_eq_true c12
            try have c12b2 : (9223372036854775807 < 1 + t109.size) = False := eq_false (Nat.not_lt.2 c12)
            obtain rfl := Option.some.inj H
            go_enter Tryd.func15, Tryd.ntmps15
            go_wp2_with (first | ((with_reducible refine gate_callee (f := 47) rfl ?_); refine goesL_ (some 6) rfl rfl Tryd.func47 (by kernel_rfl) rfl #[.int .i64 a1, .int .i64 1, .int .i64 4] rfl (by (try simp only [List.map_toArray, List.map_cons, List.map_nil]); first | done | rfl | (simp only [List.length_drop, List.length_take]; rfl)) ?_; (with_reducible refine (impl_within.calls a1 1 4 true _ A3.out).mono ?_); rintro e w' ⟨rfl, ⟨nd, rfl⟩⟩; refine ⟨_, rfl, ?_⟩) | (go_at_call 48; (with_reducible refine (impl_isWord.calls a0 true _ A5.out).mono ?_); rintro e w' ⟨rfl, ⟨nd, rfl⟩⟩) | ((with_reducible refine gate_callee (f := 49) rfl ?_); refine goesL_ (some 22) rfl rfl Tryd.func49 (by kernel_rfl) rfl #[.int .i64 a0, .int .i64 a1] rfl (by (try simp only [List.map_toArray, List.map_cons, List.map_nil]); first | done | rfl | (simp only [List.length_drop, List.length_take]; rfl)) ?_; (with_reducible refine (impl_hexDigits.calls a0 a1 t109 _ ?side1 A11.out).mono ?_); (case side1 => exact GW.below HG.out (by repeat (first | (with_reducible first | exact HB.out | apply below_alloc | apply pw_below_drewN | apply below_drew1) | exact HB.out))); rintro e w13 ⟨rfl, hb⟩; refine ⟨_, rfl, ?_⟩; have n0_ := Aside0.mk (below_step (by repeat (first | (with_reducible first | exact HB.out | apply below_alloc | apply pw_below_drewN | apply below_drew1) | exact HB.out)) hb); clear HB; have HB := n0_; clear n0_; (try clear hb); (try clear hb2); (try clear hk); (try clear hi)))
            first | go_ret | ((try simp only [Exit.inBlock, Exit.then]); apply bodyPost_ret; (exact results_tmp rfl _ _ _); rfl)
            exact ⟨by first | rfl | (simp [errW_none, errW_some] <;> rfl) | (simp only [← hji7, ← hji9]; first | rfl | (simp [errW_none, errW_some] <;> rfl)) | (simp [*, errW_none, errW_some] <;> rfl), by repeat (first | (with_reducible first | exact HB.out | apply below_alloc | apply pw_below_drewN | apply below_drew1) | exact HB.out)⟩
          · rw [if_neg c12] at H
            exact absurd H (by simp)
      · rw [if_neg c8] at H
        exact absurd H (by simp)
    · replace c6 := Bool.eq_false_iff.mpr c6
      subst c6
      have H1 : (some (⟨#[]⟩ : ByteArray)) = some r := by rw [if_neg (show ¬ (false = true) by decide)] at H; exact H
      clear H
      have H := H1
      clear H1
      obtain rfl := Option.some.inj H
      go_enter Tryd.func15, Tryd.ntmps15
      go_wp2_with (first | ((with_reducible refine gate_callee (f := 47) rfl ?_); refine goesL_ (some 6) rfl rfl Tryd.func47 (by kernel_rfl) rfl #[.int .i64 a1, .int .i64 1, .int .i64 4] rfl (by (try simp only [List.map_toArray, List.map_cons, List.map_nil]); first | done | rfl | (simp only [List.length_drop, List.length_take]; rfl)) ?_; (with_reducible refine (impl_within.calls a1 1 4 true _ A3.out).mono ?_); rintro e w' ⟨rfl, ⟨nd, rfl⟩⟩; refine ⟨_, rfl, ?_⟩) | (go_at_call 48; (with_reducible refine (impl_isWord.calls a0 false _ A5.out).mono ?_); rintro e w' ⟨rfl, ⟨nd, rfl⟩⟩))
      first | go_ret | ((try simp only [Exit.inBlock, Exit.then]); apply bodyPost_ret; (exact results_tmp rfl _ _ _); rfl)
      exact ⟨by first | rfl | (simp [errW_none, errW_some] <;> rfl) | (simp [*, errW_none, errW_some] <;> rfl), by repeat (first | (with_reducible first | exact HB.out | apply below_alloc | apply pw_below_drewN | apply below_drew1) | exact HB.out)⟩
  · replace c4 := Bool.eq_false_iff.mpr c4
    subst c4
    have H1 : (some (⟨#[]⟩ : ByteArray)) = some r := by rw [if_neg (show ¬ (false = true) by decide)] at H; exact H
    clear H
    have H := H1
    clear H1
    obtain rfl := Option.some.inj H
    go_enter Tryd.func15, Tryd.ntmps15
    go_wp2_with (first | ((with_reducible refine gate_callee (f := 47) rfl ?_); refine goesL_ (some 6) rfl rfl Tryd.func47 (by kernel_rfl) rfl #[.int .i64 a1, .int .i64 1, .int .i64 4] rfl (by (try simp only [List.map_toArray, List.map_cons, List.map_nil]); first | done | rfl | (simp only [List.length_drop, List.length_take]; rfl)) ?_; (with_reducible refine (impl_within.calls a1 1 4 false _ A3.out).mono ?_); rintro e w' ⟨rfl, ⟨nd, rfl⟩⟩; refine ⟨_, rfl, ?_⟩))
    first | go_ret | ((try simp only [Exit.inBlock, Exit.then]); apply bodyPost_ret; (exact results_tmp rfl _ _ _); rfl)
    exact ⟨by first | rfl | (simp [errW_none, errW_some] <;> rfl) | (simp [*, errW_none, errW_some] <;> rfl), by repeat (first | (with_reducible first | exact HB.out | apply below_alloc | apply pw_below_drewN | apply below_drew1) | exact HB.out)⟩

/-! ### laws_FnExactHexOf: function 3 -/
def laws_FnExactHexOf.f (k : Nat) (a0 : Int) (a1 : Int) : Option (Bool) := (spec_HexOf.f k a0 a1).bind fun t110 => ((impl_HexOf.f a0 a1).bind fun t111 => (if t111.toList = t110.toList then (some true) else (some false)))
theorem laws_FnExactHexOf.mono : ∀ a0 a1 k, LeO (laws_FnExactHexOf.f k a0 a1) (laws_FnExactHexOf.f (k + 1) a0 a1) := by
  intro a0 a1 k
  unfold laws_FnExactHexOf.f
  repeat' first
      | (with_reducible exact spec_HexOf.mono _ _ _)
      | (with_reducible exact LeO.refl _)
      | (with_reducible exact LeO.none _)
      | (with_reducible refine LeO.ite ?_ ?_)
      | (with_reducible refine LeO.bind ?_ (fun _ => ?_))
      | exact spec_HexOf.mono _ _ _
      | exact LeO.none _
      | refine LeO.ite ?_ ?_
      | refine LeO.bind ?_ (fun _ => ?_)
set_option maxHeartbeats 8000000 in
set_option maxRecDepth 100000 in
theorem laws_FnExactHexOf.calls (k : Nat) (a0 : Int) (a1 : Int) (r : Bool) (w : World) (hG : GW w) (h : laws_FnExactHexOf.f k a0 a1 = some r) :
    Calls Tryd.prog 3 #[.int .i64 a0, .int .i64 a1] w fun e w' => e = .returned (.bool r) ∧ Below w.heap.size w w' := by
  have HB := Aside0.mk (Below.refl w.heap.size w)
  have HG := Aside0.mk hG
  clear hG
  have H : ((spec_HexOf.f k a0 a1).bind fun t110 => ((impl_HexOf.f a0 a1).bind fun t111 => (if t111.toList = t110.toList then (some true) else (some false)))) = some r := h
  clear h
  replace H := Option.bind_eq_some_iff.mp H
  obtain ⟨t110, A30, H⟩ := H
  replace H : ((impl_HexOf.f a0 a1).bind fun t111 => (if t111.toList = t110.toList then (some true) else (some false))) = some r := H
  have A3 := Aside0.mk A30
  clear A30
  replace H := Option.bind_eq_some_iff.mp H
  obtain ⟨t111, A40, H⟩ := H
  replace H : (if t111.toList = t110.toList then (some true) else (some false)) = some r := H
  have A4 := Aside0.mk A40
  clear A40
  by_cases c5 : t111.toList = t110.toList
  · rw [if_pos c5] at H
    have c5b0 : (t111.toList == t110.toList) = true := beq_iff_eq.mpr c5
    have c5b1 : (t111.toList != t110.toList) = false := bne_eq_false_iff_eq.mpr c5
    clear c5
    obtain rfl := Option.some.inj H
    go_enter Tryd.func3, Tryd.ntmps3
    go_wp2_with (first | ((with_reducible refine gate_callee (f := 14) rfl ?_); refine goesL_ (some 9) rfl rfl Tryd.func14 (by kernel_rfl) rfl #[.int .i64 a0, .int .i64 a1] rfl (by (try simp only [List.map_toArray, List.map_cons, List.map_nil]); first | done | rfl | (simp only [List.length_drop, List.length_take]; rfl)) ?_; (with_reducible refine (spec_HexOf.calls k a0 a1 t110 _ A3.out).mono ?_); rintro e w' ⟨rfl, ⟨nd, rfl⟩⟩; refine ⟨_, rfl, ?_⟩) | ((with_reducible refine gate_callee (f := 15) rfl ?_); refine goesL_ (some 12) rfl rfl Tryd.func15 (by kernel_rfl) rfl #[.int .i64 a0, .int .i64 a1] rfl (by (try simp only [List.map_toArray, List.map_cons, List.map_nil]); first | done | rfl | (simp only [List.length_drop, List.length_take]; rfl)) ?_; (with_reducible refine (impl_HexOf.calls a0 a1 t111 _ ?side1 A4.out).mono ?_); (case side1 => exact GW.below HG.out (by repeat (first | (with_reducible first | exact HB.out | apply below_alloc | apply pw_below_drewN | apply below_drew1) | exact HB.out))); rintro e w6 ⟨rfl, hb⟩; refine ⟨_, rfl, ?_⟩; have n0_ := Aside0.mk (below_step (by repeat (first | (with_reducible first | exact HB.out | apply below_alloc | apply pw_below_drewN | apply below_drew1) | exact HB.out)) hb); clear HB; have HB := n0_; clear n0_; (try clear hb); (try clear hb2); (try clear hk); (try clear hi)))
    first | go_ret | ((try simp only [Exit.inBlock, Exit.then]); apply bodyPost_ret; (exact results_tmp rfl _ _ _); rfl)
    exact ⟨by first | rfl | (simp [errW_none, errW_some] <;> rfl) | (simp [*, errW_none, errW_some] <;> rfl), by repeat (first | (with_reducible first | exact HB.out | apply below_alloc | apply pw_below_drewN | apply below_drew1) | exact HB.out)⟩
  · rw [if_neg c5] at H
    have c5b0 : (t111.toList == t110.toList) = false := beq_eq_false_iff_ne.mpr c5
    have c5b1 : (t111.toList != t110.toList) = true := bne_iff_ne.mpr c5
    obtain rfl := Option.some.inj H
    go_enter Tryd.func3, Tryd.ntmps3
    go_wp2_with (first | ((with_reducible refine gate_callee (f := 14) rfl ?_); refine goesL_ (some 9) rfl rfl Tryd.func14 (by kernel_rfl) rfl #[.int .i64 a0, .int .i64 a1] rfl (by (try simp only [List.map_toArray, List.map_cons, List.map_nil]); first | done | rfl | (simp only [List.length_drop, List.length_take]; rfl)) ?_; (with_reducible refine (spec_HexOf.calls k a0 a1 t110 _ A3.out).mono ?_); rintro e w' ⟨rfl, ⟨nd, rfl⟩⟩; refine ⟨_, rfl, ?_⟩) | ((with_reducible refine gate_callee (f := 15) rfl ?_); refine goesL_ (some 12) rfl rfl Tryd.func15 (by kernel_rfl) rfl #[.int .i64 a0, .int .i64 a1] rfl (by (try simp only [List.map_toArray, List.map_cons, List.map_nil]); first | done | rfl | (simp only [List.length_drop, List.length_take]; rfl)) ?_; (with_reducible refine (impl_HexOf.calls a0 a1 t111 _ ?side1 A4.out).mono ?_); (case side1 => exact GW.below HG.out (by repeat (first | (with_reducible first | exact HB.out | apply below_alloc | apply pw_below_drewN | apply below_drew1) | exact HB.out))); rintro e w7 ⟨rfl, hb⟩; refine ⟨_, rfl, ?_⟩; have n0_ := Aside0.mk (below_step (by repeat (first | (with_reducible first | exact HB.out | apply below_alloc | apply pw_below_drewN | apply below_drew1) | exact HB.out)) hb); clear HB; have HB := n0_; clear n0_; (try clear hb); (try clear hb2); (try clear hk); (try clear hi)))
    first | go_ret | ((try simp only [Exit.inBlock, Exit.then]); apply bodyPost_ret; (exact results_tmp rfl _ _ _); rfl)
    exact ⟨by first | rfl | (simp [errW_none, errW_some] <;> rfl) | (simp [*, errW_none, errW_some] <;> rfl), by repeat (first | (with_reducible first | exact HB.out | apply below_alloc | apply pw_below_drewN | apply below_drew1) | exact HB.out)⟩

end Go.Proofs.YtmiebnpmckjidaaDoor.PFnExactHexOf
