/- What the Go functions that the law FnExactObjectOk reaches compute, function by function, and that Go comes to just that. -/
import Derived.Test.YtbbngeooodcbcaaPFnExactObjectOkx0
import Derived.Test.YtbbngeooodcbcaaAidZ
import Derived.Test.YtbbngeooodcbcaaPFnExactObjectOkx6
namespace Go.Proofs.Ytbbngeooodcbcaa.PFnExactObjectOk
open Go.RowKit Go.Proofs.Ytbbngeooodcbcaa.Z Go.Proofs.YtbbngeooodcbcaaW.PrintWords Go.Proofs.YtbbngeooodcbcaaW.PrintLast Go.Proofs.YtbbngeooodcbcaaW.PrintMore
attribute [local go_sem] max2_int min2_int max_two min_two max_three min_three max_four min_four   -- for this text's walks alone
set_option linter.unusedVariables false
set_option linter.unusedSimpArgs false

/-! ### impl_isDigit: function 57 -/
def impl_isDigit.f (a0 : Int) : Option (Bool) := if a0 ≥ 48 then (some (decide (a0 ≤ 57))) else (some false)
set_option maxHeartbeats 8000000 in
set_option maxRecDepth 100000 in
theorem impl_isDigit.calls (a0 : Int) (r : Bool) (w : World) (h : impl_isDigit.f a0 = some r) :
 Calls Try.prog 57 #[.int .u8 a0] w fun e w' => e = .returned (.bool r) ∧ Drawn0 w w' := by
 have H : (if a0 ≥ 48 then (some (decide (a0 ≤ 57))) else (some false)) = some r := h
 clear h
 by_cases c2 : a0 ≥ 48
 ·rw [if_pos c2] at H
  have c2b0 : decide (48 ≤ a0) = true := decide_eq_true c2
  clear c2
  obtain rfl := Option.some.inj H
  go_enter Try.func57, Try.ntmps57
  go_wp2
  go_ret
  exact ⟨zE _, zd _⟩
 ·rw [if_neg c2] at H
  have c2b0 : decide (48 ≤ a0) = false := decide_eq_false c2
  clear c2
  obtain rfl := Option.some.inj H
  go_enter Try.func57, Try.ntmps57
  go_wp2
  go_ret
  exact ⟨zE _, zd _⟩

/-! ### impl_isSmall: function 58 -/
def impl_isSmall.f (a0 : Int) : Option (Bool) := if a0 ≥ 97 then (some (decide (a0 ≤ 122))) else (some false)
set_option maxHeartbeats 8000000 in
set_option maxRecDepth 100000 in
theorem impl_isSmall.calls (a0 : Int) (r : Bool) (w : World) (h : impl_isSmall.f a0 = some r) :
 Calls Try.prog 58 #[.int .u8 a0] w fun e w' => e = .returned (.bool r) ∧ Drawn0 w w' := by
 have H : (if a0 ≥ 97 then (some (decide (a0 ≤ 122))) else (some false)) = some r := h
 clear h
 by_cases c2 : a0 ≥ 97
 ·rw [if_pos c2] at H
  have c2b0 : decide (97 ≤ a0) = true := decide_eq_true c2
  clear c2
  obtain rfl := Option.some.inj H
  go_enter Try.func58, Try.ntmps58
  go_wp2
  go_ret
  exact ⟨zE _, zd _⟩
 ·rw [if_neg c2] at H
  have c2b0 : decide (97 ≤ a0) = false := decide_eq_false c2
  clear c2
  obtain rfl := Option.some.inj H
  go_enter Try.func58, Try.ntmps58
  go_wp2
  go_ret
  exact ⟨zE _, zd _⟩

/-! ### impl_NameOk: function 40 -/
mutual
def impl_NameOk.j0 : Nat → ByteArray → Bool → Option (Bool)
  | 0, _, _ => none
  | k + 1, x0, x12 => if x12 = true then (some false) else (impl_NameOk.l0 k x0 (x0.size : Int) 0)
def impl_NameOk.l0 : Nat → ByteArray → Int → Int → Option (Bool)
  | 0, _, _, _ => none
  | k + 1, x0, x14, x15 => if x15 < x14 then (if 0 ≤ x15 then (if x15 < (x0.size : Int) then ((impl_isSmall.f (bt x0 x15)).bind fun t246 => (if t246 = true then (impl_NameOk.l0 k x0 x14 (wrap64 (x15 + 1))) else ((impl_isDigit.f (bt x0 x15)).bind fun t247 => (if t247 = true then (impl_NameOk.l0 k x0 x14 (wrap64 (x15 + 1))) else (if (bt x0 x15) = 95 then (impl_NameOk.l0 k x0 x14 (wrap64 (x15 + 1))) else (if (bt x0 x15) = 46 then (impl_NameOk.l0 k x0 x14 (wrap64 (x15 + 1))) else (some false))))))) else (none)) else (none)) else (some true)
end
def impl_NameOk.f (k : Nat) (a0 : ByteArray) : Option (Bool) := (impl_within.f (a0.size : Int) 1 16).bind fun t244 => (if t244 = true then (if 0 < (a0.size : Int) then ((impl_isDigit.f (bt a0 0)).bind fun t245 => (impl_NameOk.j0 k a0 t245)) else (none)) else (impl_NameOk.j0 k a0 true))
theorem impl_NameOk.mono_l : ∀ k, (∀ y0 y1, LeO (impl_NameOk.j0 k y0 y1) (impl_NameOk.j0 (k + 1) y0 y1)) ∧ (∀ y0 y1 y2, LeO (impl_NameOk.l0 k y0 y1 y2) (impl_NameOk.l0 (k + 1) y0 y1 y2))
  | 0 => ⟨fun _ _ r h => by simp [impl_NameOk.j0] at h, fun _ _ _ r h => by simp [impl_NameOk.l0] at h⟩
  | k + 1 => by
    obtain ⟨ih0, ih1⟩ := impl_NameOk.mono_l k
    refine ⟨?_, ?_⟩
    · intro y0 y1
      unfold impl_NameOk.j0
      repeat' first
      | (with_reducible exact ih0 _ _)
      | (with_reducible exact ih1 _ _ _)
      | (with_reducible exact LeO.refl _)
      | (with_reducible exact LeO.none _)
      | (with_reducible refine LeO.ite ?_ ?_)
      | (with_reducible refine LeO.bind ?_ (fun _ => ?_))
      | exact ih0 _ _
      | exact ih1 _ _ _
      | exact LeO.none _
      | refine LeO.ite ?_ ?_
      | refine LeO.bind ?_ (fun _ => ?_)
    · intro y0 y1 y2
      unfold impl_NameOk.l0
      repeat' first
      | (with_reducible exact ih0 _ _)
      | (with_reducible exact ih1 _ _ _)
      | (with_reducible exact LeO.refl _)
      | (with_reducible exact LeO.none _)
      | (with_reducible refine LeO.ite ?_ ?_)
      | (with_reducible refine LeO.bind ?_ (fun _ => ?_))
      | exact ih0 _ _
      | exact ih1 _ _ _
      | exact LeO.none _
      | refine LeO.ite ?_ ?_
      | refine LeO.bind ?_ (fun _ => ?_)
theorem impl_NameOk.mono : ∀ a0 k, LeO (impl_NameOk.f k a0) (impl_NameOk.f (k + 1) a0) := by
  intro a0 k
  obtain ⟨ih0, ih1⟩ := impl_NameOk.mono_l k
  unfold impl_NameOk.f
  repeat' first
      | (with_reducible exact ih0 _ _)
      | (with_reducible exact ih1 _ _ _)
      | (with_reducible exact LeO.refl _)
      | (with_reducible exact LeO.none _)
      | (with_reducible refine LeO.ite ?_ ?_)
      | (with_reducible refine LeO.bind ?_ (fun _ => ?_))
      | exact ih0 _ _
      | exact ih1 _ _ _
      | exact LeO.none _
      | refine LeO.ite ?_ ?_
      | refine LeO.bind ?_ (fun _ => ?_)
set_option maxHeartbeats 8000000 in
set_option maxRecDepth 100000 in
theorem impl_NameOk.calls (k : Nat) (a0 : ByteArray) (r : Bool) (w : World) (h : impl_NameOk.f k a0 = some r) :
 Calls Try.prog 40 #[.string a0] w fun e w' => e = .returned (.bool r) ∧ Drawn0 w w' := by
 have H : ((impl_within.f (a0.size : Int) 1 16).bind fun t244 => (if t244 = true then (if 0 < (a0.size : Int) then ((impl_isDigit.f (bt a0 0)).bind fun t245 => (impl_NameOk.j0 k a0 t245)) else (none)) else (impl_NameOk.j0 k a0 true))) = some r := h
 clear h
 have HC2 := Aside0.mk H
 clear H
 go_enter Try.func40, Try.ntmps40
 go_upto_region 1 with (fail)
 go_cut [12] (fun v12 wc => ∃ (kq : Nat) (x12_1 : Bool), v12 = .bool x12_1 ∧ Aside0 (impl_NameOk.j0 kq a0 x12_1 = some r) ∧ Aside0 (kq ≤ k) ∧ Drawn0 w wc)
 case first =>
  have H := HC2.out
  clear HC2
  obtain ⟨t244, A30, H⟩ := Option.bind_eq_some_iff.mp H
  have A3 := Aside0.mk A30
  clear A30
  by_cases c4 : t244 = true
  ·subst c4
   rw [if_pos rfl] at H
   by_cases c5 : 0 < (a0.size : Int)
   ·rw [if_pos c5] at H
    have c5b0 : decide (0 < (a0.size : Int)) = true := decide_eq_true c5
    have c5b1 : decide (0 < a0.size) = true := decide_eq_true (by omega)
    clear c5
    (first | rw [c5b0] | (simp only [i64_w, i32_w]; rw [c5b0]) | skip)
    obtain ⟨t245, A70, H⟩ := Option.bind_eq_some_iff.mp H
    have A7 := Aside0.mk A70
    clear A70
    have H' := Aside0.mk H
    clear H
    go_wp2_with (first | ((with_reducible refine gate_callee (f := 41) rfl ?_); refine zc (some 6) Try.func41 #[.int .i64 (a0.size : Int), .int .i64 1, .int .i64 16] ?_; (with_reducible refine (impl_within.calls (a0.size : Int) 1 16 true _ A3.out).mono ?_); rintro e w' ⟨rfl, ⟨nd, rfl⟩⟩; refine ⟨_, rfl, ?_⟩; have p6 : 0 ≤ (0 : Int) := (by omega); have q6 : 0 < a0.size := (by have : (0 : Int) < (a0.size : Int) := of_decide_eq_true (za _); omega); have hx6 : ∀ h : 0 < a0.size, ((a0[0]'h).toNat : Int) = bt a0 0 := bt_at a0 0; clear p6; have qi6 : (0 < (a0.size : Int)) = True := eq_true (of_decide_eq_true (za _)); replace q6 := eq_true q6) | (go_at_call 57; (with_reducible refine (impl_isDigit.calls (bt a0 0) t245 _ A7.out).mono ?_); rintro e w' ⟨rfl, ⟨nd, rfl⟩⟩))
    go_meet
    case rel => exact ⟨_, (t245), (zE _), H', ⟨by first | omega | exact Nat.le_refl _⟩, zd _⟩
   ·rw [if_neg c5] at H
    exact absurd H (by simp)
  ·replace c4 := Bool.eq_false_iff.mpr c4
   subst c4
   rw [if_neg (show ¬ (false = true) by decide)] at H
   have H' := Aside0.mk H
   clear H
   go_wp2_with (first | ((with_reducible refine gate_callee (f := 41) rfl ?_); refine zc (some 6) Try.func41 #[.int .i64 (a0.size : Int), .int .i64 1, .int .i64 16] ?_; (with_reducible refine (impl_within.calls (a0.size : Int) 1 16 false _ A3.out).mono ?_); rintro e w' ⟨rfl, ⟨nd, rfl⟩⟩; refine ⟨_, rfl, ?_⟩))
   go_meet
   case rel => exact ⟨_, (true), (zE _), H', ⟨by first | omega | exact Nat.le_refl _⟩, zd _⟩
 case rest =>
  clear HC2
  try clear p2
  try clear c4
  try clear c5
  try clear c5b0
  try clear c5b1
  try clear p6
  try clear q6
  try clear hx6
  try clear qi6
  try clear p6
  try clear q6
  obtain ⟨kq, x12_1, rfl, HA, HJ1, ⟨mc1, rfl⟩⟩ := hcut
  cases kq with
  | zero => exact absurd HA.out (by simp [impl_NameOk.j0])
  | succ kj1 =>
   have H := HA.out
   clear HA
   simp only [impl_NameOk.j0] at H
   by_cases c8 : x12_1 = true
   ·subst c8
    rw [if_pos rfl] at H
    obtain rfl := Option.some.inj H
    go_wp2
    go_ret
    exact ⟨zE _, zd _⟩
   ·replace c8 := Bool.eq_false_iff.mpr c8
    subst c8
    rw [if_neg (show ¬ (false = true) by decide)] at H
    have H' := Aside0.mk H
    clear H
    go_wp2
    go_loopg [15] kj1 (fun kq v15 w' => ∃ (x15_2 : Int), v15 = .int .i64 x15_2 ∧ Aside0 (impl_NameOk.l0 kq a0 (a0.size : Int) x15_2 = some r) ∧ Aside0 (kq ≤ kj1) ∧ Drawn0 w w')
    case atStart => exact ⟨(0), (zE _), H', ⟨Nat.le_refl _⟩, zd _⟩
    case round =>
     clear H'
     try clear c1
     try clear p2
     try clear c4
     try clear c5
     try clear c5b0
     try clear c5b1
     try clear p6
     try clear q6
     try clear hx6
     try clear qi6
     try clear c8
     try clear p2
     try clear p6
     try clear q6
     obtain ⟨x15_2, rfl, HA, HK2, ⟨m2, rfl⟩⟩ := hrel
     cases gk with
     | zero => exact absurd HA.out (by simp [impl_NameOk.l0])
     | succ k2 =>
      have H := HA.out
      clear HA
      simp only [impl_NameOk.l0] at H
      by_cases c9 : x15_2 < (a0.size : Int)
      ·rw [if_pos c9] at H
       have c9b0 : decide (x15_2 < (a0.size : Int)) = true := decide_eq_true c9
       clear c9
       by_cases c10 : 0 ≤ x15_2
       ·rw [if_pos c10] at H
        have c10b0 : decide (0 ≤ x15_2) = true := decide_eq_true c10
        clear c10
        by_cases c11 : x15_2 < (a0.size : Int)
        ·rw [if_pos c11] at H
         have c11b0 : decide (x15_2 < (a0.size : Int)) = true := decide_eq_true c11
         clear c11
         obtain ⟨t246, A130, H⟩ := Option.bind_eq_some_iff.mp H
         have A13 := Aside0.mk A130
         clear A130
         by_cases c14 : t246 = true
         ·subst c14
          rw [if_pos rfl] at H
          have H' := Aside0.mk H
          clear H
          have p12 : 0 ≤ (x15_2 : Int) := of_decide_eq_true (za _)
          have q12 : x15_2 < (a0.size : Int) := of_decide_eq_true (za _)
          have hx12 := bt_at a0 x15_2
          replace p12 := eq_true p12
          replace q12 := eq_true q12
          go_wp2_with (first | ((with_reducible refine gate_callee (f := 58) rfl ?_); refine zc (some 21) Try.func58 #[.int .u8 (bt a0 x15_2)] ?_; (with_reducible refine (impl_isSmall.calls (bt a0 x15_2) true _ A13.out).mono ?_); rintro e w' ⟨rfl, ⟨nd, rfl⟩⟩; refine ⟨_, rfl, ?_⟩))
          go_roundg k2
          case measure => have := HJ1.out; have := HK2.out; omega
          case rel => exact ⟨(wrap64 (x15_2 + 1)), (zE _), H', ⟨by have := HJ1.out; have := HK2.out; omega⟩, zd _⟩
         ·replace c14 := Bool.eq_false_iff.mpr c14
          subst c14
          rw [if_neg (show ¬ (false = true) by decide)] at H
          obtain ⟨t247, A160, H⟩ := Option.bind_eq_some_iff.mp H
          have A16 := Aside0.mk A160
          clear A160
          by_cases c17 : t247 = true
          ·subst c17
           rw [if_pos rfl] at H
           have H' := Aside0.mk H
           clear H
           have p12 : 0 ≤ (x15_2 : Int) := of_decide_eq_true (za _)
           have q12 : x15_2 < (a0.size : Int) := of_decide_eq_true (za _)
           have hx12 := bt_at a0 x15_2
           replace p12 := eq_true p12
           replace q12 := eq_true q12
           go_wp2_with (first | ((with_reducible refine gate_callee (f := 58) rfl ?_); refine zc (some 21) Try.func58 #[.int .u8 (bt a0 x15_2)] ?_; (with_reducible refine (impl_isSmall.calls (bt a0 x15_2) false _ A13.out).mono ?_); rintro e w' ⟨rfl, ⟨nd, rfl⟩⟩; refine ⟨_, rfl, ?_⟩; have p15 : 0 ≤ (x15_2 : Int) := of_decide_eq_true (za _); have q15 : x15_2 < (a0.size : Int) := of_decide_eq_true (za _); have hx15 := bt_at a0 x15_2; replace p15 := eq_true p15; replace q15 := eq_true q15) | (go_at_call 57; (with_reducible refine (impl_isDigit.calls (bt a0 x15_2) true _ A16.out).mono ?_); rintro e w' ⟨rfl, ⟨nd, rfl⟩⟩))
           go_roundg k2
           case measure => have := HJ1.out; have := HK2.out; omega
           case rel => exact ⟨(wrap64 (x15_2 + 1)), (zE _), H', ⟨by have := HJ1.out; have := HK2.out; omega⟩, zd _⟩
          ·replace c17 := Bool.eq_false_iff.mpr c17
           subst c17
           rw [if_neg (show ¬ (false = true) by decide)] at H
           by_cases c19 : (bt a0 x15_2) = 95
           ·rw [if_pos c19] at H
            have c19b0 : ((bt a0 x15_2) == 95) = true := beq_iff_eq.mpr c19
            have c19b1 : ((bt a0 x15_2) != 95) = false := bne_eq_false_iff_eq.mpr c19
            clear c19
            have H' := Aside0.mk H
            clear H
            have p12 : 0 ≤ (x15_2 : Int) := of_decide_eq_true (za _)
            have q12 : x15_2 < (a0.size : Int) := of_decide_eq_true (za _)
            have hx12 := bt_at a0 x15_2
            replace p12 := eq_true p12
            replace q12 := eq_true q12
            go_wp2_with (first | ((with_reducible refine gate_callee (f := 58) rfl ?_); refine zc (some 21) Try.func58 #[.int .u8 (bt a0 x15_2)] ?_; (with_reducible refine (impl_isSmall.calls (bt a0 x15_2) false _ A13.out).mono ?_); rintro e w' ⟨rfl, ⟨nd, rfl⟩⟩; refine ⟨_, rfl, ?_⟩; have p15 : 0 ≤ (x15_2 : Int) := of_decide_eq_true (za _); have q15 : x15_2 < (a0.size : Int) := of_decide_eq_true (za _); have hx15 := bt_at a0 x15_2; replace p15 := eq_true p15; replace q15 := eq_true q15) | (go_at_call 57; (with_reducible refine (impl_isDigit.calls (bt a0 x15_2) false _ A16.out).mono ?_); rintro e w' ⟨rfl, ⟨nd, rfl⟩⟩; have p18 : 0 ≤ (x15_2 : Int) := of_decide_eq_true (za _); have q18 : x15_2 < (a0.size : Int) := of_decide_eq_true (za _); have hx18 := bt_at a0 x15_2; replace p18 := eq_true p18; replace q18 := eq_true q18))
            go_roundg k2
            case measure => have := HJ1.out; have := HK2.out; omega
            case rel => exact ⟨(wrap64 (x15_2 + 1)), (zE _), H', ⟨by have := HJ1.out; have := HK2.out; omega⟩, zd _⟩
           ·rw [if_neg c19] at H
            have c19b0 : ((bt a0 x15_2) == 95) = false := beq_eq_false_iff_ne.mpr c19
            have c19b1 : ((bt a0 x15_2) != 95) = true := bne_iff_ne.mpr c19
            by_cases c21 : (bt a0 x15_2) = 46
            ·rw [if_pos c21] at H
             have c21b0 : ((bt a0 x15_2) == 46) = true := beq_iff_eq.mpr c21
             have c21b1 : ((bt a0 x15_2) != 46) = false := bne_eq_false_iff_eq.mpr c21
             clear c21
             have H' := Aside0.mk H
             clear H
             have p12 : 0 ≤ (x15_2 : Int) := of_decide_eq_true (za _)
             have q12 : x15_2 < (a0.size : Int) := of_decide_eq_true (za _)
             have hx12 := bt_at a0 x15_2
             replace p12 := eq_true p12
             replace q12 := eq_true q12
             go_wp2_with (first | ((with_reducible refine gate_callee (f := 58) rfl ?_); refine zc (some 21) Try.func58 #[.int .u8 (bt a0 x15_2)] ?_; (with_reducible refine (impl_isSmall.calls (bt a0 x15_2) false _ A13.out).mono ?_); rintro e w' ⟨rfl, ⟨nd, rfl⟩⟩; refine ⟨_, rfl, ?_⟩; have p15 : 0 ≤ (x15_2 : Int) := of_decide_eq_true (za _); have q15 : x15_2 < (a0.size : Int) := of_decide_eq_true (za _); have hx15 := bt_at a0 x15_2; replace p15 := eq_true p15; replace q15 := eq_true q15) | (go_at_call 57; (with_reducible refine (impl_isDigit.calls (bt a0 x15_2) false _ A16.out).mono ?_); rintro e w' ⟨rfl, ⟨nd, rfl⟩⟩; have p18 : 0 ≤ (x15_2 : Int) := of_decide_eq_true (za _); have q18 : x15_2 < (a0.size : Int) := of_decide_eq_true (za _); have hx18 := bt_at a0 x15_2; replace p18 := eq_true p18; replace q18 := eq_true q18; have p20 : 0 ≤ (x15_2 : Int) := of_decide_eq_true (za _); have q20 : x15_2 < (a0.size : Int) := of_decide_eq_true (za _); have hx20 := bt_at a0 x15_2; replace p20 := eq_true p20; replace q20 := eq_true q20))
             go_roundg k2
             case measure => have := HJ1.out; have := HK2.out; omega
             case rel => exact ⟨(wrap64 (x15_2 + 1)), (zE _), H', ⟨by have := HJ1.out; have := HK2.out; omega⟩, zd _⟩
            ·rw [if_neg c21] at H
             have c21b0 : ((bt a0 x15_2) == 46) = false := beq_eq_false_iff_ne.mpr c21
             have c21b1 : ((bt a0 x15_2) != 46) = true := bne_iff_ne.mpr c21
             obtain rfl := Option.some.inj H
             have p12 : 0 ≤ (x15_2 : Int) := of_decide_eq_true (za _)
             have q12 : x15_2 < (a0.size : Int) := of_decide_eq_true (za _)
             have hx12 := bt_at a0 x15_2
             replace p12 := eq_true p12
             replace q12 := eq_true q12
             go_wp2_with (first | ((with_reducible refine gate_callee (f := 58) rfl ?_); refine zc (some 21) Try.func58 #[.int .u8 (bt a0 x15_2)] ?_; (with_reducible refine (impl_isSmall.calls (bt a0 x15_2) false _ A13.out).mono ?_); rintro e w' ⟨rfl, ⟨nd, rfl⟩⟩; refine ⟨_, rfl, ?_⟩; have p15 : 0 ≤ (x15_2 : Int) := of_decide_eq_true (za _); have q15 : x15_2 < (a0.size : Int) := of_decide_eq_true (za _); have hx15 := bt_at a0 x15_2; replace p15 := eq_true p15; replace q15 := eq_true q15) | (go_at_call 57; (with_reducible refine (impl_isDigit.calls (bt a0 x15_2) false _ A16.out).mono ?_); rintro e w' ⟨rfl, ⟨nd, rfl⟩⟩; have p18 : 0 ≤ (x15_2 : Int) := of_decide_eq_true (za _); have q18 : x15_2 < (a0.size : Int) := of_decide_eq_true (za _); have hx18 := bt_at a0 x15_2; replace p18 := eq_true p18; replace q18 := eq_true q18; have p20 : 0 ≤ (x15_2 : Int) := of_decide_eq_true (za _); have q20 : x15_2 < (a0.size : Int) := of_decide_eq_true (za _); have hx20 := bt_at a0 x15_2; replace p20 := eq_true p20; replace q20 := eq_true q20))
             go_ret
             exact ⟨zE _, zd _⟩
        ·rw [if_neg c11] at H
         exact absurd H (by simp)
       ·rw [if_neg c10] at H
        exact absurd H (by simp)
      ·rw [if_neg c9] at H
       have c9b0 : decide (x15_2 < (a0.size : Int)) = false := decide_eq_false c9
       clear c9
       obtain rfl := Option.some.inj H
       go_wp2
       go_ret
       exact ⟨zE _, zd _⟩

/-! ### impl_isSymbol: function 19 -/
def impl_isSymbol.f (k : Nat) (l0_0 : List (S43)) (l0_1 : List (S45)) (l0_2 : List (List (S74))) (a1_0 : ByteArray) (a1_1 : Int) (a1_2 : Int) (a1_3 : Bool) : Option (Bool) := (impl_NameOk.f k a1_0).bind fun t250 => (if t250 = true then (if a1_1 = (-1) then ((impl_within.f a1_2 (-2147483648) 2147483647).bind fun t251 => (some t251)) else ((impl_within.f a1_1 0 (wrap64 ((l0_0.length : Int) - 1))).bind fun t252 => (if t252 = true then (if 0 ≤ a1_1 then (if a1_1 < (l0_0.length : Int) then ((impl_within.f a1_2 0 (((rd_T43 l0_0 a1_1).f4).size : Int)).bind fun t254 => (some t254)) else (none)) else (none)) else (some false)))) else (some false))
theorem impl_isSymbol.mono : ∀ a0 a1 a2 a3 a4 a5 a6 k, LeO (impl_isSymbol.f k a0 a1 a2 a3 a4 a5 a6) (impl_isSymbol.f (k + 1) a0 a1 a2 a3 a4 a5 a6) := by
  intro a0 a1 a2 a3 a4 a5 a6 k
  unfold impl_isSymbol.f
  repeat' first
      | (with_reducible exact impl_NameOk.mono _ _)
      | (with_reducible exact LeO.refl _)
      | (with_reducible exact LeO.none _)
      | (with_reducible refine LeO.ite ?_ ?_)
      | (with_reducible refine LeO.bind ?_ (fun _ => ?_))
      | exact impl_NameOk.mono _ _
      | exact LeO.none _
      | refine LeO.ite ?_ ?_
      | refine LeO.bind ?_ (fun _ => ?_)
set_option maxHeartbeats 8000000 in
set_option maxRecDepth 100000 in
theorem impl_isSymbol.calls (k : Nat) (A0_0 : Option Addr) (c0_0 : Nat) (l0_0 : List (S43)) (A0_1 : Option Addr) (c0_1 : Nat) (l0_1 : List (S45)) (A0_2 : Option Addr) (c0_2 : Nat) (l0_2 : List (List (S74))) (a1_0 : ByteArray) (a1_1 : Int) (a1_2 : Int) (a1_3 : Bool) (r : Bool) (w : World) (hr0_0 : Kd.C k43 w A0_0 l0_0.length l0_0) (hc0_0 : l0_0.length ≤ c0_0) (hr0_1 : Kd.C k45 w A0_1 l0_1.length l0_1) (hc0_1 : l0_1.length ≤ c0_1) (hr0_2 : Kd.C (Kd.slice 74 k74) w A0_2 l0_2.length l0_2) (hc0_2 : l0_2.length ≤ c0_2) (h : impl_isSymbol.f k l0_0 l0_1 l0_2 a1_0 a1_1 a1_2 a1_3 = some r) :
 Calls Try.prog 19 #[.agg #[.slice A0_0 l0_0.length c0_0, .slice A0_1 l0_1.length c0_1, .slice A0_2 l0_2.length c0_2], .agg #[.string a1_0, .int .i64 a1_1, .int .i64 a1_2, .bool a1_3]] w fun e w' => e = .returned (.bool r) ∧ Below w.heap.size w w' := by
 have hu33 := Try.underlying33
 have hu45 := Try.underlying45
 have HR0_0 := Aside0.mk hr0_0
 have HC0_0 := Aside0.mk hc0_0
 clear hr0_0 hc0_0
 have HR0_1 := Aside0.mk hr0_1
 have HC0_1 := Aside0.mk hc0_1
 clear hr0_1 hc0_1
 have HR0_2 := Aside0.mk hr0_2
 have HC0_2 := Aside0.mk hc0_2
 clear hr0_2 hc0_2
 have HB := Aside0.mk (Below.refl w.heap.size w)
 have H : ((impl_NameOk.f k a1_0).bind fun t250 => (if t250 = true then (if a1_1 = (-1) then ((impl_within.f a1_2 (-2147483648) 2147483647).bind fun t251 => (some t251)) else ((impl_within.f a1_1 0 (wrap64 ((l0_0.length : Int) - 1))).bind fun t252 => (if t252 = true then (if 0 ≤ a1_1 then (if a1_1 < (l0_0.length : Int) then ((impl_within.f a1_2 0 (((rd_T43 l0_0 a1_1).f4).size : Int)).bind fun t254 => (some t254)) else (none)) else (none)) else (some false)))) else (some false))) = some r := h
 clear h
 obtain ⟨t250, A30, H⟩ := Option.bind_eq_some_iff.mp H
 have A3 := Aside0.mk A30
 clear A30
 by_cases c4 : t250 = true
 ·subst c4
  rw [if_pos rfl] at H
  by_cases c5 : a1_1 = (-1)
  ·rw [if_pos c5] at H
   have c5b0 : (a1_1 == (-1)) = true := beq_iff_eq.mpr c5
   have c5b1 : (a1_1 != (-1)) = false := bne_eq_false_iff_eq.mpr c5
   clear c5
   obtain ⟨t251, A60, H⟩ := Option.bind_eq_some_iff.mp H
   have A6 := Aside0.mk A60
   clear A60
   obtain rfl := Option.some.inj H
   go_enter Try.func19, Try.ntmps19
   go_wp2_with (first | ((with_reducible refine gate_dst (N := 2) rfl ?_); (try (refine gate_guard (by rfl) ?_; dsimp only)); refine zbx 2 #[.slice A0_0 l0_0.length c0_0, .slice A0_1 l0_1.length c0_1, .slice A0_2 l0_2.length c0_2] 33 ?_; intro gb248 hg w7 hbox hb; have BK248 := Aside0.mk (hbox); have GW248 := zs w hg; have GE248 := GW248; replace HB := zt w hb; clear hb hbox hg) | ((with_reducible refine gate_dst (N := 3) rfl ?_); (try (refine gate_guard (by rfl) ?_; dsimp only)); refine zbx 3 #[.string a1_0, .int .i64 a1_1, .int .i64 a1_2, .bool a1_3] 45 ?_; intro gb249 hg w8 hbox hb; have BK249 := Aside0.mk (hbox); have GW249 := zs w hg; have GE249 := GW249; have NB248_249 := zlt BK248 hg; have NB249_248 := zgt (zlt BK248 hg); replace BK248 := zk BK248 hb; replace HB := zt w hb; clear hb hbox hg; have hnb9 := NB249_248.out; have hnc9 := NB248_249.out; have hcz10_0 := zc0 BK249; have hcz10_1 := zc1 BK249; have hcz10_2 := zc2 BK249; have hcz10_3 := zc3 BK249; have hfz10_0 := blk_frozen BK249.out 0; have hfz10_1 := blk_frozen BK249.out 1; have hfz10_2 := blk_frozen BK249.out 2; have hfz10_3 := blk_frozen BK249.out 3) | (go_at_call 40; (with_reducible refine (impl_NameOk.calls k a1_0 true _ A3.out).mono ?_); rintro e w' ⟨rfl, ⟨nd, rfl⟩⟩; (try first | exact ⟨rfl, _, World.drewN_drewN _ _ _⟩ | exact ⟨rfl, _, Eq.trans (World.drewN_drewN _ _ _) (congrArg (World.drewN _) (Nat.add_assoc _ _ _))⟩)) | (go_at_call 41; (with_reducible refine (impl_within.calls a1_2 (-2147483648) 2147483647 t251 _ A6.out).mono ?_); rintro e w' ⟨rfl, ⟨nd, rfl⟩⟩; (try first | exact ⟨rfl, _, World.drewN_drewN _ _ _⟩ | exact ⟨rfl, _, Eq.trans (World.drewN_drewN _ _ _) (congrArg (World.drewN _) (Nat.add_assoc _ _ _))⟩)))
   repeat (go_quiet (first | ((with_reducible refine gate_dst (N := 2) rfl ?_); (try (refine gate_guard (by rfl) ?_; dsimp only)); refine zbx 2 #[.slice A0_0 l0_0.length c0_0, .slice A0_1 l0_1.length c0_1, .slice A0_2 l0_2.length c0_2] 33 ?_; intro gb248 hg w7 hbox hb; have BK248 := Aside0.mk (hbox); have GW248 := zs w hg; have GE248 := GW248; replace HB := zt w hb; clear hb hbox hg) | ((with_reducible refine gate_dst (N := 3) rfl ?_); (try (refine gate_guard (by rfl) ?_; dsimp only)); refine zbx 3 #[.string a1_0, .int .i64 a1_1, .int .i64 a1_2, .bool a1_3] 45 ?_; intro gb249 hg w8 hbox hb; have BK249 := Aside0.mk (hbox); have GW249 := zs w hg; have GE249 := GW249; have NB248_249 := zlt BK248 hg; have NB249_248 := zgt (zlt BK248 hg); replace BK248 := zk BK248 hb; replace HB := zt w hb; clear hb hbox hg; have hnb9 := NB249_248.out; have hnc9 := NB248_249.out; have hcz10_0 := zc0 BK249; have hcz10_1 := zc1 BK249; have hcz10_2 := zc2 BK249; have hcz10_3 := zc3 BK249; have hfz10_0 := blk_frozen BK249.out 0; have hfz10_1 := blk_frozen BK249.out 1; have hfz10_2 := blk_frozen BK249.out 2; have hfz10_3 := blk_frozen BK249.out 3) | (go_at_call 40; (with_reducible refine (impl_NameOk.calls k a1_0 true _ A3.out).mono ?_); rintro e w' ⟨rfl, ⟨nd, rfl⟩⟩; (try first | exact ⟨rfl, _, World.drewN_drewN _ _ _⟩ | exact ⟨rfl, _, Eq.trans (World.drewN_drewN _ _ _) (congrArg (World.drewN _) (Nat.add_assoc _ _ _))⟩)) | (go_at_call 41; (with_reducible refine (impl_within.calls a1_2 (-2147483648) 2147483647 t251 _ A6.out).mono ?_); rintro e w' ⟨rfl, ⟨nd, rfl⟩⟩; (try first | exact ⟨rfl, _, World.drewN_drewN _ _ _⟩ | exact ⟨rfl, _, Eq.trans (World.drewN_drewN _ _ _) (congrArg (World.drewN _) (Nat.add_assoc _ _ _))⟩))); try go_wp2_with (first | ((with_reducible refine gate_dst (N := 2) rfl ?_); (try (refine gate_guard (by rfl) ?_; dsimp only)); refine zbx 2 #[.slice A0_0 l0_0.length c0_0, .slice A0_1 l0_1.length c0_1, .slice A0_2 l0_2.length c0_2] 33 ?_; intro gb248 hg w7 hbox hb; have BK248 := Aside0.mk (hbox); have GW248 := zs w hg; have GE248 := GW248; replace HB := zt w hb; clear hb hbox hg) | ((with_reducible refine gate_dst (N := 3) rfl ?_); (try (refine gate_guard (by rfl) ?_; dsimp only)); refine zbx 3 #[.string a1_0, .int .i64 a1_1, .int .i64 a1_2, .bool a1_3] 45 ?_; intro gb249 hg w8 hbox hb; have BK249 := Aside0.mk (hbox); have GW249 := zs w hg; have GE249 := GW249; have NB248_249 := zlt BK248 hg; have NB249_248 := zgt (zlt BK248 hg); replace BK248 := zk BK248 hb; replace HB := zt w hb; clear hb hbox hg; have hnb9 := NB249_248.out; have hnc9 := NB248_249.out; have hcz10_0 := zc0 BK249; have hcz10_1 := zc1 BK249; have hcz10_2 := zc2 BK249; have hcz10_3 := zc3 BK249; have hfz10_0 := blk_frozen BK249.out 0; have hfz10_1 := blk_frozen BK249.out 1; have hfz10_2 := blk_frozen BK249.out 2; have hfz10_3 := blk_frozen BK249.out 3) | (go_at_call 40; (with_reducible refine (impl_NameOk.calls k a1_0 true _ A3.out).mono ?_); rintro e w' ⟨rfl, ⟨nd, rfl⟩⟩; (try first | exact ⟨rfl, _, World.drewN_drewN _ _ _⟩ | exact ⟨rfl, _, Eq.trans (World.drewN_drewN _ _ _) (congrArg (World.drewN _) (Nat.add_assoc _ _ _))⟩)) | (go_at_call 41; (with_reducible refine (impl_within.calls a1_2 (-2147483648) 2147483647 t251 _ A6.out).mono ?_); rintro e w' ⟨rfl, ⟨nd, rfl⟩⟩; (try first | exact ⟨rfl, _, World.drewN_drewN _ _ _⟩ | exact ⟨rfl, _, Eq.trans (World.drewN_drewN _ _ _) (congrArg (World.drewN _) (Nat.add_assoc _ _ _))⟩))))
   go_ret
   exact ⟨ze _, zb _⟩
  ·rw [if_neg c5] at H
   have c5b0 : (a1_1 == (-1)) = false := beq_eq_false_iff_ne.mpr c5
   have c5b1 : (a1_1 != (-1)) = true := bne_iff_ne.mpr c5
   obtain ⟨t252, A110, H⟩ := Option.bind_eq_some_iff.mp H
   have A11 := Aside0.mk A110
   clear A110
   by_cases c12 : t252 = true
   ·subst c12
    rw [if_pos rfl] at H
    by_cases c13 : 0 ≤ a1_1
    ·rw [if_pos c13] at H
     have c13b0 : decide (0 ≤ a1_1) = true := decide_eq_true c13
     clear c13
     by_cases c14 : a1_1 < (l0_0.length : Int)
     ·rw [if_pos c14] at H
      have c14b0 : decide (a1_1 < (l0_0.length : Int)) = true := decide_eq_true c14
      clear c14
      obtain ⟨t254, A150, H⟩ := Option.bind_eq_some_iff.mp H
      have A15 := Aside0.mk A150
      clear A150
      obtain rfl := Option.some.inj H
      go_enter Try.func19, Try.ntmps19
      go_wp2_with (first | ((with_reducible refine gate_dst (N := 2) rfl ?_); (try (refine gate_guard (by rfl) ?_; dsimp only)); refine zbx 2 #[.slice A0_0 l0_0.length c0_0, .slice A0_1 l0_1.length c0_1, .slice A0_2 l0_2.length c0_2] 33 ?_; intro gb248 hg w16 hbox hb; have BK248 := Aside0.mk (hbox); have GW248 := zs w hg; have GE248 := GW248; replace HB := zt w hb; clear hb hbox hg) | ((with_reducible refine gate_dst (N := 3) rfl ?_); (try (refine gate_guard (by rfl) ?_; dsimp only)); refine zbx 3 #[.string a1_0, .int .i64 a1_1, .int .i64 a1_2, .bool a1_3] 45 ?_; intro gb249 hg w17 hbox hb; have BK249 := Aside0.mk (hbox); have GW249 := zs w hg; have GE249 := GW249; have NB248_249 := zlt BK248 hg; have NB249_248 := zgt (zlt BK248 hg); replace BK248 := zk BK248 hb; replace HB := zt w hb; clear hb hbox hg; have hnb18 := NB249_248.out; have hnc18 := NB248_249.out; have hcz19_0 := zc0 BK249; have hcz19_1 := zc1 BK249; have hcz19_2 := zc2 BK249; have hcz19_3 := zc3 BK249; have hfz19_0 := blk_frozen BK249.out 0; have hfz19_1 := blk_frozen BK249.out 1; have hfz19_2 := blk_frozen BK249.out 2; have hfz19_3 := blk_frozen BK249.out 3) | (go_at_call 40; (with_reducible refine (impl_NameOk.calls k a1_0 true _ A3.out).mono ?_); rintro e w' ⟨rfl, ⟨nd, rfl⟩⟩; (try first | exact ⟨rfl, _, World.drewN_drewN _ _ _⟩ | exact ⟨rfl, _, Eq.trans (World.drewN_drewN _ _ _) (congrArg (World.drewN _) (Nat.add_assoc _ _ _))⟩); have hcz20_0 := zc0 BK248; have hcz20_1 := zc1 BK248; have hcz20_2 := zc2 BK248; have hfz20_0 := blk_frozen BK248.out 0; have hfz20_1 := blk_frozen BK248.out 1; have hfz20_2 := blk_frozen BK248.out 2) | (go_at_call 41; (try simp only [i64_w]); (with_reducible refine (impl_within.calls a1_1 0 (wrap64 ((l0_0.length : Int) - 1)) true _ A11.out).mono ?_); rintro e w' ⟨rfl, ⟨nd, rfl⟩⟩; (try first | exact ⟨rfl, _, World.drewN_drewN _ _ _⟩ | exact ⟨rfl, _, Eq.trans (World.drewN_drewN _ _ _) (congrArg (World.drewN _) (Nat.add_assoc _ _ _))⟩); have p253 : 0 ≤ (a1_1 : Int) := of_decide_eq_true (za _); have q253 : a1_1 < (l0_0.length : Int) := of_decide_eq_true (za _); obtain ⟨ad253, A253_5, c253_5, e253, hx253_0, hx253_1, hx253_2, hx253_3, hx253_4, hx253_5, hl253_5, hi253_5⟩ := at_T43 HR0_0.out a1_1 p253 q253; cases e253; replace hx253_0 := (HB.out.cell (World.block_lt_of_cell? w _ hx253_0)).trans hx253_0; replace hx253_1 := (HB.out.cell (World.block_lt_of_cell? w _ hx253_1)).trans hx253_1; replace hx253_2 := (HB.out.cell (World.block_lt_of_cell? w _ hx253_2)).trans hx253_2; replace hx253_3 := (HB.out.cell (World.block_lt_of_cell? w _ hx253_3)).trans hx253_3; replace hx253_4 := (HB.out.cell (World.block_lt_of_cell? w _ hx253_4)).trans hx253_4; replace hx253_5 := (HB.out.cell (World.block_lt_of_cell? w _ hx253_5)).trans hx253_5; have HR253_5 := Aside0.mk hi253_5; have HC253_5 := Aside0.mk hl253_5; clear hi253_5 hl253_5; replace p253 := eq_true p253; replace q253 := eq_true q253) | (go_at_call 41; (with_reducible refine (impl_within.calls a1_2 0 (((rd_T43 l0_0 a1_1).f4).size : Int) t254 _ A15.out).mono ?_); rintro e w' ⟨rfl, ⟨nd, rfl⟩⟩; (try first | exact ⟨rfl, _, World.drewN_drewN _ _ _⟩ | exact ⟨rfl, _, Eq.trans (World.drewN_drewN _ _ _) (congrArg (World.drewN _) (Nat.add_assoc _ _ _))⟩)))
      repeat (go_quiet (first | ((with_reducible refine gate_dst (N := 2) rfl ?_); (try (refine gate_guard (by rfl) ?_; dsimp only)); refine zbx 2 #[.slice A0_0 l0_0.length c0_0, .slice A0_1 l0_1.length c0_1, .slice A0_2 l0_2.length c0_2] 33 ?_; intro gb248 hg w16 hbox hb; have BK248 := Aside0.mk (hbox); have GW248 := zs w hg; have GE248 := GW248; replace HB := zt w hb; clear hb hbox hg) | ((with_reducible refine gate_dst (N := 3) rfl ?_); (try (refine gate_guard (by rfl) ?_; dsimp only)); refine zbx 3 #[.string a1_0, .int .i64 a1_1, .int .i64 a1_2, .bool a1_3] 45 ?_; intro gb249 hg w17 hbox hb; have BK249 := Aside0.mk (hbox); have GW249 := zs w hg; have GE249 := GW249; have NB248_249 := zlt BK248 hg; have NB249_248 := zgt (zlt BK248 hg); replace BK248 := zk BK248 hb; replace HB := zt w hb; clear hb hbox hg; have hnb18 := NB249_248.out; have hnc18 := NB248_249.out; have hcz19_0 := zc0 BK249; have hcz19_1 := zc1 BK249; have hcz19_2 := zc2 BK249; have hcz19_3 := zc3 BK249; have hfz19_0 := blk_frozen BK249.out 0; have hfz19_1 := blk_frozen BK249.out 1; have hfz19_2 := blk_frozen BK249.out 2; have hfz19_3 := blk_frozen BK249.out 3) | (go_at_call 40; (with_reducible refine (impl_NameOk.calls k a1_0 true _ A3.out).mono ?_); rintro e w' ⟨rfl, ⟨nd, rfl⟩⟩; (try first | exact ⟨rfl, _, World.drewN_drewN _ _ _⟩ | exact ⟨rfl, _, Eq.trans (World.drewN_drewN _ _ _) (congrArg (World.drewN _) (Nat.add_assoc _ _ _))⟩); have hcz20_0 := zc0 BK248; have hcz20_1 := zc1 BK248; have hcz20_2 := zc2 BK248; have hfz20_0 := blk_frozen BK248.out 0; have hfz20_1 := blk_frozen BK248.out 1; have hfz20_2 := blk_frozen BK248.out 2) | (go_at_call 41; (try simp only [i64_w]); (with_reducible refine (impl_within.calls a1_1 0 (wrap64 ((l0_0.length : Int) - 1)) true _ A11.out).mono ?_); rintro e w' ⟨rfl, ⟨nd, rfl⟩⟩; (try first | exact ⟨rfl, _, World.drewN_drewN _ _ _⟩ | exact ⟨rfl, _, Eq.trans (World.drewN_drewN _ _ _) (congrArg (World.drewN _) (Nat.add_assoc _ _ _))⟩); have p253 : 0 ≤ (a1_1 : Int) := of_decide_eq_true (za _); have q253 : a1_1 < (l0_0.length : Int) := of_decide_eq_true (za _); obtain ⟨ad253, A253_5, c253_5, e253, hx253_0, hx253_1, hx253_2, hx253_3, hx253_4, hx253_5, hl253_5, hi253_5⟩ := at_T43 HR0_0.out a1_1 p253 q253; cases e253; replace hx253_0 := (HB.out.cell (World.block_lt_of_cell? w _ hx253_0)).trans hx253_0; replace hx253_1 := (HB.out.cell (World.block_lt_of_cell? w _ hx253_1)).trans hx253_1; replace hx253_2 := (HB.out.cell (World.block_lt_of_cell? w _ hx253_2)).trans hx253_2; replace hx253_3 := (HB.out.cell (World.block_lt_of_cell? w _ hx253_3)).trans hx253_3; replace hx253_4 := (HB.out.cell (World.block_lt_of_cell? w _ hx253_4)).trans hx253_4; replace hx253_5 := (HB.out.cell (World.block_lt_of_cell? w _ hx253_5)).trans hx253_5; have HR253_5 := Aside0.mk hi253_5; have HC253_5 := Aside0.mk hl253_5; clear hi253_5 hl253_5; replace p253 := eq_true p253; replace q253 := eq_true q253) | (go_at_call 41; (with_reducible refine (impl_within.calls a1_2 0 (((rd_T43 l0_0 a1_1).f4).size : Int) t254 _ A15.out).mono ?_); rintro e w' ⟨rfl, ⟨nd, rfl⟩⟩; (try first | exact ⟨rfl, _, World.drewN_drewN _ _ _⟩ | exact ⟨rfl, _, Eq.trans (World.drewN_drewN _ _ _) (congrArg (World.drewN _) (Nat.add_assoc _ _ _))⟩))); try go_wp2_with (first | ((with_reducible refine gate_dst (N := 2) rfl ?_); (try (refine gate_guard (by rfl) ?_; dsimp only)); refine zbx 2 #[.slice A0_0 l0_0.length c0_0, .slice A0_1 l0_1.length c0_1, .slice A0_2 l0_2.length c0_2] 33 ?_; intro gb248 hg w16 hbox hb; have BK248 := Aside0.mk (hbox); have GW248 := zs w hg; have GE248 := GW248; replace HB := zt w hb; clear hb hbox hg) | ((with_reducible refine gate_dst (N := 3) rfl ?_); (try (refine gate_guard (by rfl) ?_; dsimp only)); refine zbx 3 #[.string a1_0, .int .i64 a1_1, .int .i64 a1_2, .bool a1_3] 45 ?_; intro gb249 hg w17 hbox hb; have BK249 := Aside0.mk (hbox); have GW249 := zs w hg; have GE249 := GW249; have NB248_249 := zlt BK248 hg; have NB249_248 := zgt (zlt BK248 hg); replace BK248 := zk BK248 hb; replace HB := zt w hb; clear hb hbox hg; have hnb18 := NB249_248.out; have hnc18 := NB248_249.out; have hcz19_0 := zc0 BK249; have hcz19_1 := zc1 BK249; have hcz19_2 := zc2 BK249; have hcz19_3 := zc3 BK249; have hfz19_0 := blk_frozen BK249.out 0; have hfz19_1 := blk_frozen BK249.out 1; have hfz19_2 := blk_frozen BK249.out 2; have hfz19_3 := blk_frozen BK249.out 3) | (go_at_call 40; (with_reducible refine (impl_NameOk.calls k a1_0 true _ A3.out).mono ?_); rintro e w' ⟨rfl, ⟨nd, rfl⟩⟩; (try first | exact ⟨rfl, _, World.drewN_drewN _ _ _⟩ | exact ⟨rfl, _, Eq.trans (World.drewN_drewN _ _ _) (congrArg (World.drewN _) (Nat.add_assoc _ _ _))⟩); have hcz20_0 := zc0 BK248; have hcz20_1 := zc1 BK248; have hcz20_2 := zc2 BK248; have hfz20_0 := blk_frozen BK248.out 0; have hfz20_1 := blk_frozen BK248.out 1; have hfz20_2 := blk_frozen BK248.out 2) | (go_at_call 41; (try simp only [i64_w]); (with_reducible refine (impl_within.calls a1_1 0 (wrap64 ((l0_0.length : Int) - 1)) true _ A11.out).mono ?_); rintro e w' ⟨rfl, ⟨nd, rfl⟩⟩; (try first | exact ⟨rfl, _, World.drewN_drewN _ _ _⟩ | exact ⟨rfl, _, Eq.trans (World.drewN_drewN _ _ _) (congrArg (World.drewN _) (Nat.add_assoc _ _ _))⟩); have p253 : 0 ≤ (a1_1 : Int) := of_decide_eq_true (za _); have q253 : a1_1 < (l0_0.length : Int) := of_decide_eq_true (za _); obtain ⟨ad253, A253_5, c253_5, e253, hx253_0, hx253_1, hx253_2, hx253_3, hx253_4, hx253_5, hl253_5, hi253_5⟩ := at_T43 HR0_0.out a1_1 p253 q253; cases e253; replace hx253_0 := (HB.out.cell (World.block_lt_of_cell? w _ hx253_0)).trans hx253_0; replace hx253_1 := (HB.out.cell (World.block_lt_of_cell? w _ hx253_1)).trans hx253_1; replace hx253_2 := (HB.out.cell (World.block_lt_of_cell? w _ hx253_2)).trans hx253_2; replace hx253_3 := (HB.out.cell (World.block_lt_of_cell? w _ hx253_3)).trans hx253_3; replace hx253_4 := (HB.out.cell (World.block_lt_of_cell? w _ hx253_4)).trans hx253_4; replace hx253_5 := (HB.out.cell (World.block_lt_of_cell? w _ hx253_5)).trans hx253_5; have HR253_5 := Aside0.mk hi253_5; have HC253_5 := Aside0.mk hl253_5; clear hi253_5 hl253_5; replace p253 := eq_true p253; replace q253 := eq_true q253) | (go_at_call 41; (with_reducible refine (impl_within.calls a1_2 0 (((rd_T43 l0_0 a1_1).f4).size : Int) t254 _ A15.out).mono ?_); rintro e w' ⟨rfl, ⟨nd, rfl⟩⟩; (try first | exact ⟨rfl, _, World.drewN_drewN _ _ _⟩ | exact ⟨rfl, _, Eq.trans (World.drewN_drewN _ _ _) (congrArg (World.drewN _) (Nat.add_assoc _ _ _))⟩))))
      go_ret
      exact ⟨ze _, zb _⟩
     ·rw [if_neg c14] at H
      exact absurd H (by simp)
    ·rw [if_neg c13] at H
     exact absurd H (by simp)
   ·replace c12 := Bool.eq_false_iff.mpr c12
    subst c12
    rw [if_neg (show ¬ (false = true) by decide)] at H
    obtain rfl := Option.some.inj H
    go_enter Try.func19, Try.ntmps19
    go_wp2_with (first | ((with_reducible refine gate_dst (N := 2) rfl ?_); (try (refine gate_guard (by rfl) ?_; dsimp only)); refine zbx 2 #[.slice A0_0 l0_0.length c0_0, .slice A0_1 l0_1.length c0_1, .slice A0_2 l0_2.length c0_2] 33 ?_; intro gb248 hg w21 hbox hb; have BK248 := Aside0.mk (hbox); have GW248 := zs w hg; have GE248 := GW248; replace HB := zt w hb; clear hb hbox hg) | ((with_reducible refine gate_dst (N := 3) rfl ?_); (try (refine gate_guard (by rfl) ?_; dsimp only)); refine zbx 3 #[.string a1_0, .int .i64 a1_1, .int .i64 a1_2, .bool a1_3] 45 ?_; intro gb249 hg w22 hbox hb; have BK249 := Aside0.mk (hbox); have GW249 := zs w hg; have GE249 := GW249; have NB248_249 := zlt BK248 hg; have NB249_248 := zgt (zlt BK248 hg); replace BK248 := zk BK248 hb; replace HB := zt w hb; clear hb hbox hg; have hnb23 := NB249_248.out; have hnc23 := NB248_249.out; have hcz24_0 := zc0 BK249; have hcz24_1 := zc1 BK249; have hcz24_2 := zc2 BK249; have hcz24_3 := zc3 BK249; have hfz24_0 := blk_frozen BK249.out 0; have hfz24_1 := blk_frozen BK249.out 1; have hfz24_2 := blk_frozen BK249.out 2; have hfz24_3 := blk_frozen BK249.out 3) | (go_at_call 40; (with_reducible refine (impl_NameOk.calls k a1_0 true _ A3.out).mono ?_); rintro e w' ⟨rfl, ⟨nd, rfl⟩⟩; (try first | exact ⟨rfl, _, World.drewN_drewN _ _ _⟩ | exact ⟨rfl, _, Eq.trans (World.drewN_drewN _ _ _) (congrArg (World.drewN _) (Nat.add_assoc _ _ _))⟩); have hcz25_0 := zc0 BK248; have hcz25_1 := zc1 BK248; have hcz25_2 := zc2 BK248; have hfz25_0 := blk_frozen BK248.out 0; have hfz25_1 := blk_frozen BK248.out 1; have hfz25_2 := blk_frozen BK248.out 2) | (go_at_call 41; (try simp only [i64_w]); (with_reducible refine (impl_within.calls a1_1 0 (wrap64 ((l0_0.length : Int) - 1)) false _ A11.out).mono ?_); rintro e w' ⟨rfl, ⟨nd, rfl⟩⟩; (try first | exact ⟨rfl, _, World.drewN_drewN _ _ _⟩ | exact ⟨rfl, _, Eq.trans (World.drewN_drewN _ _ _) (congrArg (World.drewN _) (Nat.add_assoc _ _ _))⟩)))
    repeat (go_quiet (first | ((with_reducible refine gate_dst (N := 2) rfl ?_); (try (refine gate_guard (by rfl) ?_; dsimp only)); refine zbx 2 #[.slice A0_0 l0_0.length c0_0, .slice A0_1 l0_1.length c0_1, .slice A0_2 l0_2.length c0_2] 33 ?_; intro gb248 hg w21 hbox hb; have BK248 := Aside0.mk (hbox); have GW248 := zs w hg; have GE248 := GW248; replace HB := zt w hb; clear hb hbox hg) | ((with_reducible refine gate_dst (N := 3) rfl ?_); (try (refine gate_guard (by rfl) ?_; dsimp only)); refine zbx 3 #[.string a1_0, .int .i64 a1_1, .int .i64 a1_2, .bool a1_3] 45 ?_; intro gb249 hg w22 hbox hb; have BK249 := Aside0.mk (hbox); have GW249 := zs w hg; have GE249 := GW249; have NB248_249 := zlt BK248 hg; have NB249_248 := zgt (zlt BK248 hg); replace BK248 := zk BK248 hb; replace HB := zt w hb; clear hb hbox hg; have hnb23 := NB249_248.out; have hnc23 := NB248_249.out; have hcz24_0 := zc0 BK249; have hcz24_1 := zc1 BK249; have hcz24_2 := zc2 BK249; have hcz24_3 := zc3 BK249; have hfz24_0 := blk_frozen BK249.out 0; have hfz24_1 := blk_frozen BK249.out 1; have hfz24_2 := blk_frozen BK249.out 2; have hfz24_3 := blk_frozen BK249.out 3) | (go_at_call 40; (with_reducible refine (impl_NameOk.calls k a1_0 true _ A3.out).mono ?_); rintro e w' ⟨rfl, ⟨nd, rfl⟩⟩; (try first | exact ⟨rfl, _, World.drewN_drewN _ _ _⟩ | exact ⟨rfl, _, Eq.trans (World.drewN_drewN _ _ _) (congrArg (World.drewN _) (Nat.add_assoc _ _ _))⟩); have hcz25_0 := zc0 BK248; have hcz25_1 := zc1 BK248; have hcz25_2 := zc2 BK248; have hfz25_0 := blk_frozen BK248.out 0; have hfz25_1 := blk_frozen BK248.out 1; have hfz25_2 := blk_frozen BK248.out 2) | (go_at_call 41; (try simp only [i64_w]); (with_reducible refine (impl_within.calls a1_1 0 (wrap64 ((l0_0.length : Int) - 1)) false _ A11.out).mono ?_); rintro e w' ⟨rfl, ⟨nd, rfl⟩⟩; (try first | exact ⟨rfl, _, World.drewN_drewN _ _ _⟩ | exact ⟨rfl, _, Eq.trans (World.drewN_drewN _ _ _) (congrArg (World.drewN _) (Nat.add_assoc _ _ _))⟩))); try go_wp2_with (first | ((with_reducible refine gate_dst (N := 2) rfl ?_); (try (refine gate_guard (by rfl) ?_; dsimp only)); refine zbx 2 #[.slice A0_0 l0_0.length c0_0, .slice A0_1 l0_1.length c0_1, .slice A0_2 l0_2.length c0_2] 33 ?_; intro gb248 hg w21 hbox hb; have BK248 := Aside0.mk (hbox); have GW248 := zs w hg; have GE248 := GW248; replace HB := zt w hb; clear hb hbox hg) | ((with_reducible refine gate_dst (N := 3) rfl ?_); (try (refine gate_guard (by rfl) ?_; dsimp only)); refine zbx 3 #[.string a1_0, .int .i64 a1_1, .int .i64 a1_2, .bool a1_3] 45 ?_; intro gb249 hg w22 hbox hb; have BK249 := Aside0.mk (hbox); have GW249 := zs w hg; have GE249 := GW249; have NB248_249 := zlt BK248 hg; have NB249_248 := zgt (zlt BK248 hg); replace BK248 := zk BK248 hb; replace HB := zt w hb; clear hb hbox hg; have hnb23 := NB249_248.out; have hnc23 := NB248_249.out; have hcz24_0 := zc0 BK249; have hcz24_1 := zc1 BK249; have hcz24_2 := zc2 BK249; have hcz24_3 := zc3 BK249; have hfz24_0 := blk_frozen BK249.out 0; have hfz24_1 := blk_frozen BK249.out 1; have hfz24_2 := blk_frozen BK249.out 2; have hfz24_3 := blk_frozen BK249.out 3) | (go_at_call 40; (with_reducible refine (impl_NameOk.calls k a1_0 true _ A3.out).mono ?_); rintro e w' ⟨rfl, ⟨nd, rfl⟩⟩; (try first | exact ⟨rfl, _, World.drewN_drewN _ _ _⟩ | exact ⟨rfl, _, Eq.trans (World.drewN_drewN _ _ _) (congrArg (World.drewN _) (Nat.add_assoc _ _ _))⟩); have hcz25_0 := zc0 BK248; have hcz25_1 := zc1 BK248; have hcz25_2 := zc2 BK248; have hfz25_0 := blk_frozen BK248.out 0; have hfz25_1 := blk_frozen BK248.out 1; have hfz25_2 := blk_frozen BK248.out 2) | (go_at_call 41; (try simp only [i64_w]); (with_reducible refine (impl_within.calls a1_1 0 (wrap64 ((l0_0.length : Int) - 1)) false _ A11.out).mono ?_); rintro e w' ⟨rfl, ⟨nd, rfl⟩⟩; (try first | exact ⟨rfl, _, World.drewN_drewN _ _ _⟩ | exact ⟨rfl, _, Eq.trans (World.drewN_drewN _ _ _) (congrArg (World.drewN _) (Nat.add_assoc _ _ _))⟩))))
    go_ret
    exact ⟨ze _, zb _⟩
 ·replace c4 := Bool.eq_false_iff.mpr c4
  subst c4
  rw [if_neg (show ¬ (false = true) by decide)] at H
  obtain rfl := Option.some.inj H
  go_enter Try.func19, Try.ntmps19
  go_wp2_with (first | ((with_reducible refine gate_dst (N := 2) rfl ?_); (try (refine gate_guard (by rfl) ?_; dsimp only)); refine zbx 2 #[.slice A0_0 l0_0.length c0_0, .slice A0_1 l0_1.length c0_1, .slice A0_2 l0_2.length c0_2] 33 ?_; intro gb248 hg w26 hbox hb; have BK248 := Aside0.mk (hbox); have GW248 := zs w hg; have GE248 := GW248; replace HB := zt w hb; clear hb hbox hg) | ((with_reducible refine gate_dst (N := 3) rfl ?_); (try (refine gate_guard (by rfl) ?_; dsimp only)); refine zbx 3 #[.string a1_0, .int .i64 a1_1, .int .i64 a1_2, .bool a1_3] 45 ?_; intro gb249 hg w27 hbox hb; have BK249 := Aside0.mk (hbox); have GW249 := zs w hg; have GE249 := GW249; have NB248_249 := zlt BK248 hg; have NB249_248 := zgt (zlt BK248 hg); replace BK248 := zk BK248 hb; replace HB := zt w hb; clear hb hbox hg; have hnb28 := NB249_248.out; have hnc28 := NB248_249.out; have hcz29_0 := zc0 BK249; have hcz29_1 := zc1 BK249; have hcz29_2 := zc2 BK249; have hcz29_3 := zc3 BK249; have hfz29_0 := blk_frozen BK249.out 0; have hfz29_1 := blk_frozen BK249.out 1; have hfz29_2 := blk_frozen BK249.out 2; have hfz29_3 := blk_frozen BK249.out 3) | (go_at_call 40; (with_reducible refine (impl_NameOk.calls k a1_0 false _ A3.out).mono ?_); rintro e w' ⟨rfl, ⟨nd, rfl⟩⟩; (try first | exact ⟨rfl, _, World.drewN_drewN _ _ _⟩ | exact ⟨rfl, _, Eq.trans (World.drewN_drewN _ _ _) (congrArg (World.drewN _) (Nat.add_assoc _ _ _))⟩)))
  repeat (go_quiet (first | ((with_reducible refine gate_dst (N := 2) rfl ?_); (try (refine gate_guard (by rfl) ?_; dsimp only)); refine zbx 2 #[.slice A0_0 l0_0.length c0_0, .slice A0_1 l0_1.length c0_1, .slice A0_2 l0_2.length c0_2] 33 ?_; intro gb248 hg w26 hbox hb; have BK248 := Aside0.mk (hbox); have GW248 := zs w hg; have GE248 := GW248; replace HB := zt w hb; clear hb hbox hg) | ((with_reducible refine gate_dst (N := 3) rfl ?_); (try (refine gate_guard (by rfl) ?_; dsimp only)); refine zbx 3 #[.string a1_0, .int .i64 a1_1, .int .i64 a1_2, .bool a1_3] 45 ?_; intro gb249 hg w27 hbox hb; have BK249 := Aside0.mk (hbox); have GW249 := zs w hg; have GE249 := GW249; have NB248_249 := zlt BK248 hg; have NB249_248 := zgt (zlt BK248 hg); replace BK248 := zk BK248 hb; replace HB := zt w hb; clear hb hbox hg; have hnb28 := NB249_248.out; have hnc28 := NB248_249.out; have hcz29_0 := zc0 BK249; have hcz29_1 := zc1 BK249; have hcz29_2 := zc2 BK249; have hcz29_3 := zc3 BK249; have hfz29_0 := blk_frozen BK249.out 0; have hfz29_1 := blk_frozen BK249.out 1; have hfz29_2 := blk_frozen BK249.out 2; have hfz29_3 := blk_frozen BK249.out 3) | (go_at_call 40; (with_reducible refine (impl_NameOk.calls k a1_0 false _ A3.out).mono ?_); rintro e w' ⟨rfl, ⟨nd, rfl⟩⟩; (try first | exact ⟨rfl, _, World.drewN_drewN _ _ _⟩ | exact ⟨rfl, _, Eq.trans (World.drewN_drewN _ _ _) (congrArg (World.drewN _) (Nat.add_assoc _ _ _))⟩))); try go_wp2_with (first | ((with_reducible refine gate_dst (N := 2) rfl ?_); (try (refine gate_guard (by rfl) ?_; dsimp only)); refine zbx 2 #[.slice A0_0 l0_0.length c0_0, .slice A0_1 l0_1.length c0_1, .slice A0_2 l0_2.length c0_2] 33 ?_; intro gb248 hg w26 hbox hb; have BK248 := Aside0.mk (hbox); have GW248 := zs w hg; have GE248 := GW248; replace HB := zt w hb; clear hb hbox hg) | ((with_reducible refine gate_dst (N := 3) rfl ?_); (try (refine gate_guard (by rfl) ?_; dsimp only)); refine zbx 3 #[.string a1_0, .int .i64 a1_1, .int .i64 a1_2, .bool a1_3] 45 ?_; intro gb249 hg w27 hbox hb; have BK249 := Aside0.mk (hbox); have GW249 := zs w hg; have GE249 := GW249; have NB248_249 := zlt BK248 hg; have NB249_248 := zgt (zlt BK248 hg); replace BK248 := zk BK248 hb; replace HB := zt w hb; clear hb hbox hg; have hnb28 := NB249_248.out; have hnc28 := NB248_249.out; have hcz29_0 := zc0 BK249; have hcz29_1 := zc1 BK249; have hcz29_2 := zc2 BK249; have hcz29_3 := zc3 BK249; have hfz29_0 := blk_frozen BK249.out 0; have hfz29_1 := blk_frozen BK249.out 1; have hfz29_2 := blk_frozen BK249.out 2; have hfz29_3 := blk_frozen BK249.out 3) | (go_at_call 40; (with_reducible refine (impl_NameOk.calls k a1_0 false _ A3.out).mono ?_); rintro e w' ⟨rfl, ⟨nd, rfl⟩⟩; (try first | exact ⟨rfl, _, World.drewN_drewN _ _ _⟩ | exact ⟨rfl, _, Eq.trans (World.drewN_drewN _ _ _) (congrArg (World.drewN _) (Nat.add_assoc _ _ _))⟩))))
  go_ret
  exact ⟨ze _, zb _⟩

theorem impl_isSymbol.lessTot : ∀ x y : List UInt8, (Op.bytesLess x y || x == y) = !(Op.bytesLess y x)
 | [], [] => rfl
 | [], b :: y => by simp [Op.bytesLess]
 | a :: x, [] => by simp [Op.bytesLess]
 | a :: x, b :: y => by
  have ih := impl_isSymbol.lessTot x y
  simp only [Op.bytesLess]
  by_cases h1 : a < b
  ·have h2 : ¬ b < a := fun h => by have q1 := UInt8.lt_iff_toNat_lt.1 h1; have q2 := UInt8.lt_iff_toNat_lt.1 h; omega
   have h3 : ¬ b = a := fun h => by subst h; exact h2 h1
   simp [h1, h2, h3]
  ·by_cases h2 : b < a
   ·have h3 : ¬ a = b := fun h => by subst h; exact h1 h2
    simp [h1, h2, h3]
   ·have h3 : a = b := UInt8.toNat_inj.1 (by
     have q1 : ¬ a.toNat < b.toNat := fun h => h1 (UInt8.lt_iff_toNat_lt.2 h)
     have q2 : ¬ b.toNat < a.toNat := fun h => h2 (UInt8.lt_iff_toNat_lt.2 h)
     omega)
    subst h3
    simp [h1]
    simpa using ih
theorem impl_isSymbol.leqS (a b : ByteArray) (W : World) : (binOp BinOp.leq 9 (.string a) (.string b)).run Try.prog W = .ok (.bool (!(Op.bytesLess b.toList a.toList))) W := by
 rw [show binOp BinOp.leq 9 (.string a) (.string b) = pure (.bool (Op.bytesLess a.toList b.toList || a.toList == b.toList)) from by simp [binOp, Op.stringOp], impl_isSymbol.lessTot]
 rfl

/-! ### strings_Repeat: function 59 -/
def strings_Repeat.f (a0 : ByteArray) (a1 : Int) : Option ByteArray := if 0 ≤ a1 then (if a1 ≤ 9223372036854775807 then (if a0.size * a1.toNat ≤ 140737488355328 then some ⟨(Go.Lib.repeatL a0.data.toList a1.toNat).toArray⟩ else none) else none) else none
theorem strings_Repeat.calls (a0 : ByteArray) (a1 : Int) (r : ByteArray) (w : World) (h : strings_Repeat.f a0 a1 = some r) :
 Calls Try.prog 59 #[.string a0, .int .i64 a1] w fun e w' => e = .returned (.string r) ∧ Below w.heap.size w w' := by
 unfold strings_Repeat.f at h
 split at h
 ·split at h
  ·split at h
   ·obtain rfl := Option.some.inj h
    obtain ⟨c, rfl⟩ : ∃ c : Nat, a1 = (c : Int) := ⟨a1.toNat, by omega⟩
    exact Try.strings_Repeat a0 c w (by omega) (by simpa using ‹a0.size * (c : Int).toNat ≤ 140737488355328›)
   ·cases h
  ·cases h
 ·cases h

/-! ### impl_noughts: function 43 -/
def impl_noughts.f (a0 : Int) : Option (ByteArray) := (strings_Repeat.f (⟨#[0]⟩ : ByteArray) a0).bind fun t255 => (some t255)
set_option maxHeartbeats 8000000 in
set_option maxRecDepth 100000 in
theorem impl_noughts.calls (a0 : Int) (r : ByteArray) (w : World) (h : impl_noughts.f a0 = some r) :
 Calls Try.prog 43 #[.int .i64 a0] w fun e w' => e = .returned (.string r) ∧ Below w.heap.size w w' := by
 have HB := Aside0.mk (Below.refl w.heap.size w)
 have H : ((strings_Repeat.f (⟨#[0]⟩ : ByteArray) a0).bind fun t255 => (some t255)) = some r := h
 clear h
 obtain ⟨t255, A20, H⟩ := Option.bind_eq_some_iff.mp H
 have A2 := Aside0.mk A20
 clear A20
 obtain rfl := Option.some.inj H
 go_enter Try.func43, Try.ntmps43
 go_wp2_with (first | ((with_reducible refine gate_callee (f := 59) rfl ?_); refine zc (some 4) Try.func59 #[.string (⟨#[0]⟩ : ByteArray), .int .i64 a0] ?_; (with_reducible refine (strings_Repeat.calls (⟨#[0]⟩ : ByteArray) a0 t255 _ A2.out).mono ?_); rintro e w3 ⟨rfl, hb⟩; refine ⟨_, rfl, ?_⟩; replace HB := zt w hb; (try clear hb); (try clear hb2); (try clear hk); (try clear hi)))
 go_ret
 exact ⟨ze _, zb _⟩

/-! ### impl_baseOf: function 44 -/
def impl_baseOf.f (a0 : Int) : Option (Int) := if a0 = 1 then (some 256) else (if a0 = 2 then (some 49152) else (some 0))
set_option maxHeartbeats 8000000 in
set_option maxRecDepth 100000 in
theorem impl_baseOf.calls (a0 : Int) (r : Int) (w : World) (h : impl_baseOf.f a0 = some r) :
 Calls Try.prog 44 #[.int .i64 a0] w fun e w' => e = .returned (.int .i64 r) ∧ Drawn0 w w' := by
 have H : (if a0 = 1 then (some 256) else (if a0 = 2 then (some 49152) else (some 0))) = some r := h
 clear h
 by_cases c2 : a0 = 1
 ·rw [if_pos c2] at H
  have c2b0 : (a0 == 1) = true := beq_iff_eq.mpr c2
  have c2b1 : (a0 != 1) = false := bne_eq_false_iff_eq.mpr c2
  clear c2
  obtain rfl := Option.some.inj H
  go_enter Try.func44, Try.ntmps44
  go_wp2
  go_ret
  exact ⟨zE _, zd _⟩
 ·rw [if_neg c2] at H
  have c2b0 : (a0 == 1) = false := beq_eq_false_iff_ne.mpr c2
  have c2b1 : (a0 != 1) = true := bne_iff_ne.mpr c2
  by_cases c3 : a0 = 2
  ·rw [if_pos c3] at H
   have c3b0 : (a0 == 2) = true := beq_iff_eq.mpr c3
   have c3b1 : (a0 != 2) = false := bne_eq_false_iff_eq.mpr c3
   clear c3
   obtain rfl := Option.some.inj H
   go_enter Try.func44, Try.ntmps44
   go_wp2
   go_ret
   exact ⟨zE _, zd _⟩
  ·rw [if_neg c3] at H
   have c3b0 : (a0 == 2) = false := beq_eq_false_iff_ne.mpr c3
   have c3b1 : (a0 != 2) = true := bne_iff_ne.mpr c3
   obtain rfl := Option.some.inj H
   go_enter Try.func44, Try.ntmps44
   go_wp2
   go_ret
   exact ⟨zE _, zd _⟩

/-! ### impl_isWord: function 61 -/
def impl_isWord.f (a0 : Int) : Option (Bool) := (impl_within.f a0 0 65535).bind fun t256 => (some t256)
set_option maxHeartbeats 8000000 in
set_option maxRecDepth 100000 in
theorem impl_isWord.calls (a0 : Int) (r : Bool) (w : World) (h : impl_isWord.f a0 = some r) :
 Calls Try.prog 61 #[.int .i64 a0] w fun e w' => e = .returned (.bool r) ∧ Drawn0 w w' := by
 have H : ((impl_within.f a0 0 65535).bind fun t256 => (some t256)) = some r := h
 clear h
 obtain ⟨t256, A20, H⟩ := Option.bind_eq_some_iff.mp H
 have A2 := Aside0.mk A20
 clear A20
 obtain rfl := Option.some.inj H
 go_enter Try.func61, Try.ntmps61
 go_wp2_with (first | ((with_reducible refine gate_callee (f := 41) rfl ?_); refine zc (some 4) Try.func41 #[.int .i64 a0, .int .i64 0, .int .i64 65535] ?_; (with_reducible refine (impl_within.calls a0 0 65535 t256 _ A2.out).mono ?_); rintro e w' ⟨rfl, ⟨nd, rfl⟩⟩; refine ⟨_, rfl, ?_⟩))
 go_ret
 exact ⟨zE _, zd _⟩

/-! ### impl_isNode: function 49 -/
def impl_isNode.j0 : Nat → Bool → Int → Int → ByteArray → Option (Bool)
  | 0, _, _, _, _ => none
  | k + 1, x15, x258000, x258001, x258002 => if x15 = true then (if x258001 = 0 then ((impl_NameOk.f k x258002).bind fun t259 => (some t259)) else (some false)) else ((impl_within.f x258000 4 17).bind fun t260 => (if t260 = true then (if x258001 = 0 then (some (x258002.toList == ([] : List UInt8))) else (some false)) else (some false)))
def impl_isNode.f (k : Nat) (a0_0 : Int) (a0_1 : Int) (a0_2 : ByteArray) : Option (Bool) := if a0_0 = 1 then ((impl_isWord.f a0_1).bind fun t258 => (if t258 = true then (some (a0_2.toList == ([] : List UInt8))) else (some false))) else (if a0_0 = 2 then (impl_isNode.j0 k true a0_0 a0_1 a0_2) else (impl_isNode.j0 k (a0_0 == 3) a0_0 a0_1 a0_2))
theorem impl_isNode.mono_l : ∀ k, (∀ y0 y1 y2 y3, LeO (impl_isNode.j0 k y0 y1 y2 y3) (impl_isNode.j0 (k + 1) y0 y1 y2 y3))
  | 0 => fun _ _ _ _ r h => by simp [impl_isNode.j0] at h
  | k + 1 => by
    have ih0 := impl_isNode.mono_l k
    · intro y0 y1 y2 y3
      unfold impl_isNode.j0
      repeat' first
      | (with_reducible exact ih0 _ _ _ _)
      | (with_reducible exact impl_NameOk.mono _ _)
      | (with_reducible exact LeO.refl _)
      | (with_reducible exact LeO.none _)
      | (with_reducible refine LeO.ite ?_ ?_)
      | (with_reducible refine LeO.bind ?_ (fun _ => ?_))
      | exact ih0 _ _ _ _
      | exact impl_NameOk.mono _ _
      | exact LeO.none _
      | refine LeO.ite ?_ ?_
      | refine LeO.bind ?_ (fun _ => ?_)
theorem impl_isNode.mono : ∀ a0 a1 a2 k, LeO (impl_isNode.f k a0 a1 a2) (impl_isNode.f (k + 1) a0 a1 a2) := by
  intro a0 a1 a2 k
  have ih0 := impl_isNode.mono_l k
  unfold impl_isNode.f
  repeat' first
      | (with_reducible exact ih0 _ _ _ _)
      | (with_reducible exact impl_NameOk.mono _ _)
      | (with_reducible exact LeO.refl _)
      | (with_reducible exact LeO.none _)
      | (with_reducible refine LeO.ite ?_ ?_)
      | (with_reducible refine LeO.bind ?_ (fun _ => ?_))
      | exact ih0 _ _ _ _
      | exact impl_NameOk.mono _ _
      | exact LeO.none _
      | refine LeO.ite ?_ ?_
      | refine LeO.bind ?_ (fun _ => ?_)
set_option maxHeartbeats 8000000 in
set_option maxRecDepth 100000 in
theorem impl_isNode.calls (k : Nat) (a0_0 : Int) (a0_1 : Int) (a0_2 : ByteArray) (r : Bool) (w : World) (h : impl_isNode.f k a0_0 a0_1 a0_2 = some r) :
 Calls Try.prog 49 #[.agg #[.int .i64 a0_0, .int .i64 a0_1, .string a0_2]] w fun e w' => e = .returned (.bool r) ∧ Below w.heap.size w w' := by
 have hu74 := Try.underlying74
 have HB := Aside0.mk (Below.refl w.heap.size w)
 have H : (if a0_0 = 1 then ((impl_isWord.f a0_1).bind fun t258 => (if t258 = true then (some (a0_2.toList == ([] : List UInt8))) else (some false))) else (if a0_0 = 2 then (impl_isNode.j0 k true a0_0 a0_1 a0_2) else (impl_isNode.j0 k (a0_0 == 3) a0_0 a0_1 a0_2))) = some r := h
 clear h
 by_cases c2 : a0_0 = 1
 ·rw [if_pos c2] at H
  have c2b0 : (a0_0 == 1) = true := beq_iff_eq.mpr c2
  have c2b1 : (a0_0 != 1) = false := bne_eq_false_iff_eq.mpr c2
  clear c2
  obtain ⟨t258, A30, H⟩ := Option.bind_eq_some_iff.mp H
  have A3 := Aside0.mk A30
  clear A30
  by_cases c4 : t258 = true
  ·subst c4
   rw [if_pos rfl] at H
   obtain rfl := Option.some.inj H
   go_enter Try.func49, Try.ntmps49
   go_wp2_with (first | ((with_reducible refine gate_dst (N := 1) rfl ?_); refine zbx 1 #[.int .i64 a0_0, .int .i64 a0_1, .string a0_2] 74 ?_; intro gb257 hg w5 hbox hb; have BK257 := Aside0.mk (hbox); have GW257 := zs w hg; have GE257 := GW257; replace HB := zt w hb; clear hb hbox hg; have hcz6_0 := zc0 BK257; have hcz6_1 := zc1 BK257; have hcz6_2 := zc2 BK257; have hfz6_0 := blk_frozen BK257.out 0; have hfz6_1 := blk_frozen BK257.out 1; have hfz6_2 := blk_frozen BK257.out 2) | ((with_reducible refine gate_callee (f := 61) rfl ?_); refine zc (some 9) Try.func61 #[.int .i64 a0_1] ?_; (with_reducible refine (impl_isWord.calls a0_1 true _ A3.out).mono ?_); rintro e w' ⟨rfl, ⟨nd, rfl⟩⟩; refine ⟨_, rfl, ?_⟩))
   go_ret
   exact ⟨ze _, zb _⟩
  ·replace c4 := Bool.eq_false_iff.mpr c4
   subst c4
   rw [if_neg (show ¬ (false = true) by decide)] at H
   obtain rfl := Option.some.inj H
   go_enter Try.func49, Try.ntmps49
   go_wp2_with (first | ((with_reducible refine gate_dst (N := 1) rfl ?_); refine zbx 1 #[.int .i64 a0_0, .int .i64 a0_1, .string a0_2] 74 ?_; intro gb257 hg w7 hbox hb; have BK257 := Aside0.mk (hbox); have GW257 := zs w hg; have GE257 := GW257; replace HB := zt w hb; clear hb hbox hg; have hcz8_0 := zc0 BK257; have hcz8_1 := zc1 BK257; have hcz8_2 := zc2 BK257; have hfz8_0 := blk_frozen BK257.out 0; have hfz8_1 := blk_frozen BK257.out 1; have hfz8_2 := blk_frozen BK257.out 2) | ((with_reducible refine gate_callee (f := 61) rfl ?_); refine zc (some 9) Try.func61 #[.int .i64 a0_1] ?_; (with_reducible refine (impl_isWord.calls a0_1 false _ A3.out).mono ?_); rintro e w' ⟨rfl, ⟨nd, rfl⟩⟩; refine ⟨_, rfl, ?_⟩))
   go_ret
   exact ⟨ze _, zb _⟩
 ·rw [if_neg c2] at H
  have c2b0 : (a0_0 == 1) = false := beq_eq_false_iff_ne.mpr c2
  have c2b1 : (a0_0 != 1) = true := bne_iff_ne.mpr c2
  have HC9 := Aside0.mk H
  clear H
  go_enter Try.func49, Try.ntmps49
  go_upto_region 3 with (first | ((with_reducible refine gate_dst (N := 1) rfl ?_); refine zbx 1 #[.int .i64 a0_0, .int .i64 a0_1, .string a0_2] 74 ?_; intro gb257 hg w10 hbox hb; have BK257 := Aside0.mk (hbox); have GW257 := zs w hg; have GE257 := GW257; replace HB := zt w hb; clear hb hbox hg; have hcz11_0 := zc0 BK257; have hcz11_1 := zc1 BK257; have hcz11_2 := zc2 BK257; have hfz11_0 := blk_frozen BK257.out 0; have hfz11_1 := blk_frozen BK257.out 1; have hfz11_2 := blk_frozen BK257.out 2))
  (try simp only [Act.put, List.setIfInBounds_toArray, List.set_cons_zero, List.set_cons_succ])
  go_cut [15] (fun v15 wc => ∃ (kq : Nat) (x15_8 : Bool), v15 = .bool x15_8 ∧ Aside0 (impl_isNode.j0 kq x15_8 a0_0 a0_1 a0_2 = some r) ∧ Aside0 (kq ≤ k) ∧ Aside0 (wc.heap[gb257]? = some (.cells #[.int .i64 a0_0, .int .i64 a0_1, .string a0_2] 74 (0, 0))) ∧ Aside0 (Below w.heap.size w wc))
  case first =>
   have H := HC9.out
   clear HC9
   by_cases c12 : a0_0 = 2
   ·rw [if_pos c12] at H
    have c12b0 : (a0_0 == 2) = true := beq_iff_eq.mpr c12
    have c12b1 : (a0_0 != 2) = false := bne_eq_false_iff_eq.mpr c12
    clear c12
    (first | rw [c12b0] | (simp only [i64_w, i32_w]; rw [c12b0]) | skip)
    have H' := Aside0.mk H
    clear H
    have hcz13_0 := zc0 BK257
    have hcz13_1 := zc1 BK257
    have hcz13_2 := zc2 BK257
    have hfz13_0 := blk_frozen BK257.out 0
    have hfz13_1 := blk_frozen BK257.out 1
    have hfz13_2 := blk_frozen BK257.out 2
    go_wp2
    go_meet
    case rel => exact ⟨_, (true), (zE _), H', ⟨by first | omega | exact Nat.le_refl _⟩, ⟨by (with_reducible repeat (first | refine blk_drewN ?_ _ | refine blk_drew ?_ | refine blk_alloc ?_ _)); exact BK257.out⟩, ⟨zb _⟩⟩
   ·rw [if_neg c12] at H
    have c12b0 : (a0_0 == 2) = false := beq_eq_false_iff_ne.mpr c12
    have c12b1 : (a0_0 != 2) = true := bne_iff_ne.mpr c12
    (first | rw [c12b0] | (simp only [i64_w, i32_w]; rw [c12b0]) | skip)
    have H' := Aside0.mk H
    clear H
    have hcz14_0 := zc0 BK257
    have hcz14_1 := zc1 BK257
    have hcz14_2 := zc2 BK257
    have hfz14_0 := blk_frozen BK257.out 0
    have hfz14_1 := blk_frozen BK257.out 1
    have hfz14_2 := blk_frozen BK257.out 2
    go_wp2
    go_meet
    case rel => exact ⟨_, ((a0_0 == 3)), (zE _), H', ⟨by first | omega | exact Nat.le_refl _⟩, ⟨by (with_reducible repeat (first | refine blk_drewN ?_ _ | refine blk_drew ?_ | refine blk_alloc ?_ _)); exact BK257.out⟩, ⟨zb _⟩⟩
  case rest =>
   clear HC9
   try clear c1
   try clear c2
   try clear c2b0
   try clear c2b1
   try clear p2
   try clear c4
   try clear c6
   try clear c12
   try clear c12b0
   try clear c12b1
   try clear hcz11_0
   try clear hcz11_1
   try clear hcz11_2
   try clear hcz13_0
   try clear hcz13_1
   try clear hcz13_2
   try clear hcz14_0
   try clear hcz14_1
   try clear hcz14_2
   try clear hcz6_0
   try clear hcz6_1
   try clear hcz6_2
   try clear hcz8_0
   try clear hcz8_1
   try clear hcz8_2
   try clear hfz11_0
   try clear hfz11_1
   try clear hfz11_2
   try clear hfz13_0
   try clear hfz13_1
   try clear hfz13_2
   try clear hfz14_0
   try clear hfz14_1
   try clear hfz14_2
   try clear hfz6_0
   try clear hfz6_1
   try clear hfz6_2
   try clear hfz8_0
   try clear hfz8_1
   try clear hfz8_2
   obtain ⟨kq, x15_8, rfl, HA, HJ8, BK257, HB⟩ := hcut
   cases kq with
   | zero => exact absurd HA.out (by simp [impl_isNode.j0])
   | succ kj8 =>
    have H := HA.out
    clear HA
    simp only [impl_isNode.j0] at H
    by_cases c15 : x15_8 = true
    ·subst c15
     rw [if_pos rfl] at H
     by_cases c16 : a0_1 = 0
     ·rw [if_pos c16] at H
      have c16b0 : (a0_1 == 0) = true := beq_iff_eq.mpr c16
      have c16b1 : (a0_1 != 0) = false := bne_eq_false_iff_eq.mpr c16
      clear c16
      obtain ⟨t259, A170, H⟩ := Option.bind_eq_some_iff.mp H
      have A17 := Aside0.mk A170
      clear A170
      obtain rfl := Option.some.inj H
      have hcz18_0 := zc0 BK257
      have hcz18_1 := zc1 BK257
      have hcz18_2 := zc2 BK257
      have hfz18_0 := blk_frozen BK257.out 0
      have hfz18_1 := blk_frozen BK257.out 1
      have hfz18_2 := blk_frozen BK257.out 2
      go_wp2_with (first | (go_at_call 40; (with_reducible refine (impl_NameOk.calls kj8 a0_2 t259 _ A17.out).mono ?_); rintro e w' ⟨rfl, ⟨nd, rfl⟩⟩))
      go_ret
      exact ⟨ze _, zb _⟩
     ·rw [if_neg c16] at H
      have c16b0 : (a0_1 == 0) = false := beq_eq_false_iff_ne.mpr c16
      have c16b1 : (a0_1 != 0) = true := bne_iff_ne.mpr c16
      obtain rfl := Option.some.inj H
      have hcz19_0 := zc0 BK257
      have hcz19_1 := zc1 BK257
      have hcz19_2 := zc2 BK257
      have hfz19_0 := blk_frozen BK257.out 0
      have hfz19_1 := blk_frozen BK257.out 1
      have hfz19_2 := blk_frozen BK257.out 2
      go_wp2
      go_ret
      exact ⟨ze _, zb _⟩
    ·replace c15 := Bool.eq_false_iff.mpr c15
     subst c15
     rw [if_neg (show ¬ (false = true) by decide)] at H
     obtain ⟨t260, A200, H⟩ := Option.bind_eq_some_iff.mp H
     have A20 := Aside0.mk A200
     clear A200
     by_cases c21 : t260 = true
     ·subst c21
      rw [if_pos rfl] at H
      by_cases c22 : a0_1 = 0
      ·rw [if_pos c22] at H
       have c22b0 : (a0_1 == 0) = true := beq_iff_eq.mpr c22
       have c22b1 : (a0_1 != 0) = false := bne_eq_false_iff_eq.mpr c22
       clear c22
       obtain rfl := Option.some.inj H
       have hcz23_0 := zc0 BK257
       have hcz23_1 := zc1 BK257
       have hcz23_2 := zc2 BK257
       have hfz23_0 := blk_frozen BK257.out 0
       have hfz23_1 := blk_frozen BK257.out 1
       have hfz23_2 := blk_frozen BK257.out 2
       go_wp2_with (first | ((with_reducible refine gate_callee (f := 41) rfl ?_); refine zc (some 34) Try.func41 #[.int .i64 a0_0, .int .i64 4, .int .i64 17] ?_; (with_reducible refine (impl_within.calls a0_0 4 17 true _ A20.out).mono ?_); rintro e w' ⟨rfl, ⟨nd, rfl⟩⟩; refine ⟨_, rfl, ?_⟩))
       go_ret
       exact ⟨ze _, zb _⟩
      ·rw [if_neg c22] at H
       have c22b0 : (a0_1 == 0) = false := beq_eq_false_iff_ne.mpr c22
       have c22b1 : (a0_1 != 0) = true := bne_iff_ne.mpr c22
       obtain rfl := Option.some.inj H
       have hcz24_0 := zc0 BK257
       have hcz24_1 := zc1 BK257
       have hcz24_2 := zc2 BK257
       have hfz24_0 := blk_frozen BK257.out 0
       have hfz24_1 := blk_frozen BK257.out 1
       have hfz24_2 := blk_frozen BK257.out 2
       go_wp2_with (first | ((with_reducible refine gate_callee (f := 41) rfl ?_); refine zc (some 34) Try.func41 #[.int .i64 a0_0, .int .i64 4, .int .i64 17] ?_; (with_reducible refine (impl_within.calls a0_0 4 17 true _ A20.out).mono ?_); rintro e w' ⟨rfl, ⟨nd, rfl⟩⟩; refine ⟨_, rfl, ?_⟩))
       go_ret
       exact ⟨ze _, zb _⟩
     ·replace c21 := Bool.eq_false_iff.mpr c21
      subst c21
      rw [if_neg (show ¬ (false = true) by decide)] at H
      obtain rfl := Option.some.inj H
      have hcz25_0 := zc0 BK257
      have hcz25_1 := zc1 BK257
      have hcz25_2 := zc2 BK257
      have hfz25_0 := blk_frozen BK257.out 0
      have hfz25_1 := blk_frozen BK257.out 1
      have hfz25_2 := blk_frozen BK257.out 2
      go_wp2_with (first | ((with_reducible refine gate_callee (f := 41) rfl ?_); refine zc (some 34) Try.func41 #[.int .i64 a0_0, .int .i64 4, .int .i64 17] ?_; (with_reducible refine (impl_within.calls a0_0 4 17 false _ A20.out).mono ?_); rintro e w' ⟨rfl, ⟨nd, rfl⟩⟩; refine ⟨_, rfl, ?_⟩))
      go_ret
      exact ⟨ze _, zb _⟩

end Go.Proofs.Ytbbngeooodcbcaa.PFnExactObjectOk
