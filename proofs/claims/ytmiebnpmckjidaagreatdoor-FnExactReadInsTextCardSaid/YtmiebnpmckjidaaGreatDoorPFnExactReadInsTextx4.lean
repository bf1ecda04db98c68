/- What the Go functions that the law FnExactReadInsText reaches compute, function by function, and that Go comes to just that. -/
import Derived.Test.YtmiebnpmckjidaaGreatDoorPFnExactReadInsTextx0
import Derived.Test.YtmiebnpmckjidaaGreatDoorAidZ
import Derived.Test.YtmiebnpmckjidaaGreatDoorPFnExactReadInsTextx1
import Derived.Test.YtmiebnpmckjidaaGreatDoorPFnExactReadInsTextx2
import Derived.Test.YtmiebnpmckjidaaGreatDoorPFnExactReadInsTextx3
namespace Go.Proofs.YtmiebnpmckjidaaGreatDoor.PFnExactReadInsText
open Go.RowKit Go.Proofs.YtmiebnpmckjidaaGreatDoor.Z Go.Proofs.YtmiebnpmckjidaaGreatDoorW.PrintWords Go.Proofs.YtmiebnpmckjidaaGreatDoorW.PrintLast Go.Proofs.YtmiebnpmckjidaaGreatDoorW.PrintMore
attribute [local go_sem] max2_int min2_int max_two min_two max_three min_three max_four min_four   -- for this text's walks alone
set_option linter.unusedVariables false
set_option linter.unusedSimpArgs false

/-! ### spec_l3Imm: function 10 -/
mutual
def spec_l3Imm.j0 : Nat → ByteArray → Bool → Option (Int)
  | 0, _, _ => none
  | k + 1, x0, x14 => if x14 = true then (if 1 ≤ (x0.size : Int) then ((spec_ReadNum.f k (x0.extract 1 x0.size)).bind fun bt141 => (if bt141.2 = true then ((spec_l1In.f bt141.1 1 128).bind fun t143 => (spec_l3Imm.j1 k bt141.1 (!t143))) else (spec_l3Imm.j1 k bt141.1 true))) else (none)) else ((spec_ReadNum.f k x0).bind fun bt144 => (if bt144.2 = true then (some bt144.1) else (some (-1))))
def spec_l3Imm.j1 : Nat → Int → Bool → Option (Int)
  | 0, _, _ => none
  | k + 1, x3, x27 => if x27 = true then (some (-1)) else (some (wrap64 (256 - x3)))
end
def spec_l3Imm.f (k : Nat) (a0 : ByteArray) : Option (Int) := if (a0.size : Int) > 1 then (if 0 < (a0.size : Int) then (spec_l3Imm.j0 k a0 ((bt a0 0) == 45)) else (none)) else (spec_l3Imm.j0 k a0 false)
theorem spec_l3Imm.mono_l : ∀ k, (∀ y0 y1, LeO (spec_l3Imm.j0 k y0 y1) (spec_l3Imm.j0 (k + 1) y0 y1)) ∧ (∀ y0 y1, LeO (spec_l3Imm.j1 k y0 y1) (spec_l3Imm.j1 (k + 1) y0 y1))
  | 0 => ⟨fun _ _ r h => by simp [spec_l3Imm.j0] at h, fun _ _ r h => by simp [spec_l3Imm.j1] at h⟩
  | k + 1 => by
    obtain ⟨ih0, ih1⟩ := spec_l3Imm.mono_l k
    refine ⟨?_, ?_⟩
    · intro y0 y1
      unfold spec_l3Imm.j0
      repeat' first
      | (with_reducible exact ih0 _ _)
      | (with_reducible exact ih1 _ _)
      | (with_reducible exact spec_ReadNum.mono _ _)
      | (with_reducible exact LeO.refl _)
      | (with_reducible exact LeO.none _)
      | (with_reducible refine LeO.ite ?_ ?_)
      | (with_reducible refine LeO.bind ?_ (fun _ => ?_))
      | exact ih0 _ _
      | exact ih1 _ _
      | exact spec_ReadNum.mono _ _
      | exact LeO.none _
      | refine LeO.ite ?_ ?_
      | refine LeO.bind ?_ (fun _ => ?_)
    · intro y0 y1
      unfold spec_l3Imm.j1
      repeat' first
      | (with_reducible exact ih0 _ _)
      | (with_reducible exact ih1 _ _)
      | (with_reducible exact spec_ReadNum.mono _ _)
      | (with_reducible exact LeO.refl _)
      | (with_reducible exact LeO.none _)
      | (with_reducible refine LeO.ite ?_ ?_)
      | (with_reducible refine LeO.bind ?_ (fun _ => ?_))
      | exact ih0 _ _
      | exact ih1 _ _
      | exact spec_ReadNum.mono _ _
      | exact LeO.none _
      | refine LeO.ite ?_ ?_
      | refine LeO.bind ?_ (fun _ => ?_)
theorem spec_l3Imm.mono : ∀ a0 k, LeO (spec_l3Imm.f k a0) (spec_l3Imm.f (k + 1) a0) := by
  intro a0 k
  obtain ⟨ih0, ih1⟩ := spec_l3Imm.mono_l k
  unfold spec_l3Imm.f
  repeat' first
      | (with_reducible exact ih0 _ _)
      | (with_reducible exact ih1 _ _)
      | (with_reducible exact spec_ReadNum.mono _ _)
      | (with_reducible exact LeO.refl _)
      | (with_reducible exact LeO.none _)
      | (with_reducible refine LeO.ite ?_ ?_)
      | (with_reducible refine LeO.bind ?_ (fun _ => ?_))
      | exact ih0 _ _
      | exact ih1 _ _
      | exact spec_ReadNum.mono _ _
      | exact LeO.none _
      | refine LeO.ite ?_ ?_
      | refine LeO.bind ?_ (fun _ => ?_)
set_option maxHeartbeats 8000000 in
set_option maxRecDepth 100000 in
theorem spec_l3Imm.calls (k : Nat) (a0 : ByteArray) (r : Int) (w : World) (h : spec_l3Imm.f k a0 = some r) :
 Calls Tryz.prog 10 #[.string a0] w fun e w' => e = .returned (.int .i64 r) ∧ Drawn0 w w' := by
 have H : (if (a0.size : Int) > 1 then (if 0 < (a0.size : Int) then (spec_l3Imm.j0 k a0 ((bt a0 0) == 45)) else (none)) else (spec_l3Imm.j0 k a0 false)) = some r := h
 clear h
 have HC2 := Aside0.mk H
 clear H
 go_enter Tryz.func10, Tryz.ntmps10
 go_upto_region 1 with (fail)
 go_cut [14] (fun v14 wc => ∃ (kq : Nat) (x14_1 : Bool), v14 = .bool x14_1 ∧ Aside0 (spec_l3Imm.j0 kq a0 x14_1 = some r) ∧ Aside0 (kq ≤ k) ∧ Drawn0 w wc)
 case first =>
  have H := HC2.out
  clear HC2
  by_cases c3 : (a0.size : Int) > 1
  ·rw [if_pos c3] at H
   have c3b0 : decide (1 < (a0.size : Int)) = true := decide_eq_true c3
   have c3b1 : decide (1 < a0.size) = true := decide_eq_true (by omega)
   clear c3
   (first | rw [c3b0] | (simp only [i64_w, i32_w]; rw [c3b0]) | skip)
   by_cases c4 : 0 < (a0.size : Int)
   ·rw [if_pos c4] at H
    have c4b0 : decide (0 < (a0.size : Int)) = true := decide_eq_true c4
    have c4b1 : decide (0 < a0.size) = true := decide_eq_true (by omega)
    clear c4
    have H' := Aside0.mk H
    clear H
    have p5 : 0 ≤ (0 : Int) := (by omega)
    have q5 : 0 < a0.size := (by have : (0 : Int) < (a0.size : Int) := of_decide_eq_true (za _); omega)
    have hx5 : ∀ h : 0 < a0.size, ((a0[0]'h).toNat : Int) = bt a0 0 := bt_at a0 0
    clear p5
    have qi5 : (0 < (a0.size : Int)) = True := eq_true (of_decide_eq_true (za _))
    replace q5 := eq_true q5
    go_wp2
    go_meet
    case rel => exact ⟨_, (((bt a0 0) == 45)), (zE _), H', ⟨by first | omega | exact Nat.le_refl _⟩, zd _⟩
   ·rw [if_neg c4] at H
    exact absurd H (by simp)
  ·rw [if_neg c3] at H
   have c3b0 : decide (1 < (a0.size : Int)) = false := decide_eq_false c3
   have c3b1 : decide (1 < a0.size) = false := decide_eq_false (by omega)
   clear c3
   (first | rw [c3b0] | (simp only [i64_w, i32_w]; rw [c3b0]) | skip)
   have H' := Aside0.mk H
   clear H
   go_wp2
   go_meet
   case rel => exact ⟨_, (false), (zE _), H', ⟨by first | omega | exact Nat.le_refl _⟩, zd _⟩
 case rest =>
  clear HC2
  try clear c1
  try clear p2
  try clear c3
  try clear c3b0
  try clear c3b1
  try clear c4
  try clear c4b0
  try clear c4b1
  try clear p5
  try clear q5
  try clear hx5
  try clear qi5
  try clear p5
  try clear q5
  obtain ⟨kq, x14_1, rfl, HA, HJ1, ⟨mc1, rfl⟩⟩ := hcut
  cases kq with
  | zero => exact absurd HA.out (by simp [spec_l3Imm.j0])
  | succ kj1 =>
   have H := HA.out
   clear HA
   simp only [spec_l3Imm.j0] at H
   by_cases c6 : x14_1 = true
   ·subst c6
    rw [if_pos rfl] at H
    by_cases c7 : 1 ≤ (a0.size : Int)
    ·rw [if_pos c7] at H
     have c7b0 := eq_true c7
     have c7b1 : decide (1 ≤ (a0.size : Int)) = true := decide_eq_true c7
     clear c7
     replace H := Option.bind_eq_some_iff.mp H
     obtain ⟨⟨t141, t142⟩, A80, H⟩ := H
     replace H : (if t142 = true then ((spec_l1In.f t141 1 128).bind fun t143 => (spec_l3Imm.j1 kj1 t141 (!t143))) else (spec_l3Imm.j1 kj1 t141 true)) = some r := H
     have A8 := Aside0.mk A80
     clear A80
     have HC9 := Aside0.mk H
     clear H
     go_upto_region 3 with (first | ((with_reducible refine gate_callee (f := 27) rfl ?_); refine zc (some 18) Tryz.func27 #[.string (a0.extract 1 a0.size)] ?_; (with_reducible refine (spec_ReadNum.calls kj1 (a0.extract 1 a0.size) t141 t142 _ A8.out).mono ?_); rintro e w' ⟨rfl, ⟨nd, rfl⟩⟩; refine ⟨_, rfl, ?_⟩))
     (try simp only [Act.put, List.setIfInBounds_toArray, List.set_cons_zero, List.set_cons_succ])
     go_cut [27] (fun v27 wc => ∃ (kq : Nat) (x27_8 : Bool), v27 = .bool x27_8 ∧ Aside0 (spec_l3Imm.j1 kq t141 x27_8 = some r) ∧ Aside0 (kq ≤ kj1) ∧ Drawn0 w wc)
     case first =>
      have H := HC9.out
      clear HC9
      by_cases c10 : t142 = true
      ·subst c10
       rw [if_pos rfl] at H
       obtain ⟨t143, A110, H⟩ := Option.bind_eq_some_iff.mp H
       have A11 := Aside0.mk A110
       clear A110
       have H' := Aside0.mk H
       clear H
       go_wp2_with (first | (go_at_call 28; (with_reducible refine (spec_l1In.calls t141 1 128 t143 _ A11.out).mono ?_); rintro e w' ⟨rfl, ⟨nd, rfl⟩⟩))
       go_meet
       case rel => exact ⟨_, (!t143), (zE _), H', ⟨by have := HJ1.out; first | omega | exact Nat.le_refl _⟩, zd _⟩
      ·replace c10 := Bool.eq_false_iff.mpr c10
       subst c10
       rw [if_neg (show ¬ (false = true) by decide)] at H
       have H' := Aside0.mk H
       clear H
       go_wp2
       go_meet
       case rel => exact ⟨_, (true), (zE _), H', ⟨by have := HJ1.out; first | omega | exact Nat.le_refl _⟩, zd _⟩
     case rest =>
      clear HC9
      try clear c1
      try clear c2
      try clear p2
      try clear c3
      try clear c3b0
      try clear c3b1
      try clear c4
      try clear c4b0
      try clear c4b1
      try clear p5
      try clear q5
      try clear hx5
      try clear qi5
      try clear c6
      try clear c7
      try clear c7b0
      try clear c7b1
      try clear c10
      try clear p2
      try clear p5
      try clear q5
      obtain ⟨kq, x27_8, rfl, HA, HJ8, ⟨mc8, rfl⟩⟩ := hcut
      cases kq with
      | zero => exact absurd HA.out (by simp [spec_l3Imm.j1])
      | succ kj8 =>
       have H := HA.out
       clear HA
       simp only [spec_l3Imm.j1] at H
       by_cases c12 : x27_8 = true
       ·subst c12
        rw [if_pos rfl] at H
        obtain rfl := Option.some.inj H
        go_wp2
        first | go_ret | ((try simp only [Exit.inBlock, Exit.then]); apply bodyPost_ret; (exact results_tmp rfl _ _ _); rfl)
        exact ⟨zE _, zd _⟩
       ·replace c12 := Bool.eq_false_iff.mpr c12
        subst c12
        rw [if_neg (show ¬ (false = true) by decide)] at H
        obtain rfl := Option.some.inj H
        go_wp2
        first | go_ret | ((try simp only [Exit.inBlock, Exit.then]); apply bodyPost_ret; (exact results_tmp rfl _ _ _); rfl)
        exact ⟨zE _, zd _⟩
    ·rw [if_neg c7] at H
     exact absurd H (by simp)
   ·replace c6 := Bool.eq_false_iff.mpr c6
    subst c6
    rw [if_neg (show ¬ (false = true) by decide)] at H
    replace H := Option.bind_eq_some_iff.mp H
    obtain ⟨⟨t144, t145⟩, A130, H⟩ := H
    replace H : (if t145 = true then (some t144) else (some (-1))) = some r := H
    have A13 := Aside0.mk A130
    clear A130
    by_cases c14 : t145 = true
    ·subst c14
     rw [if_pos rfl] at H
     obtain rfl := Option.some.inj H
     go_wp2_with (first | ((with_reducible refine gate_callee (f := 27) rfl ?_); refine zc (some 32) Tryz.func27 #[.string a0] ?_; (with_reducible refine (spec_ReadNum.calls kj1 a0 t144 true _ A13.out).mono ?_); rintro e w' ⟨rfl, ⟨nd, rfl⟩⟩; refine ⟨_, rfl, ?_⟩))
     first | go_ret | ((try simp only [Exit.inBlock, Exit.then]); apply bodyPost_ret; (exact results_tmp rfl _ _ _); rfl)
     exact ⟨zE _, zd _⟩
    ·replace c14 := Bool.eq_false_iff.mpr c14
     subst c14
     rw [if_neg (show ¬ (false = true) by decide)] at H
     obtain rfl := Option.some.inj H
     go_wp2_with (first | ((with_reducible refine gate_callee (f := 27) rfl ?_); refine zc (some 32) Tryz.func27 #[.string a0] ?_; (with_reducible refine (spec_ReadNum.calls kj1 a0 t144 false _ A13.out).mono ?_); rintro e w' ⟨rfl, ⟨nd, rfl⟩⟩; refine ⟨_, rfl, ?_⟩))
     first | go_ret | ((try simp only [Exit.inBlock, Exit.then]); apply bodyPost_ret; (exact results_tmp rfl _ _ _); rfl)
     exact ⟨zE _, zd _⟩

/-! ### spec_LengthOf: function 53 -/
def spec_LengthOf.f (k : Nat) (a0 : Int) (a1 : Bool) : Option (Int) := (spec_l1In.f a0 0 255).bind fun t146 => (if t146 = true then ((spec_l3Length.f k a0 a1).bind fun t147 => (some t147)) else (some 0))
theorem spec_LengthOf.mono : ∀ a0 a1 k, LeO (spec_LengthOf.f k a0 a1) (spec_LengthOf.f (k + 1) a0 a1) := by
  intro a0 a1 k
  unfold spec_LengthOf.f
  repeat' first
      | (with_reducible exact spec_l3Length.mono _ _ _)
      | (with_reducible exact LeO.refl _)
      | (with_reducible exact LeO.none _)
      | (with_reducible refine LeO.ite ?_ ?_)
      | (with_reducible refine LeO.bind ?_ (fun _ => ?_))
      | exact spec_l3Length.mono _ _ _
      | exact LeO.none _
      | refine LeO.ite ?_ ?_
      | refine LeO.bind ?_ (fun _ => ?_)
set_option maxHeartbeats 8000000 in
set_option maxRecDepth 100000 in
theorem spec_LengthOf.calls (k : Nat) (a0 : Int) (a1 : Bool) (r : Int) (w : World) (h : spec_LengthOf.f k a0 a1 = some r) :
 Calls Tryz.prog 53 #[.int .i64 a0, .bool a1] w fun e w' => e = .returned (.int .i64 r) ∧ Below w.heap.size w w' := by
 have HB := Aside0.mk (Below.refl w.heap.size w)
 have H : ((spec_l1In.f a0 0 255).bind fun t146 => (if t146 = true then ((spec_l3Length.f k a0 a1).bind fun t147 => (some t147)) else (some 0))) = some r := h
 clear h
 obtain ⟨t146, A30, H⟩ := Option.bind_eq_some_iff.mp H
 have A3 := Aside0.mk A30
 clear A30
 by_cases c4 : t146 = true
 ·subst c4
  rw [if_pos rfl] at H
  obtain ⟨t147, A50, H⟩ := Option.bind_eq_some_iff.mp H
  have A5 := Aside0.mk A50
  clear A50
  obtain rfl := Option.some.inj H
  go_enter Tryz.func53, Tryz.ntmps53
  go_wp2_with (first | ((with_reducible refine gate_callee (f := 28) rfl ?_); refine zc (some 6) Tryz.func28 #[.int .i64 a0, .int .i64 0, .int .i64 255] ?_; (with_reducible refine (spec_l1In.calls a0 0 255 true _ A3.out).mono ?_); rintro e w' ⟨rfl, ⟨nd, rfl⟩⟩; refine ⟨_, rfl, ?_⟩) | ((with_reducible refine gate_callee (f := 7) rfl ?_); refine zc (some 10) Tryz.func7 #[.int .i64 a0, .bool a1] ?_; (with_reducible refine (spec_l3Length.calls k a0 a1 t147 _ A5.out).mono ?_); rintro e w6 ⟨rfl, hb⟩; refine ⟨_, rfl, ?_⟩; replace HB := zt w hb; (try clear hb); (try clear hb2); (try clear hk); (try clear hi)))
  first | go_ret | ((try simp only [Exit.inBlock, Exit.then]); apply bodyPost_ret; (exact results_tmp rfl _ _ _); rfl)
  exact ⟨ze _, zb _⟩
 ·replace c4 := Bool.eq_false_iff.mpr c4
  subst c4
  rw [if_neg (show ¬ (false = true) by decide)] at H
  obtain rfl := Option.some.inj H
  go_enter Tryz.func53, Tryz.ntmps53
  go_wp2_with (first | ((with_reducible refine gate_callee (f := 28) rfl ?_); refine zc (some 6) Tryz.func28 #[.int .i64 a0, .int .i64 0, .int .i64 255] ?_; (with_reducible refine (spec_l1In.calls a0 0 255 false _ A3.out).mono ?_); rintro e w' ⟨rfl, ⟨nd, rfl⟩⟩; refine ⟨_, rfl, ?_⟩))
  first | go_ret | ((try simp only [Exit.inBlock, Exit.then]); apply bodyPost_ret; (exact results_tmp rfl _ _ _); rfl)
  exact ⟨ze _, zb _⟩

/-! ### spec_InsOk: function 29 -/
def spec_InsOk.f (k : Nat) (a0_0 : Int) (a0_1 : Bool) (a0_2 : Int) : Option (Bool) := (spec_LengthOf.f k a0_0 a0_1).bind fun t149 => (if t149 = 0 then (some false) else ((spec_l3Template.f a0_0 a0_1).bind fun t150 => ((spec_l3Hole.f k t150).bind fun bt151 => (if bt151.2.toList = ([110, 49, 54] : List UInt8) then ((spec_l1In.f a0_2 0 65535).bind fun t153 => (some t153)) else (if bt151.2.toList = ([110, 56] : List UInt8) then ((spec_l1In.f a0_2 0 255).bind fun t154 => (some t154)) else (if bt151.2.toList = ([101, 56] : List UInt8) then ((spec_l1In.f a0_2 0 255).bind fun t155 => (some t155)) else (some (a0_2 == 0))))))))
theorem spec_InsOk.mono : ∀ a0 a1 a2 k, LeO (spec_InsOk.f k a0 a1 a2) (spec_InsOk.f (k + 1) a0 a1 a2) := by
  intro a0 a1 a2 k
  unfold spec_InsOk.f
  repeat' first
      | (with_reducible exact spec_LengthOf.mono _ _ _)
      | (with_reducible exact spec_l3Hole.mono _ _)
      | (with_reducible exact LeO.refl _)
      | (with_reducible exact LeO.none _)
      | (with_reducible refine LeO.ite ?_ ?_)
      | (with_reducible refine LeO.bind ?_ (fun _ => ?_))
      | exact spec_LengthOf.mono _ _ _
      | exact spec_l3Hole.mono _ _
      | exact LeO.none _
      | refine LeO.ite ?_ ?_
      | refine LeO.bind ?_ (fun _ => ?_)
set_option maxHeartbeats 8000000 in
set_option maxRecDepth 100000 in
theorem spec_InsOk.calls (k : Nat) (a0_0 : Int) (a0_1 : Bool) (a0_2 : Int) (r : Bool) (w : World) (h : spec_InsOk.f k a0_0 a0_1 a0_2 = some r) :
 Calls Tryz.prog 29 #[.agg #[.int .i64 a0_0, .bool a0_1, .int .i64 a0_2]] w fun e w' => e = .returned (.bool r) ∧ Below w.heap.size w w' := by
 have hu23 := Tryz.underlying23
 have HB := Aside0.mk (Below.refl w.heap.size w)
 have H : ((spec_LengthOf.f k a0_0 a0_1).bind fun t149 => (if t149 = 0 then (some false) else ((spec_l3Template.f a0_0 a0_1).bind fun t150 => ((spec_l3Hole.f k t150).bind fun bt151 => (if bt151.2.toList = ([110, 49, 54] : List UInt8) then ((spec_l1In.f a0_2 0 65535).bind fun t153 => (some t153)) else (if bt151.2.toList = ([110, 56] : List UInt8) then ((spec_l1In.f a0_2 0 255).bind fun t154 => (some t154)) else (if bt151.2.toList = ([101, 56] : List UInt8) then ((spec_l1In.f a0_2 0 255).bind fun t155 => (some t155)) else (some (a0_2 == 0))))))))) = some r := h
 clear h
 obtain ⟨t149, A20, H⟩ := Option.bind_eq_some_iff.mp H
 have A2 := Aside0.mk A20
 clear A20
 by_cases c3 : t149 = 0
 ·rw [if_pos c3] at H
  have c3b0 : (t149 == 0) = true := beq_iff_eq.mpr c3
  have c3b1 : (t149 != 0) = false := bne_eq_false_iff_eq.mpr c3
  clear c3
  obtain rfl := Option.some.inj H
  go_enter Tryz.func29, Tryz.ntmps29
  go_wp2_with (first | ((with_reducible refine gate_dst (N := 1) rfl ?_); refine zbx 1 #[.int .i64 a0_0, .bool a0_1, .int .i64 a0_2] 23 ?_; intro gb148 hg w4 hbox hb; have BK148 := Aside0.mk (hbox); have GW148 := zs w hg; have GE148 := GW148; replace HB := zt w hb; clear hb hbox hg; have hcz5_0 := zc0 BK148; have hcz5_1 := zc1 BK148; have hcz5_2 := zc2 BK148; have hfz5_0 := blk_frozen BK148.out 0; have hfz5_1 := blk_frozen BK148.out 1; have hfz5_2 := blk_frozen BK148.out 2) | ((with_reducible refine gate_callee (f := 53) rfl ?_); refine zc (some 9) Tryz.func53 #[.int .i64 a0_0, .bool a0_1] ?_; (with_reducible refine (spec_LengthOf.calls k a0_0 a0_1 t149 _ A2.out).mono ?_); rintro e w6 ⟨rfl, hb⟩; refine ⟨_, rfl, ?_⟩; replace BK148 := zk BK148 hb; replace HB := zt w hb; (try clear hb); (try clear hb2); (try clear hk); (try clear hi)))
  first | go_ret | ((try simp only [Exit.inBlock, Exit.then]); apply bodyPost_ret; (exact results_tmp rfl _ _ _); rfl)
  exact ⟨ze _, zb _⟩
 ·rw [if_neg c3] at H
  have c3b0 : (t149 == 0) = false := beq_eq_false_iff_ne.mpr c3
  have c3b1 : (t149 != 0) = true := bne_iff_ne.mpr c3
  obtain ⟨t150, A70, H⟩ := Option.bind_eq_some_iff.mp H
  have A7 := Aside0.mk A70
  clear A70
  replace H := Option.bind_eq_some_iff.mp H
  obtain ⟨⟨t151, t152⟩, A80, H⟩ := H
  replace H : (if t152.toList = ([110, 49, 54] : List UInt8) then ((spec_l1In.f a0_2 0 65535).bind fun t153 => (some t153)) else (if t152.toList = ([110, 56] : List UInt8) then ((spec_l1In.f a0_2 0 255).bind fun t154 => (some t154)) else (if t152.toList = ([101, 56] : List UInt8) then ((spec_l1In.f a0_2 0 255).bind fun t155 => (some t155)) else (some (a0_2 == 0))))) = some r := H
  have A8 := Aside0.mk A80
  clear A80
  by_cases c9 : t152.toList = ([110, 49, 54] : List UInt8)
  ·rw [if_pos c9] at H
   have c9b0 : (t152.toList == ([110, 49, 54] : List UInt8)) = true := beq_iff_eq.mpr c9
   have c9b1 : (t152.toList != ([110, 49, 54] : List UInt8)) = false := bne_eq_false_iff_eq.mpr c9
   clear c9
   obtain ⟨t153, A100, H⟩ := Option.bind_eq_some_iff.mp H
   have A10 := Aside0.mk A100
   clear A100
   obtain rfl := Option.some.inj H
   go_enter Tryz.func29, Tryz.ntmps29
   go_wp2_with (first | ((with_reducible refine gate_dst (N := 1) rfl ?_); refine zbx 1 #[.int .i64 a0_0, .bool a0_1, .int .i64 a0_2] 23 ?_; intro gb148 hg w11 hbox hb; have BK148 := Aside0.mk (hbox); have GW148 := zs w hg; have GE148 := GW148; replace HB := zt w hb; clear hb hbox hg; have hcz12_0 := zc0 BK148; have hcz12_1 := zc1 BK148; have hcz12_2 := zc2 BK148; have hfz12_0 := blk_frozen BK148.out 0; have hfz12_1 := blk_frozen BK148.out 1; have hfz12_2 := blk_frozen BK148.out 2) | ((with_reducible refine gate_callee (f := 53) rfl ?_); refine zc (some 9) Tryz.func53 #[.int .i64 a0_0, .bool a0_1] ?_; (with_reducible refine (spec_LengthOf.calls k a0_0 a0_1 t149 _ A2.out).mono ?_); rintro e w13 ⟨rfl, hb⟩; refine ⟨_, rfl, ?_⟩; replace BK148 := zk BK148 hb; replace HB := zt w hb; (try clear hb); (try clear hb2); (try clear hk); (try clear hi); have hcz14_0 := zc0 BK148; have hcz14_1 := zc1 BK148; have hcz14_2 := zc2 BK148; have hfz14_0 := blk_frozen BK148.out 0; have hfz14_1 := blk_frozen BK148.out 1; have hfz14_2 := blk_frozen BK148.out 2) | ((with_reducible refine gate_callee (f := 9) rfl ?_); refine zc (some 16) Tryz.func9 #[.int .i64 a0_0, .bool a0_1] ?_; (with_reducible refine (spec_l3Template.calls a0_0 a0_1 t150 _ A7.out).mono ?_); rintro e w15 ⟨rfl, hb⟩; refine ⟨_, rfl, ?_⟩; replace BK148 := zk BK148 hb; replace HB := zt w hb; (try clear hb); (try clear hb2); (try clear hk); (try clear hi)) | ((with_reducible refine gate_callee (f := 20) rfl ?_); refine zc (some 17) Tryz.func20 #[.string t150] ?_; (with_reducible refine (spec_l3Hole.calls k t150 t151 t152 _ A8.out).mono ?_); rintro e w16 ⟨rfl, hb⟩; refine ⟨_, rfl, ?_⟩; replace BK148 := zk BK148 hb; replace HB := zt w hb; (try clear hb); (try clear hb2); (try clear hk); (try clear hi); have hcz17_0 := zc0 BK148; have hcz17_1 := zc1 BK148; have hcz17_2 := zc2 BK148; have hfz17_0 := blk_frozen BK148.out 0; have hfz17_1 := blk_frozen BK148.out 1; have hfz17_2 := blk_frozen BK148.out 2) | ((with_reducible refine gate_callee (f := 28) rfl ?_); refine zc (some 25) Tryz.func28 #[.int .i64 a0_2, .int .i64 0, .int .i64 65535] ?_; (with_reducible refine (spec_l1In.calls a0_2 0 65535 t153 _ A10.out).mono ?_); rintro e w' ⟨rfl, ⟨nd, rfl⟩⟩; refine ⟨_, rfl, ?_⟩))
   first | go_ret | ((try simp only [Exit.inBlock, Exit.then]); apply bodyPost_ret; (exact results_tmp rfl _ _ _); rfl)
   exact ⟨ze _, zb _⟩
  ·rw [if_neg c9] at H
   have c9b0 : (t152.toList == ([110, 49, 54] : List UInt8)) = false := beq_eq_false_iff_ne.mpr c9
   have c9b1 : (t152.toList != ([110, 49, 54] : List UInt8)) = true := bne_iff_ne.mpr c9
   by_cases c18 : t152.toList = ([110, 56] : List UInt8)
   ·rw [if_pos c18] at H
    have c18b0 : (t152.toList == ([110, 56] : List UInt8)) = true := beq_iff_eq.mpr c18
    have c18b1 : (t152.toList != ([110, 56] : List UInt8)) = false := bne_eq_false_iff_eq.mpr c18
    clear c18
    obtain ⟨t154, A190, H⟩ := Option.bind_eq_some_iff.mp H
    have A19 := Aside0.mk A190
    clear A190
    obtain rfl := Option.some.inj H
    go_enter Tryz.func29, Tryz.ntmps29
    go_wp2_with (first | ((with_reducible refine gate_dst (N := 1) rfl ?_); refine zbx 1 #[.int .i64 a0_0, .bool a0_1, .int .i64 a0_2] 23 ?_; intro gb148 hg w20 hbox hb; have BK148 := Aside0.mk (hbox); have GW148 := zs w hg; have GE148 := GW148; replace HB := zt w hb; clear hb hbox hg; have hcz21_0 := zc0 BK148; have hcz21_1 := zc1 BK148; have hcz21_2 := zc2 BK148; have hfz21_0 := blk_frozen BK148.out 0; have hfz21_1 := blk_frozen BK148.out 1; have hfz21_2 := blk_frozen BK148.out 2) | ((with_reducible refine gate_callee (f := 53) rfl ?_); refine zc (some 9) Tryz.func53 #[.int .i64 a0_0, .bool a0_1] ?_; (with_reducible refine (spec_LengthOf.calls k a0_0 a0_1 t149 _ A2.out).mono ?_); rintro e w22 ⟨rfl, hb⟩; refine ⟨_, rfl, ?_⟩; replace BK148 := zk BK148 hb; replace HB := zt w hb; (try clear hb); (try clear hb2); (try clear hk); (try clear hi); have hcz23_0 := zc0 BK148; have hcz23_1 := zc1 BK148; have hcz23_2 := zc2 BK148; have hfz23_0 := blk_frozen BK148.out 0; have hfz23_1 := blk_frozen BK148.out 1; have hfz23_2 := blk_frozen BK148.out 2) | ((with_reducible refine gate_callee (f := 9) rfl ?_); refine zc (some 16) Tryz.func9 #[.int .i64 a0_0, .bool a0_1] ?_; (with_reducible refine (spec_l3Template.calls a0_0 a0_1 t150 _ A7.out).mono ?_); rintro e w24 ⟨rfl, hb⟩; refine ⟨_, rfl, ?_⟩; replace BK148 := zk BK148 hb; replace HB := zt w hb; (try clear hb); (try clear hb2); (try clear hk); (try clear hi)) | ((with_reducible refine gate_callee (f := 20) rfl ?_); refine zc (some 17) Tryz.func20 #[.string t150] ?_; (with_reducible refine (spec_l3Hole.calls k t150 t151 t152 _ A8.out).mono ?_); rintro e w25 ⟨rfl, hb⟩; refine ⟨_, rfl, ?_⟩; replace BK148 := zk BK148 hb; replace HB := zt w hb; (try clear hb); (try clear hb2); (try clear hk); (try clear hi); have hcz26_0 := zc0 BK148; have hcz26_1 := zc1 BK148; have hcz26_2 := zc2 BK148; have hfz26_0 := blk_frozen BK148.out 0; have hfz26_1 := blk_frozen BK148.out 1; have hfz26_2 := blk_frozen BK148.out 2) | ((with_reducible refine gate_callee (f := 28) rfl ?_); refine zc (some 31) Tryz.func28 #[.int .i64 a0_2, .int .i64 0, .int .i64 255] ?_; (with_reducible refine (spec_l1In.calls a0_2 0 255 t154 _ A19.out).mono ?_); rintro e w' ⟨rfl, ⟨nd, rfl⟩⟩; refine ⟨_, rfl, ?_⟩))
    first | go_ret | ((try simp only [Exit.inBlock, Exit.then]); apply bodyPost_ret; (exact results_tmp rfl _ _ _); rfl)
    exact ⟨ze _, zb _⟩
   ·rw [if_neg c18] at H
    have c18b0 : (t152.toList == ([110, 56] : List UInt8)) = false := beq_eq_false_iff_ne.mpr c18
    have c18b1 : (t152.toList != ([110, 56] : List UInt8)) = true := bne_iff_ne.mpr c18
    by_cases c27 : t152.toList = ([101, 56] : List UInt8)
    ·rw [if_pos c27] at H
     have c27b0 : (t152.toList == ([101, 56] : List UInt8)) = true := beq_iff_eq.mpr c27
     have c27b1 : (t152.toList != ([101, 56] : List UInt8)) = false := bne_eq_false_iff_eq.mpr c27
     clear c27
     obtain ⟨t155, A280, H⟩ := Option.bind_eq_some_iff.mp H
     have A28 := Aside0.mk A280
     clear A280
     obtain rfl := Option.some.inj H
     go_enter Tryz.func29, Tryz.ntmps29
     go_wp2_with (first | ((with_reducible refine gate_dst (N := 1) rfl ?_); refine zbx 1 #[.int .i64 a0_0, .bool a0_1, .int .i64 a0_2] 23 ?_; intro gb148 hg w29 hbox hb; have BK148 := Aside0.mk (hbox); have GW148 := zs w hg; have GE148 := GW148; replace HB := zt w hb; clear hb hbox hg; have hcz30_0 := zc0 BK148; have hcz30_1 := zc1 BK148; have hcz30_2 := zc2 BK148; have hfz30_0 := blk_frozen BK148.out 0; have hfz30_1 := blk_frozen BK148.out 1; have hfz30_2 := blk_frozen BK148.out 2) | ((with_reducible refine gate_callee (f := 53) rfl ?_); refine zc (some 9) Tryz.func53 #[.int .i64 a0_0, .bool a0_1] ?_; (with_reducible refine (spec_LengthOf.calls k a0_0 a0_1 t149 _ A2.out).mono ?_); rintro e w31 ⟨rfl, hb⟩; refine ⟨_, rfl, ?_⟩; replace BK148 := zk BK148 hb; replace HB := zt w hb; (try clear hb); (try clear hb2); (try clear hk); (try clear hi); have hcz32_0 := zc0 BK148; have hcz32_1 := zc1 BK148; have hcz32_2 := zc2 BK148; have hfz32_0 := blk_frozen BK148.out 0; have hfz32_1 := blk_frozen BK148.out 1; have hfz32_2 := blk_frozen BK148.out 2) | ((with_reducible refine gate_callee (f := 9) rfl ?_); refine zc (some 16) Tryz.func9 #[.int .i64 a0_0, .bool a0_1] ?_; (with_reducible refine (spec_l3Template.calls a0_0 a0_1 t150 _ A7.out).mono ?_); rintro e w33 ⟨rfl, hb⟩; refine ⟨_, rfl, ?_⟩; replace BK148 := zk BK148 hb; replace HB := zt w hb; (try clear hb); (try clear hb2); (try clear hk); (try clear hi)) | ((with_reducible refine gate_callee (f := 20) rfl ?_); refine zc (some 17) Tryz.func20 #[.string t150] ?_; (with_reducible refine (spec_l3Hole.calls k t150 t151 t152 _ A8.out).mono ?_); rintro e w34 ⟨rfl, hb⟩; refine ⟨_, rfl, ?_⟩; replace BK148 := zk BK148 hb; replace HB := zt w hb; (try clear hb); (try clear hb2); (try clear hk); (try clear hi); have hcz35_0 := zc0 BK148; have hcz35_1 := zc1 BK148; have hcz35_2 := zc2 BK148; have hfz35_0 := blk_frozen BK148.out 0; have hfz35_1 := blk_frozen BK148.out 1; have hfz35_2 := blk_frozen BK148.out 2) | ((with_reducible refine gate_callee (f := 28) rfl ?_); refine zc (some 31) Tryz.func28 #[.int .i64 a0_2, .int .i64 0, .int .i64 255] ?_; (with_reducible refine (spec_l1In.calls a0_2 0 255 t155 _ A28.out).mono ?_); rintro e w' ⟨rfl, ⟨nd, rfl⟩⟩; refine ⟨_, rfl, ?_⟩))
     first | go_ret | ((try simp only [Exit.inBlock, Exit.then]); apply bodyPost_ret; (exact results_tmp rfl _ _ _); rfl)
     exact ⟨ze _, zb _⟩
    ·rw [if_neg c27] at H
     have c27b0 : (t152.toList == ([101, 56] : List UInt8)) = false := beq_eq_false_iff_ne.mpr c27
     have c27b1 : (t152.toList != ([101, 56] : List UInt8)) = true := bne_iff_ne.mpr c27
     obtain rfl := Option.some.inj H
     go_enter Tryz.func29, Tryz.ntmps29
     go_wp2_with (first | ((with_reducible refine gate_dst (N := 1) rfl ?_); refine zbx 1 #[.int .i64 a0_0, .bool a0_1, .int .i64 a0_2] 23 ?_; intro gb148 hg w36 hbox hb; have BK148 := Aside0.mk (hbox); have GW148 := zs w hg; have GE148 := GW148; replace HB := zt w hb; clear hb hbox hg; have hcz37_0 := zc0 BK148; have hcz37_1 := zc1 BK148; have hcz37_2 := zc2 BK148; have hfz37_0 := blk_frozen BK148.out 0; have hfz37_1 := blk_frozen BK148.out 1; have hfz37_2 := blk_frozen BK148.out 2) | ((with_reducible refine gate_callee (f := 53) rfl ?_); refine zc (some 9) Tryz.func53 #[.int .i64 a0_0, .bool a0_1] ?_; (with_reducible refine (spec_LengthOf.calls k a0_0 a0_1 t149 _ A2.out).mono ?_); rintro e w38 ⟨rfl, hb⟩; refine ⟨_, rfl, ?_⟩; replace BK148 := zk BK148 hb; replace HB := zt w hb; (try clear hb); (try clear hb2); (try clear hk); (try clear hi); have hcz39_0 := zc0 BK148; have hcz39_1 := zc1 BK148; have hcz39_2 := zc2 BK148; have hfz39_0 := blk_frozen BK148.out 0; have hfz39_1 := blk_frozen BK148.out 1; have hfz39_2 := blk_frozen BK148.out 2) | ((with_reducible refine gate_callee (f := 9) rfl ?_); refine zc (some 16) Tryz.func9 #[.int .i64 a0_0, .bool a0_1] ?_; (with_reducible refine (spec_l3Template.calls a0_0 a0_1 t150 _ A7.out).mono ?_); rintro e w40 ⟨rfl, hb⟩; refine ⟨_, rfl, ?_⟩; replace BK148 := zk BK148 hb; replace HB := zt w hb; (try clear hb); (try clear hb2); (try clear hk); (try clear hi)) | ((with_reducible refine gate_callee (f := 20) rfl ?_); refine zc (some 17) Tryz.func20 #[.string t150] ?_; (with_reducible refine (spec_l3Hole.calls k t150 t151 t152 _ A8.out).mono ?_); rintro e w41 ⟨rfl, hb⟩; refine ⟨_, rfl, ?_⟩; replace BK148 := zk BK148 hb; replace HB := zt w hb; (try clear hb); (try clear hb2); (try clear hk); (try clear hi); have hcz42_0 := zc0 BK148; have hcz42_1 := zc1 BK148; have hcz42_2 := zc2 BK148; have hfz42_0 := blk_frozen BK148.out 0; have hfz42_1 := blk_frozen BK148.out 1; have hfz42_2 := blk_frozen BK148.out 2))
     first | go_ret | ((try simp only [Exit.inBlock, Exit.then]); apply bodyPost_ret; (exact results_tmp rfl _ _ _); rfl)
     exact ⟨ze _, zb _⟩

/-! ### spec_SignedOf: function 31 -/
def spec_SignedOf.f (a0 : Int) : Option (Int) := (spec_l1In.f a0 0 255).bind fun t156 => (if t156 = true then (if a0 > 127 then (some (wrap64 (a0 - 256))) else (some a0)) else (some 0))
set_option maxHeartbeats 8000000 in
set_option maxRecDepth 100000 in
theorem spec_SignedOf.calls (a0 : Int) (r : Int) (w : World) (h : spec_SignedOf.f a0 = some r) :
 Calls Tryz.prog 31 #[.int .i64 a0] w fun e w' => e = .returned (.int .i64 r) ∧ Drawn0 w w' := by
 have H : ((spec_l1In.f a0 0 255).bind fun t156 => (if t156 = true then (if a0 > 127 then (some (wrap64 (a0 - 256))) else (some a0)) else (some 0))) = some r := h
 clear h
 obtain ⟨t156, A20, H⟩ := Option.bind_eq_some_iff.mp H
 have A2 := Aside0.mk A20
 clear A20
 by_cases c3 : t156 = true
 ·subst c3
  rw [if_pos rfl] at H
  by_cases c4 : a0 > 127
  ·rw [if_pos c4] at H
   have c4b0 : decide (127 < a0) = true := decide_eq_true c4
   clear c4
   obtain rfl := Option.some.inj H
   go_enter Tryz.func31, Tryz.ntmps31
   go_wp2_with (first | ((with_reducible refine gate_callee (f := 28) rfl ?_); refine zc (some 4) Tryz.func28 #[.int .i64 a0, .int .i64 0, .int .i64 255] ?_; (with_reducible refine (spec_l1In.calls a0 0 255 true _ A2.out).mono ?_); rintro e w' ⟨rfl, ⟨nd, rfl⟩⟩; refine ⟨_, rfl, ?_⟩))
   first | go_ret | ((try simp only [Exit.inBlock, Exit.then]); apply bodyPost_ret; (exact results_tmp rfl _ _ _); rfl)
   exact ⟨zE _, zd _⟩
  ·rw [if_neg c4] at H
   have c4b0 : decide (127 < a0) = false := decide_eq_false c4
   clear c4
   obtain rfl := Option.some.inj H
   go_enter Tryz.func31, Tryz.ntmps31
   go_wp2_with (first | ((with_reducible refine gate_callee (f := 28) rfl ?_); refine zc (some 4) Tryz.func28 #[.int .i64 a0, .int .i64 0, .int .i64 255] ?_; (with_reducible refine (spec_l1In.calls a0 0 255 true _ A2.out).mono ?_); rintro e w' ⟨rfl, ⟨nd, rfl⟩⟩; refine ⟨_, rfl, ?_⟩))
   first | go_ret | ((try simp only [Exit.inBlock, Exit.then]); apply bodyPost_ret; (exact results_tmp rfl _ _ _); rfl)
   exact ⟨zE _, zd _⟩
 ·replace c3 := Bool.eq_false_iff.mpr c3
  subst c3
  rw [if_neg (show ¬ (false = true) by decide)] at H
  obtain rfl := Option.some.inj H
  go_enter Tryz.func31, Tryz.ntmps31
  go_wp2_with (first | ((with_reducible refine gate_callee (f := 28) rfl ?_); refine zc (some 4) Tryz.func28 #[.int .i64 a0, .int .i64 0, .int .i64 255] ?_; (with_reducible refine (spec_l1In.calls a0 0 255 false _ A2.out).mono ?_); rintro e w' ⟨rfl, ⟨nd, rfl⟩⟩; refine ⟨_, rfl, ?_⟩))
  first | go_ret | ((try simp only [Exit.inBlock, Exit.then]); apply bodyPost_ret; (exact results_tmp rfl _ _ _); rfl)
  exact ⟨zE _, zd _⟩

end Go.Proofs.YtmiebnpmckjidaaGreatDoor.PFnExactReadInsText
