/- What the Go functions that the law FnExactDaa reaches compute, function by function, and that Go comes to just that. -/
import Derived.Test.YtnchhhafdkpmaaaPFnExactDaax0
namespace Go.Proofs.Ytnchhhafdkpmaaa.PFnExactDaa
open Go.RowKit Go.Proofs.YtnchhhafdkpmaaaW.PrintWords Go.Proofs.YtnchhhafdkpmaaaW.PrintLast Go.Proofs.YtnchhhafdkpmaaaW.PrintMore
attribute [local go_sem] max2_int min2_int max_two min_two max_three min_three max_four min_four   -- for this text's walks alone
set_option linter.unusedVariables false
set_option linter.unusedSimpArgs false

/-! ### spec_l1In: function 65 -/
def spec_l1In.f (a0 : Int) (a1 : Int) (a2 : Int) : Option (Bool) := if a0 ≥ a1 then (some (decide (a0 ≤ a2))) else (some false)
set_option maxHeartbeats 8000000 in
set_option maxRecDepth 100000 in
theorem spec_l1In.calls (a0 : Int) (a1 : Int) (a2 : Int) (r : Bool) (w : World) (h : spec_l1In.f a0 a1 a2 = some r) :
    Calls Try.prog 65 #[.int .i64 a0, .int .i64 a1, .int .i64 a2] w fun e w' => e = .returned (.bool r) ∧ Drawn0 w w' := by
  have H : (if a0 ≥ a1 then (some (decide (a0 ≤ a2))) else (some false)) = some r := h
  clear h
  by_cases c4 : a0 ≥ a1
  · rw [if_pos c4] at H
    have c4b0 : decide (a1 ≤ a0) = true := decide_eq_true c4
    clear c4
    obtain rfl := Option.some.inj H
    go_enter Try.func65, Try.ntmps65
    go_wp2
    go_ret
    exact ⟨by first | rfl | (simp; done) | (simp [*]; done), by repeat (first | exact Drawn0.refl _ | apply Drawn0.step)⟩
  · rw [if_neg c4] at H
    have c4b0 : decide (a1 ≤ a0) = false := decide_eq_false c4
    clear c4
    obtain rfl := Option.some.inj H
    go_enter Try.func65, Try.ntmps65
    go_wp2
    go_ret
    exact ⟨by first | rfl | (simp; done) | (simp [*]; done), by repeat (first | exact Drawn0.refl _ | apply Drawn0.step)⟩

/-! ### spec_l4Byte: function 49 -/
def spec_l4Byte.f (a0 : Int) : Option (Bool) := (spec_l1In.f a0 0 255).bind fun t101 => (some t101)
set_option maxHeartbeats 8000000 in
set_option maxRecDepth 100000 in
theorem spec_l4Byte.calls (a0 : Int) (r : Bool) (w : World) (h : spec_l4Byte.f a0 = some r) :
    Calls Try.prog 49 #[.int .i64 a0] w fun e w' => e = .returned (.bool r) ∧ Drawn0 w w' := by
  have H : ((spec_l1In.f a0 0 255).bind fun t101 => (some t101)) = some r := h
  clear h
  replace H := Option.bind_eq_some_iff.mp H
  obtain ⟨t101, A20, H⟩ := H
  replace H : (some t101) = some r := H
  have A2 := Aside0.mk A20
  clear A20
  obtain rfl := Option.some.inj H
  go_enter Try.func49, Try.ntmps49
  go_wp2_with (first | ((with_reducible refine gate_callee (f := 65) rfl ?_); refine goesL_ (some 4) rfl rfl Try.func65 (by kernel_rfl) rfl #[.int .i64 a0, .int .i64 0, .int .i64 255] rfl (by (try simp only [List.map_toArray, List.map_cons, List.map_nil]); first | done | rfl | (simp only [List.length_drop, List.length_take]; rfl)) ?_; (with_reducible refine (spec_l1In.calls a0 0 255 t101 _ A2.out).mono ?_); rintro e w' ⟨rfl, ⟨nd, rfl⟩⟩; refine ⟨_, rfl, ?_⟩))
  go_ret
  exact ⟨by first | rfl | (simp; done) | (simp [*]; done), by repeat (first | exact Drawn0.refl _ | apply Drawn0.step)⟩

/-! ### spec_l3One: function 89 -/
def spec_l3One.f (a0 : Bool) : Option (Int) := if a0 = true then (some 1) else (some 0)
set_option maxHeartbeats 8000000 in
set_option maxRecDepth 100000 in
theorem spec_l3One.calls (a0 : Bool) (r : Int) (w : World) (h : spec_l3One.f a0 = some r) :
    Calls Try.prog 89 #[.bool a0] w fun e w' => e = .returned (.int .i64 r) ∧ Drawn0 w w' := by
  have H : (if a0 = true then (some 1) else (some 0)) = some r := h
  clear h
  by_cases c2 : a0 = true
  · subst c2
    have H1 : (some 1) = some r := by rw [if_pos rfl] at H; exact H
    clear H
    have H := H1
    clear H1
    obtain rfl := Option.some.inj H
    go_enter Try.func89, Try.ntmps89
    go_wp2
    go_ret
    exact ⟨by first | rfl | (simp; done) | (simp [*]; done), by repeat (first | exact Drawn0.refl _ | apply Drawn0.step)⟩
  · replace c2 := Bool.eq_false_iff.mpr c2
    subst c2
    have H1 : (some 0) = some r := by rw [if_neg (show ¬ (false = true) by decide)] at H; exact H
    clear H
    have H := H1
    clear H1
    obtain rfl := Option.some.inj H
    go_enter Try.func89, Try.ntmps89
    go_wp2
    go_ret
    exact ⟨by first | rfl | (simp; done) | (simp [*]; done), by repeat (first | exact Drawn0.refl _ | apply Drawn0.step)⟩

/-! ### spec_l4Flags: function 51 -/
def spec_l4Flags.f (a0 : Bool) (a1 : Bool) (a2 : Bool) (a3 : Bool) : Option (Int) := (spec_l3One.f a0).bind fun t102 => ((spec_l3One.f a1).bind fun t103 => ((spec_l3One.f a2).bind fun t104 => ((spec_l3One.f a3).bind fun t105 => (some (wrap64 ((wrap64 ((wrap64 ((wrap64 (128 * t102)) + (wrap64 (64 * t103)))) + (wrap64 (32 * t104)))) + (wrap64 (16 * t105))))))))
set_option maxHeartbeats 8000000 in
set_option maxRecDepth 100000 in
theorem spec_l4Flags.calls (a0 : Bool) (a1 : Bool) (a2 : Bool) (a3 : Bool) (r : Int) (w : World) (h : spec_l4Flags.f a0 a1 a2 a3 = some r) :
    Calls Try.prog 51 #[.bool a0, .bool a1, .bool a2, .bool a3] w fun e w' => e = .returned (.int .i64 r) ∧ Drawn0 w w' := by
  have H : ((spec_l3One.f a0).bind fun t102 => ((spec_l3One.f a1).bind fun t103 => ((spec_l3One.f a2).bind fun t104 => ((spec_l3One.f a3).bind fun t105 => (some (wrap64 ((wrap64 ((wrap64 ((wrap64 (128 * t102)) + (wrap64 (64 * t103)))) + (wrap64 (32 * t104)))) + (wrap64 (16 * t105))))))))) = some r := h
  clear h
  replace H := Option.bind_eq_some_iff.mp H
  obtain ⟨t102, A50, H⟩ := H
  replace H : ((spec_l3One.f a1).bind fun t103 => ((spec_l3One.f a2).bind fun t104 => ((spec_l3One.f a3).bind fun t105 => (some (wrap64 ((wrap64 ((wrap64 ((wrap64 (128 * t102)) + (wrap64 (64 * t103)))) + (wrap64 (32 * t104)))) + (wrap64 (16 * t105)))))))) = some r := H
  have A5 := Aside0.mk A50
  clear A50
  replace H := Option.bind_eq_some_iff.mp H
  obtain ⟨t103, A60, H⟩ := H
  replace H : ((spec_l3One.f a2).bind fun t104 => ((spec_l3One.f a3).bind fun t105 => (some (wrap64 ((wrap64 ((wrap64 ((wrap64 (128 * t102)) + (wrap64 (64 * t103)))) + (wrap64 (32 * t104)))) + (wrap64 (16 * t105))))))) = some r := H
  have A6 := Aside0.mk A60
  clear A60
  replace H := Option.bind_eq_some_iff.mp H
  obtain ⟨t104, A70, H⟩ := H
  replace H : ((spec_l3One.f a3).bind fun t105 => (some (wrap64 ((wrap64 ((wrap64 ((wrap64 (128 * t102)) + (wrap64 (64 * t103)))) + (wrap64 (32 * t104)))) + (wrap64 (16 * t105)))))) = some r := H
  have A7 := Aside0.mk A70
  clear A70
  replace H := Option.bind_eq_some_iff.mp H
  obtain ⟨t105, A80, H⟩ := H
  replace H : (some (wrap64 ((wrap64 ((wrap64 ((wrap64 (128 * t102)) + (wrap64 (64 * t103)))) + (wrap64 (32 * t104)))) + (wrap64 (16 * t105))))) = some r := H
  have A8 := Aside0.mk A80
  clear A80
  obtain rfl := Option.some.inj H
  go_enter Try.func51, Try.ntmps51
  go_wp2_with (first | ((with_reducible refine gate_callee (f := 89) rfl ?_); refine goesL_ (some 10) rfl rfl Try.func89 (by kernel_rfl) rfl #[.bool a0] rfl (by (try simp only [List.map_toArray, List.map_cons, List.map_nil]); first | done | rfl | (simp only [List.length_drop, List.length_take]; rfl)) ?_; (with_reducible refine (spec_l3One.calls a0 t102 _ A5.out).mono ?_); rintro e w' ⟨rfl, ⟨nd, rfl⟩⟩; refine ⟨_, rfl, ?_⟩) | ((with_reducible refine gate_callee (f := 89) rfl ?_); refine goesL_ (some 13) rfl rfl Try.func89 (by kernel_rfl) rfl #[.bool a1] rfl (by (try simp only [List.map_toArray, List.map_cons, List.map_nil]); first | done | rfl | (simp only [List.length_drop, List.length_take]; rfl)) ?_; (with_reducible refine (spec_l3One.calls a1 t103 _ A6.out).mono ?_); rintro e w' ⟨rfl, ⟨nd, rfl⟩⟩; refine ⟨_, rfl, ?_⟩) | ((with_reducible refine gate_callee (f := 89) rfl ?_); refine goesL_ (some 17) rfl rfl Try.func89 (by kernel_rfl) rfl #[.bool a2] rfl (by (try simp only [List.map_toArray, List.map_cons, List.map_nil]); first | done | rfl | (simp only [List.length_drop, List.length_take]; rfl)) ?_; (with_reducible refine (spec_l3One.calls a2 t104 _ A7.out).mono ?_); rintro e w' ⟨rfl, ⟨nd, rfl⟩⟩; refine ⟨_, rfl, ?_⟩) | ((with_reducible refine gate_callee (f := 89) rfl ?_); refine goesL_ (some 21) rfl rfl Try.func89 (by kernel_rfl) rfl #[.bool a3] rfl (by (try simp only [List.map_toArray, List.map_cons, List.map_nil]); first | done | rfl | (simp only [List.length_drop, List.length_take]; rfl)) ?_; (with_reducible refine (spec_l3One.calls a3 t105 _ A8.out).mono ?_); rintro e w' ⟨rfl, ⟨nd, rfl⟩⟩; refine ⟨_, rfl, ?_⟩))
  go_ret
  exact ⟨by first | rfl | (simp; done) | (simp [*]; done), by repeat (first | exact Drawn0.refl _ | apply Drawn0.step)⟩

/-! ### spec_l4Carry: function 56 -/
def spec_l4Carry.f (a0 : Int) : Option (Int) := some (Int.tmod (wrap64 (Int.tdiv a0 16)) 2)
set_option maxHeartbeats 8000000 in
set_option maxRecDepth 100000 in
theorem spec_l4Carry.calls (a0 : Int) (r : Int) (w : World) (h : spec_l4Carry.f a0 = some r) :
    Calls Try.prog 56 #[.int .i64 a0] w fun e w' => e = .returned (.int .i64 r) ∧ Drawn0 w w' := by
  have H : (some (Int.tmod (wrap64 (Int.tdiv a0 16)) 2)) = some r := h
  clear h
  obtain rfl := Option.some.inj H
  go_enter Try.func56, Try.ntmps56
  go_wp2
  go_ret
  exact ⟨by first | rfl | (simp; done) | (simp [*]; done), by repeat (first | exact Drawn0.refl _ | apply Drawn0.step)⟩

/-! ### spec_Daa: function 17 -/
/-- What is added: by the halves, the sign, the carry, and what is above 9, above 153. -/
def spec_Daa.by_ (half minus carry b1 b2 : Bool) : Int := if minus = true then -((if half = true then 6 else 0) + (if carry = true then 96 else 0)) else (if (half || b1) = true then 6 else 0) + (if (carry || b2) = true then 96 else 0)
def spec_Daa.car (minus carry b2 : Bool) : Bool := carry || (!minus && b2)
def spec_Daa.fl (z n h c : Bool) : Int := 128 * z.toInt + 64 * n.toInt + 32 * h.toInt + 16 * c.toInt
theorem spec_Daa.flags (z n h c : Bool) : spec_l4Flags.f z n h c = some (spec_Daa.fl z n h c) := by
  cases z <;> cases n <;> cases h <;> cases c <;> decide +kernel
theorem spec_Daa.byte {a : Int} (h0 : 0 ≤ a) (h1 : a ≤ 255) : spec_l4Byte.f a = some true := by
  unfold spec_l4Byte.f spec_l1In.f
  rw [if_pos h0, decide_eq_true h1]
  rfl
theorem spec_Daa.nobyte {a : Int} (h : ¬ (0 ≤ a ∧ a ≤ 255)) : spec_l4Byte.f a = some false := by
  unfold spec_l4Byte.f spec_l1In.f
  by_cases h0 : a ≥ 0
  · rw [if_pos h0, decide_eq_false (fun h1 => h ⟨h0, h1⟩)]
    rfl
  · rw [if_neg h0]
    rfl
set_option maxHeartbeats 8000000 in
set_option maxRecDepth 100000 in
theorem spec_Daa.w11100 (a0 a1 t : Int) (w : World) (HA : Aside0 (spec_l4Byte.f a0 = some true)) (HF : Aside0 (spec_l4Byte.f a1 = some true)) (HC : Aside0 (spec_l4Carry.f a1 = some t)) (eh : ((Int.tmod (wrap64 (Int.tdiv a1 32)) 2) == 1) = true) (em : ((Int.tmod (wrap64 (Int.tdiv a1 64)) 2) == 1) = true) (ec : (t == 1) = true) :
    Calls Try.prog 17 #[.int .i64 a0, .int .i64 a1] w fun e w' => ∃ v : Int, e = .returned (.tuple #[.int .i64 (Int.tmod v 256), .int .i64 (spec_Daa.fl ((Int.tmod v 256) == 0) true false true)]) ∧ v = wrap64 (wrap64 (a0 + (-102)) + 256) ∧ Drawn0 w w' := by
  go_enter Try.func17, Try.ntmps17
  go_wp2_with (first | (go_at_call 49; (with_reducible refine (spec_l4Byte.calls a0 true _ HA.out).mono ?_); rintro e w' ⟨rfl, ⟨nd, rfl⟩⟩) | (go_at_call 49; (with_reducible refine (spec_l4Byte.calls a1 true _ HF.out).mono ?_); rintro e w' ⟨rfl, ⟨nd, rfl⟩⟩) | (go_at_call 56; (with_reducible refine (spec_l4Carry.calls a1 t _ HC.out).mono ?_); rintro e w' ⟨rfl, ⟨nd, rfl⟩⟩) | (go_at_call 51; (with_reducible refine (spec_l4Flags.calls _ _ _ _ _ _ (spec_Daa.flags _ _ _ _)).mono ?_); rintro e w' ⟨rfl, ⟨nd, rfl⟩⟩))
  go_ret2
  exact ⟨_, rfl, by first | rfl | simp, by repeat (first | exact Drawn0.refl _ | apply Drawn0.step)⟩
set_option maxHeartbeats 8000000 in
set_option maxRecDepth 100000 in
theorem spec_Daa.w11000 (a0 a1 t : Int) (w : World) (HA : Aside0 (spec_l4Byte.f a0 = some true)) (HF : Aside0 (spec_l4Byte.f a1 = some true)) (HC : Aside0 (spec_l4Carry.f a1 = some t)) (eh : ((Int.tmod (wrap64 (Int.tdiv a1 32)) 2) == 1) = true) (em : ((Int.tmod (wrap64 (Int.tdiv a1 64)) 2) == 1) = true) (ec : (t == 1) = false) :
    Calls Try.prog 17 #[.int .i64 a0, .int .i64 a1] w fun e w' => ∃ v : Int, e = .returned (.tuple #[.int .i64 (Int.tmod v 256), .int .i64 (spec_Daa.fl ((Int.tmod v 256) == 0) true false false)]) ∧ v = wrap64 (wrap64 (a0 + (-6)) + 256) ∧ Drawn0 w w' := by
  go_enter Try.func17, Try.ntmps17
  go_wp2_with (first | (go_at_call 49; (with_reducible refine (spec_l4Byte.calls a0 true _ HA.out).mono ?_); rintro e w' ⟨rfl, ⟨nd, rfl⟩⟩) | (go_at_call 49; (with_reducible refine (spec_l4Byte.calls a1 true _ HF.out).mono ?_); rintro e w' ⟨rfl, ⟨nd, rfl⟩⟩) | (go_at_call 56; (with_reducible refine (spec_l4Carry.calls a1 t _ HC.out).mono ?_); rintro e w' ⟨rfl, ⟨nd, rfl⟩⟩) | (go_at_call 51; (with_reducible refine (spec_l4Flags.calls _ _ _ _ _ _ (spec_Daa.flags _ _ _ _)).mono ?_); rintro e w' ⟨rfl, ⟨nd, rfl⟩⟩))
  go_ret2
  exact ⟨_, rfl, by first | rfl | simp, by repeat (first | exact Drawn0.refl _ | apply Drawn0.step)⟩
set_option maxHeartbeats 8000000 in
set_option maxRecDepth 100000 in
theorem spec_Daa.w10100 (a0 a1 t : Int) (w : World) (HA : Aside0 (spec_l4Byte.f a0 = some true)) (HF : Aside0 (spec_l4Byte.f a1 = some true)) (HC : Aside0 (spec_l4Carry.f a1 = some t)) (eh : ((Int.tmod (wrap64 (Int.tdiv a1 32)) 2) == 1) = true) (em : ((Int.tmod (wrap64 (Int.tdiv a1 64)) 2) == 1) = false) (ec : (t == 1) = true) :
    Calls Try.prog 17 #[.int .i64 a0, .int .i64 a1] w fun e w' => ∃ v : Int, e = .returned (.tuple #[.int .i64 (Int.tmod v 256), .int .i64 (spec_Daa.fl ((Int.tmod v 256) == 0) false false true)]) ∧ v = wrap64 (wrap64 (a0 + 102) + 256) ∧ Drawn0 w w' := by
  go_enter Try.func17, Try.ntmps17
  go_wp2_with (first | (go_at_call 49; (with_reducible refine (spec_l4Byte.calls a0 true _ HA.out).mono ?_); rintro e w' ⟨rfl, ⟨nd, rfl⟩⟩) | (go_at_call 49; (with_reducible refine (spec_l4Byte.calls a1 true _ HF.out).mono ?_); rintro e w' ⟨rfl, ⟨nd, rfl⟩⟩) | (go_at_call 56; (with_reducible refine (spec_l4Carry.calls a1 t _ HC.out).mono ?_); rintro e w' ⟨rfl, ⟨nd, rfl⟩⟩) | (go_at_call 51; (with_reducible refine (spec_l4Flags.calls _ _ _ _ _ _ (spec_Daa.flags _ _ _ _)).mono ?_); rintro e w' ⟨rfl, ⟨nd, rfl⟩⟩))
  go_ret2
  exact ⟨_, rfl, by first | rfl | simp, by repeat (first | exact Drawn0.refl _ | apply Drawn0.step)⟩
set_option maxHeartbeats 8000000 in
set_option maxRecDepth 100000 in
theorem spec_Daa.w10001 (a0 a1 t : Int) (w : World) (HA : Aside0 (spec_l4Byte.f a0 = some true)) (HF : Aside0 (spec_l4Byte.f a1 = some true)) (HC : Aside0 (spec_l4Carry.f a1 = some t)) (eh : ((Int.tmod (wrap64 (Int.tdiv a1 32)) 2) == 1) = true) (em : ((Int.tmod (wrap64 (Int.tdiv a1 64)) 2) == 1) = false) (ec : (t == 1) = false) (e2 : decide (153 < a0) = true) :
    Calls Try.prog 17 #[.int .i64 a0, .int .i64 a1] w fun e w' => ∃ v : Int, e = .returned (.tuple #[.int .i64 (Int.tmod v 256), .int .i64 (spec_Daa.fl ((Int.tmod v 256) == 0) false false true)]) ∧ v = wrap64 (wrap64 (a0 + 102) + 256) ∧ Drawn0 w w' := by
  go_enter Try.func17, Try.ntmps17
  go_wp2_with (first | (go_at_call 49; (with_reducible refine (spec_l4Byte.calls a0 true _ HA.out).mono ?_); rintro e w' ⟨rfl, ⟨nd, rfl⟩⟩) | (go_at_call 49; (with_reducible refine (spec_l4Byte.calls a1 true _ HF.out).mono ?_); rintro e w' ⟨rfl, ⟨nd, rfl⟩⟩) | (go_at_call 56; (with_reducible refine (spec_l4Carry.calls a1 t _ HC.out).mono ?_); rintro e w' ⟨rfl, ⟨nd, rfl⟩⟩) | (go_at_call 51; (with_reducible refine (spec_l4Flags.calls _ _ _ _ _ _ (spec_Daa.flags _ _ _ _)).mono ?_); rintro e w' ⟨rfl, ⟨nd, rfl⟩⟩))
  go_ret2
  exact ⟨_, rfl, by first | rfl | simp, by repeat (first | exact Drawn0.refl _ | apply Drawn0.step)⟩
set_option maxHeartbeats 8000000 in
set_option maxRecDepth 100000 in
theorem spec_Daa.w10000 (a0 a1 t : Int) (w : World) (HA : Aside0 (spec_l4Byte.f a0 = some true)) (HF : Aside0 (spec_l4Byte.f a1 = some true)) (HC : Aside0 (spec_l4Carry.f a1 = some t)) (eh : ((Int.tmod (wrap64 (Int.tdiv a1 32)) 2) == 1) = true) (em : ((Int.tmod (wrap64 (Int.tdiv a1 64)) 2) == 1) = false) (ec : (t == 1) = false) (e2 : decide (153 < a0) = false) :
    Calls Try.prog 17 #[.int .i64 a0, .int .i64 a1] w fun e w' => ∃ v : Int, e = .returned (.tuple #[.int .i64 (Int.tmod v 256), .int .i64 (spec_Daa.fl ((Int.tmod v 256) == 0) false false false)]) ∧ v = wrap64 (wrap64 (a0 + 6) + 256) ∧ Drawn0 w w' := by
  go_enter Try.func17, Try.ntmps17
  go_wp2_with (first | (go_at_call 49; (with_reducible refine (spec_l4Byte.calls a0 true _ HA.out).mono ?_); rintro e w' ⟨rfl, ⟨nd, rfl⟩⟩) | (go_at_call 49; (with_reducible refine (spec_l4Byte.calls a1 true _ HF.out).mono ?_); rintro e w' ⟨rfl, ⟨nd, rfl⟩⟩) | (go_at_call 56; (with_reducible refine (spec_l4Carry.calls a1 t _ HC.out).mono ?_); rintro e w' ⟨rfl, ⟨nd, rfl⟩⟩) | (go_at_call 51; (with_reducible refine (spec_l4Flags.calls _ _ _ _ _ _ (spec_Daa.flags _ _ _ _)).mono ?_); rintro e w' ⟨rfl, ⟨nd, rfl⟩⟩))
  go_ret2
  exact ⟨_, rfl, by first | rfl | simp, by repeat (first | exact Drawn0.refl _ | apply Drawn0.step)⟩
set_option maxHeartbeats 8000000 in
set_option maxRecDepth 100000 in
theorem spec_Daa.w01100 (a0 a1 t : Int) (w : World) (HA : Aside0 (spec_l4Byte.f a0 = some true)) (HF : Aside0 (spec_l4Byte.f a1 = some true)) (HC : Aside0 (spec_l4Carry.f a1 = some t)) (eh : ((Int.tmod (wrap64 (Int.tdiv a1 32)) 2) == 1) = false) (em : ((Int.tmod (wrap64 (Int.tdiv a1 64)) 2) == 1) = true) (ec : (t == 1) = true) :
    Calls Try.prog 17 #[.int .i64 a0, .int .i64 a1] w fun e w' => ∃ v : Int, e = .returned (.tuple #[.int .i64 (Int.tmod v 256), .int .i64 (spec_Daa.fl ((Int.tmod v 256) == 0) true false true)]) ∧ v = wrap64 (wrap64 (a0 + (-96)) + 256) ∧ Drawn0 w w' := by
  go_enter Try.func17, Try.ntmps17
  go_wp2_with (first | (go_at_call 49; (with_reducible refine (spec_l4Byte.calls a0 true _ HA.out).mono ?_); rintro e w' ⟨rfl, ⟨nd, rfl⟩⟩) | (go_at_call 49; (with_reducible refine (spec_l4Byte.calls a1 true _ HF.out).mono ?_); rintro e w' ⟨rfl, ⟨nd, rfl⟩⟩) | (go_at_call 56; (with_reducible refine (spec_l4Carry.calls a1 t _ HC.out).mono ?_); rintro e w' ⟨rfl, ⟨nd, rfl⟩⟩) | (go_at_call 51; (with_reducible refine (spec_l4Flags.calls _ _ _ _ _ _ (spec_Daa.flags _ _ _ _)).mono ?_); rintro e w' ⟨rfl, ⟨nd, rfl⟩⟩))
  go_ret2
  exact ⟨_, rfl, by first | rfl | simp, by repeat (first | exact Drawn0.refl _ | apply Drawn0.step)⟩
set_option maxHeartbeats 8000000 in
set_option maxRecDepth 100000 in
theorem spec_Daa.w01000 (a0 a1 t : Int) (w : World) (HA : Aside0 (spec_l4Byte.f a0 = some true)) (HF : Aside0 (spec_l4Byte.f a1 = some true)) (HC : Aside0 (spec_l4Carry.f a1 = some t)) (eh : ((Int.tmod (wrap64 (Int.tdiv a1 32)) 2) == 1) = false) (em : ((Int.tmod (wrap64 (Int.tdiv a1 64)) 2) == 1) = true) (ec : (t == 1) = false) :
    Calls Try.prog 17 #[.int .i64 a0, .int .i64 a1] w fun e w' => ∃ v : Int, e = .returned (.tuple #[.int .i64 (Int.tmod v 256), .int .i64 (spec_Daa.fl ((Int.tmod v 256) == 0) true false false)]) ∧ v = wrap64 (wrap64 (a0 + 0) + 256) ∧ Drawn0 w w' := by
  go_enter Try.func17, Try.ntmps17
  go_wp2_with (first | (go_at_call 49; (with_reducible refine (spec_l4Byte.calls a0 true _ HA.out).mono ?_); rintro e w' ⟨rfl, ⟨nd, rfl⟩⟩) | (go_at_call 49; (with_reducible refine (spec_l4Byte.calls a1 true _ HF.out).mono ?_); rintro e w' ⟨rfl, ⟨nd, rfl⟩⟩) | (go_at_call 56; (with_reducible refine (spec_l4Carry.calls a1 t _ HC.out).mono ?_); rintro e w' ⟨rfl, ⟨nd, rfl⟩⟩) | (go_at_call 51; (with_reducible refine (spec_l4Flags.calls _ _ _ _ _ _ (spec_Daa.flags _ _ _ _)).mono ?_); rintro e w' ⟨rfl, ⟨nd, rfl⟩⟩))
  go_ret2
  exact ⟨_, rfl, by first | rfl | simp, by repeat (first | exact Drawn0.refl _ | apply Drawn0.step)⟩
set_option maxHeartbeats 8000000 in
set_option maxRecDepth 100000 in
theorem spec_Daa.w00110 (a0 a1 t : Int) (w : World) (HA : Aside0 (spec_l4Byte.f a0 = some true)) (HF : Aside0 (spec_l4Byte.f a1 = some true)) (HC : Aside0 (spec_l4Carry.f a1 = some t)) (eh : ((Int.tmod (wrap64 (Int.tdiv a1 32)) 2) == 1) = false) (em : ((Int.tmod (wrap64 (Int.tdiv a1 64)) 2) == 1) = false) (ec : (t == 1) = true) (e1 : decide (9 < Int.tmod a0 16) = true) :
    Calls Try.prog 17 #[.int .i64 a0, .int .i64 a1] w fun e w' => ∃ v : Int, e = .returned (.tuple #[.int .i64 (Int.tmod v 256), .int .i64 (spec_Daa.fl ((Int.tmod v 256) == 0) false false true)]) ∧ v = wrap64 (wrap64 (a0 + 102) + 256) ∧ Drawn0 w w' := by
  go_enter Try.func17, Try.ntmps17
  go_wp2_with (first | (go_at_call 49; (with_reducible refine (spec_l4Byte.calls a0 true _ HA.out).mono ?_); rintro e w' ⟨rfl, ⟨nd, rfl⟩⟩) | (go_at_call 49; (with_reducible refine (spec_l4Byte.calls a1 true _ HF.out).mono ?_); rintro e w' ⟨rfl, ⟨nd, rfl⟩⟩) | (go_at_call 56; (with_reducible refine (spec_l4Carry.calls a1 t _ HC.out).mono ?_); rintro e w' ⟨rfl, ⟨nd, rfl⟩⟩) | (go_at_call 51; (with_reducible refine (spec_l4Flags.calls _ _ _ _ _ _ (spec_Daa.flags _ _ _ _)).mono ?_); rintro e w' ⟨rfl, ⟨nd, rfl⟩⟩))
  go_ret2
  exact ⟨_, rfl, by first | rfl | simp, by repeat (first | exact Drawn0.refl _ | apply Drawn0.step)⟩
set_option maxHeartbeats 8000000 in
set_option maxRecDepth 100000 in
theorem spec_Daa.w00100 (a0 a1 t : Int) (w : World) (HA : Aside0 (spec_l4Byte.f a0 = some true)) (HF : Aside0 (spec_l4Byte.f a1 = some true)) (HC : Aside0 (spec_l4Carry.f a1 = some t)) (eh : ((Int.tmod (wrap64 (Int.tdiv a1 32)) 2) == 1) = false) (em : ((Int.tmod (wrap64 (Int.tdiv a1 64)) 2) == 1) = false) (ec : (t == 1) = true) (e1 : decide (9 < Int.tmod a0 16) = false) :
    Calls Try.prog 17 #[.int .i64 a0, .int .i64 a1] w fun e w' => ∃ v : Int, e = .returned (.tuple #[.int .i64 (Int.tmod v 256), .int .i64 (spec_Daa.fl ((Int.tmod v 256) == 0) false false true)]) ∧ v = wrap64 (wrap64 (a0 + 96) + 256) ∧ Drawn0 w w' := by
  go_enter Try.func17, Try.ntmps17
  go_wp2_with (first | (go_at_call 49; (with_reducible refine (spec_l4Byte.calls a0 true _ HA.out).mono ?_); rintro e w' ⟨rfl, ⟨nd, rfl⟩⟩) | (go_at_call 49; (with_reducible refine (spec_l4Byte.calls a1 true _ HF.out).mono ?_); rintro e w' ⟨rfl, ⟨nd, rfl⟩⟩) | (go_at_call 56; (with_reducible refine (spec_l4Carry.calls a1 t _ HC.out).mono ?_); rintro e w' ⟨rfl, ⟨nd, rfl⟩⟩) | (go_at_call 51; (with_reducible refine (spec_l4Flags.calls _ _ _ _ _ _ (spec_Daa.flags _ _ _ _)).mono ?_); rintro e w' ⟨rfl, ⟨nd, rfl⟩⟩))
  go_ret2
  exact ⟨_, rfl, by first | rfl | simp, by repeat (first | exact Drawn0.refl _ | apply Drawn0.step)⟩
set_option maxHeartbeats 8000000 in
set_option maxRecDepth 100000 in
theorem spec_Daa.w00011 (a0 a1 t : Int) (w : World) (HA : Aside0 (spec_l4Byte.f a0 = some true)) (HF : Aside0 (spec_l4Byte.f a1 = some true)) (HC : Aside0 (spec_l4Carry.f a1 = some t)) (eh : ((Int.tmod (wrap64 (Int.tdiv a1 32)) 2) == 1) = false) (em : ((Int.tmod (wrap64 (Int.tdiv a1 64)) 2) == 1) = false) (ec : (t == 1) = false) (e1 : decide (9 < Int.tmod a0 16) = true) (e2 : decide (153 < a0) = true) :
    Calls Try.prog 17 #[.int .i64 a0, .int .i64 a1] w fun e w' => ∃ v : Int, e = .returned (.tuple #[.int .i64 (Int.tmod v 256), .int .i64 (spec_Daa.fl ((Int.tmod v 256) == 0) false false true)]) ∧ v = wrap64 (wrap64 (a0 + 102) + 256) ∧ Drawn0 w w' := by
  go_enter Try.func17, Try.ntmps17
  go_wp2_with (first | (go_at_call 49; (with_reducible refine (spec_l4Byte.calls a0 true _ HA.out).mono ?_); rintro e w' ⟨rfl, ⟨nd, rfl⟩⟩) | (go_at_call 49; (with_reducible refine (spec_l4Byte.calls a1 true _ HF.out).mono ?_); rintro e w' ⟨rfl, ⟨nd, rfl⟩⟩) | (go_at_call 56; (with_reducible refine (spec_l4Carry.calls a1 t _ HC.out).mono ?_); rintro e w' ⟨rfl, ⟨nd, rfl⟩⟩) | (go_at_call 51; (with_reducible refine (spec_l4Flags.calls _ _ _ _ _ _ (spec_Daa.flags _ _ _ _)).mono ?_); rintro e w' ⟨rfl, ⟨nd, rfl⟩⟩))
  go_ret2
  exact ⟨_, rfl, by first | rfl | simp, by repeat (first | exact Drawn0.refl _ | apply Drawn0.step)⟩
set_option maxHeartbeats 8000000 in
set_option maxRecDepth 100000 in
theorem spec_Daa.w00010 (a0 a1 t : Int) (w : World) (HA : Aside0 (spec_l4Byte.f a0 = some true)) (HF : Aside0 (spec_l4Byte.f a1 = some true)) (HC : Aside0 (spec_l4Carry.f a1 = some t)) (eh : ((Int.tmod (wrap64 (Int.tdiv a1 32)) 2) == 1) = false) (em : ((Int.tmod (wrap64 (Int.tdiv a1 64)) 2) == 1) = false) (ec : (t == 1) = false) (e1 : decide (9 < Int.tmod a0 16) = true) (e2 : decide (153 < a0) = false) :
    Calls Try.prog 17 #[.int .i64 a0, .int .i64 a1] w fun e w' => ∃ v : Int, e = .returned (.tuple #[.int .i64 (Int.tmod v 256), .int .i64 (spec_Daa.fl ((Int.tmod v 256) == 0) false false false)]) ∧ v = wrap64 (wrap64 (a0 + 6) + 256) ∧ Drawn0 w w' := by
  go_enter Try.func17, Try.ntmps17
  go_wp2_with (first | (go_at_call 49; (with_reducible refine (spec_l4Byte.calls a0 true _ HA.out).mono ?_); rintro e w' ⟨rfl, ⟨nd, rfl⟩⟩) | (go_at_call 49; (with_reducible refine (spec_l4Byte.calls a1 true _ HF.out).mono ?_); rintro e w' ⟨rfl, ⟨nd, rfl⟩⟩) | (go_at_call 56; (with_reducible refine (spec_l4Carry.calls a1 t _ HC.out).mono ?_); rintro e w' ⟨rfl, ⟨nd, rfl⟩⟩) | (go_at_call 51; (with_reducible refine (spec_l4Flags.calls _ _ _ _ _ _ (spec_Daa.flags _ _ _ _)).mono ?_); rintro e w' ⟨rfl, ⟨nd, rfl⟩⟩))
  go_ret2
  exact ⟨_, rfl, by first | rfl | simp, by repeat (first | exact Drawn0.refl _ | apply Drawn0.step)⟩
set_option maxHeartbeats 8000000 in
set_option maxRecDepth 100000 in
theorem spec_Daa.w00001 (a0 a1 t : Int) (w : World) (HA : Aside0 (spec_l4Byte.f a0 = some true)) (HF : Aside0 (spec_l4Byte.f a1 = some true)) (HC : Aside0 (spec_l4Carry.f a1 = some t)) (eh : ((Int.tmod (wrap64 (Int.tdiv a1 32)) 2) == 1) = false) (em : ((Int.tmod (wrap64 (Int.tdiv a1 64)) 2) == 1) = false) (ec : (t == 1) = false) (e1 : decide (9 < Int.tmod a0 16) = false) (e2 : decide (153 < a0) = true) :
    Calls Try.prog 17 #[.int .i64 a0, .int .i64 a1] w fun e w' => ∃ v : Int, e = .returned (.tuple #[.int .i64 (Int.tmod v 256), .int .i64 (spec_Daa.fl ((Int.tmod v 256) == 0) false false true)]) ∧ v = wrap64 (wrap64 (a0 + 96) + 256) ∧ Drawn0 w w' := by
  go_enter Try.func17, Try.ntmps17
  go_wp2_with (first | (go_at_call 49; (with_reducible refine (spec_l4Byte.calls a0 true _ HA.out).mono ?_); rintro e w' ⟨rfl, ⟨nd, rfl⟩⟩) | (go_at_call 49; (with_reducible refine (spec_l4Byte.calls a1 true _ HF.out).mono ?_); rintro e w' ⟨rfl, ⟨nd, rfl⟩⟩) | (go_at_call 56; (with_reducible refine (spec_l4Carry.calls a1 t _ HC.out).mono ?_); rintro e w' ⟨rfl, ⟨nd, rfl⟩⟩) | (go_at_call 51; (with_reducible refine (spec_l4Flags.calls _ _ _ _ _ _ (spec_Daa.flags _ _ _ _)).mono ?_); rintro e w' ⟨rfl, ⟨nd, rfl⟩⟩))
  go_ret2
  exact ⟨_, rfl, by first | rfl | simp, by repeat (first | exact Drawn0.refl _ | apply Drawn0.step)⟩
set_option maxHeartbeats 8000000 in
set_option maxRecDepth 100000 in
theorem spec_Daa.w00000 (a0 a1 t : Int) (w : World) (HA : Aside0 (spec_l4Byte.f a0 = some true)) (HF : Aside0 (spec_l4Byte.f a1 = some true)) (HC : Aside0 (spec_l4Carry.f a1 = some t)) (eh : ((Int.tmod (wrap64 (Int.tdiv a1 32)) 2) == 1) = false) (em : ((Int.tmod (wrap64 (Int.tdiv a1 64)) 2) == 1) = false) (ec : (t == 1) = false) (e1 : decide (9 < Int.tmod a0 16) = false) (e2 : decide (153 < a0) = false) :
    Calls Try.prog 17 #[.int .i64 a0, .int .i64 a1] w fun e w' => ∃ v : Int, e = .returned (.tuple #[.int .i64 (Int.tmod v 256), .int .i64 (spec_Daa.fl ((Int.tmod v 256) == 0) false false false)]) ∧ v = wrap64 (wrap64 (a0 + 0) + 256) ∧ Drawn0 w w' := by
  go_enter Try.func17, Try.ntmps17
  go_wp2_with (first | (go_at_call 49; (with_reducible refine (spec_l4Byte.calls a0 true _ HA.out).mono ?_); rintro e w' ⟨rfl, ⟨nd, rfl⟩⟩) | (go_at_call 49; (with_reducible refine (spec_l4Byte.calls a1 true _ HF.out).mono ?_); rintro e w' ⟨rfl, ⟨nd, rfl⟩⟩) | (go_at_call 56; (with_reducible refine (spec_l4Carry.calls a1 t _ HC.out).mono ?_); rintro e w' ⟨rfl, ⟨nd, rfl⟩⟩) | (go_at_call 51; (with_reducible refine (spec_l4Flags.calls _ _ _ _ _ _ (spec_Daa.flags _ _ _ _)).mono ?_); rintro e w' ⟨rfl, ⟨nd, rfl⟩⟩))
  go_ret2
  exact ⟨_, rfl, by first | rfl | simp, by repeat (first | exact Drawn0.refl _ | apply Drawn0.step)⟩
set_option maxHeartbeats 8000000 in
set_option maxRecDepth 100000 in
theorem spec_Daa.n0 (a0 a1 : Int) (w : World) (HA : Aside0 (spec_l4Byte.f a0 = some false)) :
    Calls Try.prog 17 #[.int .i64 a0, .int .i64 a1] w fun e w' => e = .returned (.tuple #[.int .i64 0, .int .i64 0]) ∧ Drawn0 w w' := by
  go_enter Try.func17, Try.ntmps17
  go_wp2_with (first | (go_at_call 49; (with_reducible refine (spec_l4Byte.calls a0 false _ HA.out).mono ?_); rintro e w' ⟨rfl, ⟨nd, rfl⟩⟩))
  go_ret2
  exact ⟨rfl, by repeat (first | exact Drawn0.refl _ | apply Drawn0.step)⟩
set_option maxHeartbeats 8000000 in
set_option maxRecDepth 100000 in
theorem spec_Daa.n1 (a0 a1 : Int) (w : World) (HA : Aside0 (spec_l4Byte.f a0 = some true)) (HF : Aside0 (spec_l4Byte.f a1 = some false)) :
    Calls Try.prog 17 #[.int .i64 a0, .int .i64 a1] w fun e w' => e = .returned (.tuple #[.int .i64 0, .int .i64 0]) ∧ Drawn0 w w' := by
  go_enter Try.func17, Try.ntmps17
  go_wp2_with (first | (go_at_call 49; (with_reducible refine (spec_l4Byte.calls a0 true _ HA.out).mono ?_); rintro e w' ⟨rfl, ⟨nd, rfl⟩⟩) | (go_at_call 49; (with_reducible refine (spec_l4Byte.calls a1 false _ HF.out).mono ?_); rintro e w' ⟨rfl, ⟨nd, rfl⟩⟩))
  go_ret2
  exact ⟨rfl, by repeat (first | exact Drawn0.refl _ | apply Drawn0.step)⟩
def spec_Daa.out (h m c : Bool) (a0 : Int) : Int × Int := (Int.tmod (wrap64 (wrap64 (a0 + spec_Daa.by_ h m c (decide (9 < Int.tmod a0 16)) (decide (153 < a0))) + 256)) 256, spec_Daa.fl ((Int.tmod (wrap64 (wrap64 (a0 + spec_Daa.by_ h m c (decide (9 < Int.tmod a0 16)) (decide (153 < a0))) + 256)) 256) == 0) m false (spec_Daa.car m c (decide (153 < a0))))
def spec_Daa.f (a0 : Int) (a1 : Int) : Option (Int × Int) := if 0 ≤ a0 ∧ a0 ≤ 255 then (if 0 ≤ a1 ∧ a1 ≤ 255 then some (spec_Daa.out ((Int.tmod (wrap64 (Int.tdiv a1 32)) 2) == 1) ((Int.tmod (wrap64 (Int.tdiv a1 64)) 2) == 1) ((Int.tmod (wrap64 (Int.tdiv a1 16)) 2) == 1) a0) else some (0, 0)) else some (0, 0)
theorem spec_Daa.calls (a0 : Int) (a1 : Int) (r1 : Int) (r2 : Int) (w : World) (h : spec_Daa.f a0 a1 = some (r1, r2)) :
    Calls Try.prog 17 #[.int .i64 a0, .int .i64 a1] w fun e w' => e = .returned (.tuple #[.int .i64 r1, .int .i64 r2]) ∧ Drawn0 w w' := by
  unfold spec_Daa.f at h
  by_cases h0 : 0 ≤ a0 ∧ a0 ≤ 255
  · rw [if_pos h0] at h
    by_cases h1 : 0 ≤ a1 ∧ a1 ≤ 255
    · rw [if_pos h1] at h
      have HA := Aside0.mk (spec_Daa.byte h0.1 h0.2)
      have HF := Aside0.mk (spec_Daa.byte h1.1 h1.2)
      have HC : Aside0 (spec_l4Carry.f a1 = some (Int.tmod (wrap64 (Int.tdiv a1 16)) 2)) := Aside0.mk rfl
      replace h := Option.some.inj h
      generalize Int.tmod (wrap64 (Int.tdiv a1 16)) 2 = t at h HC
      rcases eh : ((Int.tmod (wrap64 (Int.tdiv a1 32)) 2) == 1) with _ | _ <;> rcases em : ((Int.tmod (wrap64 (Int.tdiv a1 64)) 2) == 1) with _ | _ <;> rcases ec : (t == 1) with _ | _ <;> rw [eh, em, ec] at h <;> unfold spec_Daa.out at h
      · rcases e1 : decide (9 < Int.tmod a0 16) with _ | _ <;> rcases e2 : decide (153 < a0) with _ | _ <;> rw [e1, e2] at h
        · refine (spec_Daa.w00000 a0 a1 t w HA HF HC eh em ec e1 e2).mono ?_
          rintro e w' ⟨v, rfl, hv, hd⟩
          obtain ⟨i, j⟩ := Prod.mk.inj h
          refine ⟨?_, hd⟩
          rw [hv, ← i, ← j]
          rfl
        · refine (spec_Daa.w00001 a0 a1 t w HA HF HC eh em ec e1 e2).mono ?_
          rintro e w' ⟨v, rfl, hv, hd⟩
          obtain ⟨i, j⟩ := Prod.mk.inj h
          refine ⟨?_, hd⟩
          rw [hv, ← i, ← j]
          rfl
        · refine (spec_Daa.w00010 a0 a1 t w HA HF HC eh em ec e1 e2).mono ?_
          rintro e w' ⟨v, rfl, hv, hd⟩
          obtain ⟨i, j⟩ := Prod.mk.inj h
          refine ⟨?_, hd⟩
          rw [hv, ← i, ← j]
          rfl
        · refine (spec_Daa.w00011 a0 a1 t w HA HF HC eh em ec e1 e2).mono ?_
          rintro e w' ⟨v, rfl, hv, hd⟩
          obtain ⟨i, j⟩ := Prod.mk.inj h
          refine ⟨?_, hd⟩
          rw [hv, ← i, ← j]
          rfl
      · rcases e1 : decide (9 < Int.tmod a0 16) with _ | _ <;> rw [e1] at h
        · refine (spec_Daa.w00100 a0 a1 t w HA HF HC eh em ec e1).mono ?_
          rintro e w' ⟨v, rfl, hv, hd⟩
          obtain ⟨i, j⟩ := Prod.mk.inj h
          refine ⟨?_, hd⟩
          rw [hv, ← i, ← j]
          rfl
        · refine (spec_Daa.w00110 a0 a1 t w HA HF HC eh em ec e1).mono ?_
          rintro e w' ⟨v, rfl, hv, hd⟩
          obtain ⟨i, j⟩ := Prod.mk.inj h
          refine ⟨?_, hd⟩
          rw [hv, ← i, ← j]
          rfl
      · skip
        · refine (spec_Daa.w01000 a0 a1 t w HA HF HC eh em ec).mono ?_
          rintro e w' ⟨v, rfl, hv, hd⟩
          obtain ⟨i, j⟩ := Prod.mk.inj h
          refine ⟨?_, hd⟩
          rw [hv, ← i, ← j]
          rfl
      · skip
        · refine (spec_Daa.w01100 a0 a1 t w HA HF HC eh em ec).mono ?_
          rintro e w' ⟨v, rfl, hv, hd⟩
          obtain ⟨i, j⟩ := Prod.mk.inj h
          refine ⟨?_, hd⟩
          rw [hv, ← i, ← j]
          rfl
      · rcases e2 : decide (153 < a0) with _ | _ <;> rw [e2] at h
        · refine (spec_Daa.w10000 a0 a1 t w HA HF HC eh em ec e2).mono ?_
          rintro e w' ⟨v, rfl, hv, hd⟩
          obtain ⟨i, j⟩ := Prod.mk.inj h
          refine ⟨?_, hd⟩
          rw [hv, ← i, ← j]
          rfl
        · refine (spec_Daa.w10001 a0 a1 t w HA HF HC eh em ec e2).mono ?_
          rintro e w' ⟨v, rfl, hv, hd⟩
          obtain ⟨i, j⟩ := Prod.mk.inj h
          refine ⟨?_, hd⟩
          rw [hv, ← i, ← j]
          rfl
      · skip
        · refine (spec_Daa.w10100 a0 a1 t w HA HF HC eh em ec).mono ?_
          rintro e w' ⟨v, rfl, hv, hd⟩
          obtain ⟨i, j⟩ := Prod.mk.inj h
          refine ⟨?_, hd⟩
          rw [hv, ← i, ← j]
          rfl
      · skip
        · refine (spec_Daa.w11000 a0 a1 t w HA HF HC eh em ec).mono ?_
          rintro e w' ⟨v, rfl, hv, hd⟩
          obtain ⟨i, j⟩ := Prod.mk.inj h
          refine ⟨?_, hd⟩
          rw [hv, ← i, ← j]
          rfl
      · skip
        · refine (spec_Daa.w11100 a0 a1 t w HA HF HC eh em ec).mono ?_
          rintro e w' ⟨v, rfl, hv, hd⟩
          obtain ⟨i, j⟩ := Prod.mk.inj h
          refine ⟨?_, hd⟩
          rw [hv, ← i, ← j]
          rfl
    · rw [if_neg h1] at h
      obtain ⟨i, j⟩ := Prod.mk.inj (Option.some.inj h)
      rw [← i, ← j]
      exact spec_Daa.n1 a0 a1 w (Aside0.mk (spec_Daa.byte h0.1 h0.2)) (Aside0.mk (spec_Daa.nobyte h1))
  · rw [if_neg h0] at h
    obtain ⟨i, j⟩ := Prod.mk.inj (Option.some.inj h)
    rw [← i, ← j]
    exact spec_Daa.n0 a0 a1 w (Aside0.mk (spec_Daa.nobyte h0))

/-! ### impl_within: function 67 -/
def impl_within.f (a0 : Int) (a1 : Int) (a2 : Int) : Option (Bool) := if a0 ≥ a1 then (some (decide (a0 ≤ a2))) else (some false)
set_option maxHeartbeats 8000000 in
set_option maxRecDepth 100000 in
theorem impl_within.calls (a0 : Int) (a1 : Int) (a2 : Int) (r : Bool) (w : World) (h : impl_within.f a0 a1 a2 = some r) :
    Calls Try.prog 67 #[.int .i64 a0, .int .i64 a1, .int .i64 a2] w fun e w' => e = .returned (.bool r) ∧ Drawn0 w w' := by
  have H : (if a0 ≥ a1 then (some (decide (a0 ≤ a2))) else (some false)) = some r := h
  clear h
  by_cases c4 : a0 ≥ a1
  · rw [if_pos c4] at H
    have c4b0 : decide (a1 ≤ a0) = true := decide_eq_true c4
    clear c4
    obtain rfl := Option.some.inj H
    go_enter Try.func67, Try.ntmps67
    go_wp2
    go_ret
    exact ⟨by first | rfl | (simp; done) | (simp [*]; done), by repeat (first | exact Drawn0.refl _ | apply Drawn0.step)⟩
  · rw [if_neg c4] at H
    have c4b0 : decide (a1 ≤ a0) = false := decide_eq_false c4
    clear c4
    obtain rfl := Option.some.inj H
    go_enter Try.func67, Try.ntmps67
    go_wp2
    go_ret
    exact ⟨by first | rfl | (simp; done) | (simp [*]; done), by repeat (first | exact Drawn0.refl _ | apply Drawn0.step)⟩

/-! ### impl_isByte: function 53 -/
def impl_isByte.f (a0 : Int) : Option (Bool) := (impl_within.f a0 0 255).bind fun t106 => (some t106)
set_option maxHeartbeats 8000000 in
set_option maxRecDepth 100000 in
theorem impl_isByte.calls (a0 : Int) (r : Bool) (w : World) (h : impl_isByte.f a0 = some r) :
    Calls Try.prog 53 #[.int .i64 a0] w fun e w' => e = .returned (.bool r) ∧ Drawn0 w w' := by
  have H : ((impl_within.f a0 0 255).bind fun t106 => (some t106)) = some r := h
  clear h
  replace H := Option.bind_eq_some_iff.mp H
  obtain ⟨t106, A20, H⟩ := H
  replace H : (some t106) = some r := H
  have A2 := Aside0.mk A20
  clear A20
  obtain rfl := Option.some.inj H
  go_enter Try.func53, Try.ntmps53
  go_wp2_with (first | ((with_reducible refine gate_callee (f := 67) rfl ?_); refine goesL_ (some 4) rfl rfl Try.func67 (by kernel_rfl) rfl #[.int .i64 a0, .int .i64 0, .int .i64 255] rfl (by (try simp only [List.map_toArray, List.map_cons, List.map_nil]); first | done | rfl | (simp only [List.length_drop, List.length_take]; rfl)) ?_; (with_reducible refine (impl_within.calls a0 0 255 t106 _ A2.out).mono ?_); rintro e w' ⟨rfl, ⟨nd, rfl⟩⟩; refine ⟨_, rfl, ?_⟩))
  go_ret
  exact ⟨by first | rfl | (simp; done) | (simp [*]; done), by repeat (first | exact Drawn0.refl _ | apply Drawn0.step)⟩

/-! ### impl_flags: function 55 -/
mutual
def impl_flags.j0 : Nat → Bool → Bool → Bool → Int → Option (Int)
  | 0, _, _, _, _ => none
  | k + 1, x1, x2, x3, x9 => if x1 = true then (impl_flags.j1 k x2 x3 (Go.bits .or .i64 x9 64)) else (impl_flags.j1 k x2 x3 x9)
def impl_flags.j1 : Nat → Bool → Bool → Int → Option (Int)
  | 0, _, _, _ => none
  | k + 1, x2, x3, x9 => if x2 = true then (if x3 = true then (some (Go.bits .or .i64 (Go.bits .or .i64 x9 32) 16)) else (some (Go.bits .or .i64 x9 32))) else (if x3 = true then (some (Go.bits .or .i64 x9 16)) else (some x9))
end
def impl_flags.f (k : Nat) (a0 : Bool) (a1 : Bool) (a2 : Bool) (a3 : Bool) : Option (Int) := if a0 = true then (impl_flags.j0 k a1 a2 a3 (Go.bits .or .i64 0 128)) else (impl_flags.j0 k a1 a2 a3 0)
theorem impl_flags.mono_l : ∀ k, (∀ y0 y1 y2 y3, LeO (impl_flags.j0 k y0 y1 y2 y3) (impl_flags.j0 (k + 1) y0 y1 y2 y3)) ∧ (∀ y0 y1 y2, LeO (impl_flags.j1 k y0 y1 y2) (impl_flags.j1 (k + 1) y0 y1 y2))
  | 0 => ⟨fun _ _ _ _ r h => by simp [impl_flags.j0] at h, fun _ _ _ r h => by simp [impl_flags.j1] at h⟩
  | k + 1 => by
    obtain ⟨ih0, ih1⟩ := impl_flags.mono_l k
    refine ⟨?_, ?_⟩
    · intro y0 y1 y2 y3
      unfold impl_flags.j0
      repeat' first
      | (with_reducible exact ih0 _ _ _ _)
      | (with_reducible exact ih1 _ _ _)
      | (with_reducible exact LeO.refl _)
      | (with_reducible exact LeO.none _)
      | (with_reducible refine LeO.ite ?_ ?_)
      | (with_reducible refine LeO.bind ?_ (fun _ => ?_))
      | exact ih0 _ _ _ _
      | exact ih1 _ _ _
      | exact LeO.none _
      | refine LeO.ite ?_ ?_
      | refine LeO.bind ?_ (fun _ => ?_)
    · intro y0 y1 y2
      unfold impl_flags.j1
      repeat' first
      | (with_reducible exact ih0 _ _ _ _)
      | (with_reducible exact ih1 _ _ _)
      | (with_reducible exact LeO.refl _)
      | (with_reducible exact LeO.none _)
      | (with_reducible refine LeO.ite ?_ ?_)
      | (with_reducible refine LeO.bind ?_ (fun _ => ?_))
      | exact ih0 _ _ _ _
      | exact ih1 _ _ _
      | exact LeO.none _
      | refine LeO.ite ?_ ?_
      | refine LeO.bind ?_ (fun _ => ?_)
theorem impl_flags.mono : ∀ a0 a1 a2 a3 k, LeO (impl_flags.f k a0 a1 a2 a3) (impl_flags.f (k + 1) a0 a1 a2 a3) := by
  intro a0 a1 a2 a3 k
  obtain ⟨ih0, ih1⟩ := impl_flags.mono_l k
  unfold impl_flags.f
  repeat' first
      | (with_reducible exact ih0 _ _ _ _)
      | (with_reducible exact ih1 _ _ _)
      | (with_reducible exact LeO.refl _)
      | (with_reducible exact LeO.none _)
      | (with_reducible refine LeO.ite ?_ ?_)
      | (with_reducible refine LeO.bind ?_ (fun _ => ?_))
      | exact ih0 _ _ _ _
      | exact ih1 _ _ _
      | exact LeO.none _
      | refine LeO.ite ?_ ?_
      | refine LeO.bind ?_ (fun _ => ?_)
set_option maxHeartbeats 8000000 in
set_option maxRecDepth 100000 in
theorem impl_flags.calls (k : Nat) (a0 : Bool) (a1 : Bool) (a2 : Bool) (a3 : Bool) (r : Int) (w : World) (h : impl_flags.f k a0 a1 a2 a3 = some r) :
    Calls Try.prog 55 #[.bool a0, .bool a1, .bool a2, .bool a3] w fun e w' => e = .returned (.int .i64 r) ∧ Drawn0 w w' := by
  have H : (if a0 = true then (impl_flags.j0 k a1 a2 a3 (Go.bits .or .i64 0 128)) else (impl_flags.j0 k a1 a2 a3 0)) = some r := h
  clear h
  have HC5 := Aside0.mk H
  clear H
  go_enter Try.func55, Try.ntmps55
  go_upto_if 10 with (fail)
  go_cut [9] (fun v9 wc => ∃ (kq : Nat) (x9_4 : Int), v9 = .int .i64 x9_4 ∧ Aside0 (impl_flags.j0 kq a1 a2 a3 x9_4 = some r) ∧ Aside0 (kq ≤ k) ∧ Drawn0 w wc)
  case first =>
    have H := HC5.out
    clear HC5
    by_cases c6 : a0 = true
    · subst c6
      have H1 : (impl_flags.j0 k a1 a2 a3 (Go.bits .or .i64 0 128)) = some r := by rw [if_pos rfl] at H; exact H
      clear H
      have H := H1
      clear H1
      have H' := Aside0.mk H
      clear H
      go_wp2
      go_meet
      case rel => exact ⟨_, (Go.bits .or .i64 0 128), (by first | rfl | (simp; done) | (simp [*]; done)), H', ⟨by first | omega | exact Nat.le_refl _⟩, by repeat (first | exact Drawn0.refl _ | apply Drawn0.step)⟩
    · replace c6 := Bool.eq_false_iff.mpr c6
      subst c6
      have H1 : (impl_flags.j0 k a1 a2 a3 0) = some r := by rw [if_neg (show ¬ (false = true) by decide)] at H; exact H
      clear H
      have H := H1
      clear H1
      have H' := Aside0.mk H
      clear H
      go_wp2
      go_meet
      case rel => exact ⟨_, (0), (by first | rfl | (simp; done) | (simp [*]; done)), H', ⟨by first | omega | exact Nat.le_refl _⟩, by repeat (first | exact Drawn0.refl _ | apply Drawn0.step)⟩
  case rest =>
    clear HC5
    try clear p2
    try clear c5
    try clear c6
    obtain ⟨kq, x9_4, rfl, HA, HJ4, ⟨mc4, rfl⟩⟩ := hcut
    cases kq with
    | zero => exact absurd HA.out (by simp [impl_flags.j0])
    | succ kj4 =>
      have H := HA.out
      clear HA
      simp only [impl_flags.j0] at H
      have HC7 := Aside0.mk H
      clear H
      go_upto_if 13 with (fail)
      go_cut [9] (fun v9 wc => ∃ (kq : Nat) (x9_6 : Int), v9 = .int .i64 x9_6 ∧ Aside0 (impl_flags.j1 kq a2 a3 x9_6 = some r) ∧ Aside0 (kq ≤ kj4) ∧ Drawn0 w wc)
      case first =>
        have H := HC7.out
        clear HC7
        by_cases c8 : a1 = true
        · subst c8
          have H1 : (impl_flags.j1 kj4 a2 a3 (Go.bits .or .i64 x9_4 64)) = some r := by rw [if_pos rfl] at H; exact H
          clear H
          have H := H1
          clear H1
          have H' := Aside0.mk H
          clear H
          go_wp2
          go_meet
          case rel => exact ⟨_, (Go.bits .or .i64 x9_4 64), (by first | rfl | (simp; done) | (simp [*]; done)), H', ⟨by have := HJ4.out; first | omega | exact Nat.le_refl _⟩, by repeat (first | exact Drawn0.refl _ | apply Drawn0.step)⟩
        · replace c8 := Bool.eq_false_iff.mpr c8
          subst c8
          have H1 : (impl_flags.j1 kj4 a2 a3 x9_4) = some r := by rw [if_neg (show ¬ (false = true) by decide)] at H; exact H
          clear H
          have H := H1
          clear H1
          have H' := Aside0.mk H
          clear H
          go_wp2
          go_meet
          case rel => exact ⟨_, (x9_4), (by first | rfl | (simp; done) | (simp [*]; done)), H', ⟨by have := HJ4.out; first | omega | exact Nat.le_refl _⟩, by repeat (first | exact Drawn0.refl _ | apply Drawn0.step)⟩
      case rest =>
        clear HC7
        try clear p2
        try clear c4
        try clear c5
        try clear c6
        try clear c8
        try clear p2
        obtain ⟨kq, x9_6, rfl, HA, HJ6, ⟨mc6, rfl⟩⟩ := hcut
        cases kq with
        | zero => exact absurd HA.out (by simp [impl_flags.j1])
        | succ kj6 =>
          have H := HA.out
          clear HA
          simp only [impl_flags.j1] at H
          by_cases c9 : a2 = true
          · subst c9
            have H1 : (if a3 = true then (some (Go.bits .or .i64 (Go.bits .or .i64 x9_6 32) 16)) else (some (Go.bits .or .i64 x9_6 32))) = some r := by rw [if_pos rfl] at H; exact H
            clear H
            have H := H1
            clear H1
            by_cases c10 : a3 = true
            · subst c10
              have H1 : (some (Go.bits .or .i64 (Go.bits .or .i64 x9_6 32) 16)) = some r := by rw [if_pos rfl] at H; exact H
              clear H
              have H := H1
              clear H1
              obtain rfl := Option.some.inj H
              go_wp2
              go_ret
              exact ⟨by first | rfl | (simp; done) | (simp [*]; done), by repeat (first | exact Drawn0.refl _ | apply Drawn0.step)⟩
            · replace c10 := Bool.eq_false_iff.mpr c10
              subst c10
              have H1 : (some (Go.bits .or .i64 x9_6 32)) = some r := by rw [if_neg (show ¬ (false = true) by decide)] at H; exact H
              clear H
              have H := H1
              clear H1
              obtain rfl := Option.some.inj H
              go_wp2
              go_ret
              exact ⟨by first | rfl | (simp; done) | (simp [*]; done), by repeat (first | exact Drawn0.refl _ | apply Drawn0.step)⟩
          · replace c9 := Bool.eq_false_iff.mpr c9
            subst c9
            have H1 : (if a3 = true then (some (Go.bits .or .i64 x9_6 16)) else (some x9_6)) = some r := by rw [if_neg (show ¬ (false = true) by decide)] at H; exact H
            clear H
            have H := H1
            clear H1
            by_cases c11 : a3 = true
            · subst c11
              have H1 : (some (Go.bits .or .i64 x9_6 16)) = some r := by rw [if_pos rfl] at H; exact H
              clear H
              have H := H1
              clear H1
              obtain rfl := Option.some.inj H
              go_wp2
              go_ret
              exact ⟨by first | rfl | (simp; done) | (simp [*]; done), by repeat (first | exact Drawn0.refl _ | apply Drawn0.step)⟩
            · replace c11 := Bool.eq_false_iff.mpr c11
              subst c11
              have H1 : (some x9_6) = some r := by rw [if_neg (show ¬ (false = true) by decide)] at H; exact H
              clear H
              have H := H1
              clear H1
              obtain rfl := Option.some.inj H
              go_wp2
              go_ret
              exact ⟨by first | rfl | (simp; done) | (simp [*]; done), by repeat (first | exact Drawn0.refl _ | apply Drawn0.step)⟩

/-! ### impl_has: function 57 -/
def impl_has.f (a0 : Int) (a1 : Int) : Option (Bool) := some ((Go.bits .and .i64 a0 a1) != 0)
set_option maxHeartbeats 8000000 in
set_option maxRecDepth 100000 in
theorem impl_has.calls (a0 : Int) (a1 : Int) (r : Bool) (w : World) (h : impl_has.f a0 a1 = some r) :
    Calls Try.prog 57 #[.int .i64 a0, .int .i64 a1] w fun e w' => e = .returned (.bool r) ∧ Drawn0 w w' := by
  have H : (some ((Go.bits .and .i64 a0 a1) != 0)) = some r := h
  clear h
  obtain rfl := Option.some.inj H
  go_enter Try.func57, Try.ntmps57
  go_wp2
  go_ret
  exact ⟨by first | rfl | (simp; done) | (simp [*]; done), by repeat (first | exact Drawn0.refl _ | apply Drawn0.step)⟩

/-! ### impl_Daa: function 18 -/
/-- What is added: by the halves, the sign, the carry, and what is above 9, above 153. -/
def impl_Daa.by_ (half minus carry b1 b2 : Bool) : Int := if minus = true then -((if half = true then 6 else 0) + (if carry = true then 96 else 0)) else (if (half || b1) = true then 6 else 0) + (if (carry || b2) = true then 96 else 0)
def impl_Daa.car (minus carry b2 : Bool) : Bool := carry || (!minus && b2)
def impl_Daa.fl (z n h c : Bool) : Int := 128 * z.toInt + 64 * n.toInt + 32 * h.toInt + 16 * c.toInt
theorem impl_Daa.flags (z n h c : Bool) : impl_flags.f 9 z n h c = some (impl_Daa.fl z n h c) := by
  cases z <;> cases n <;> cases h <;> cases c <;> decide +kernel
theorem impl_Daa.byte {a : Int} (h0 : 0 ≤ a) (h1 : a ≤ 255) : impl_isByte.f a = some true := by
  unfold impl_isByte.f impl_within.f
  first | (rw [if_pos h0, decide_eq_true h1]; rfl) | simp [h0, h1]
theorem impl_Daa.nobyte {a : Int} (h : ¬ (0 ≤ a ∧ a ≤ 255)) : impl_isByte.f a = some false := by
  unfold impl_isByte.f impl_within.f
  by_cases h0 : 0 ≤ a
  · first | (rw [if_pos h0, decide_eq_false (fun h1 => h ⟨h0, h1⟩)]; rfl) | (simp [h0]; omega)
  · first | (rw [if_neg h0]; rfl) | (simp [h0])
set_option maxHeartbeats 8000000 in
set_option maxRecDepth 100000 in
theorem impl_Daa.w00000 (a0 a1 : Int) (w : World) (HA : Aside0 (impl_isByte.f a0 = some true)) (HF : Aside0 (impl_isByte.f a1 = some true)) (HH : Aside0 (impl_has.f a1 32 = some false)) (HN : Aside0 (impl_has.f a1 64 = some false)) (HC : Aside0 (impl_has.f a1 16 = some false)) (e1 : decide (9 < Go.bits .and .i64 a0 15) = false) (e2 : decide (153 < a0) = false) :
    Calls Try.prog 18 #[.int .i64 a0, .int .i64 a1] w fun e w' => ∃ v : Int, e = .returned (.tuple #[.int .i64 v, .int .i64 (impl_Daa.fl (v == 0) false false false)]) ∧ v = Go.bits .and .i64 (wrap64 (a0 + 0)) 255 ∧ Drawn0 w w' := by
  go_enter Try.func18, Try.ntmps18
  go_wp2_with (first | (go_at_call 53; (with_reducible refine (impl_isByte.calls a0 true _ HA.out).mono ?_); rintro e w' ⟨rfl, ⟨nd, rfl⟩⟩) | (go_at_call 53; (with_reducible refine (impl_isByte.calls a1 true _ HF.out).mono ?_); rintro e w' ⟨rfl, ⟨nd, rfl⟩⟩) | (go_at_call 57; (with_reducible refine (impl_has.calls a1 64 false _ HN.out).mono ?_); rintro e w' ⟨rfl, ⟨nd, rfl⟩⟩) | (go_at_call 57; (with_reducible refine (impl_has.calls a1 32 false _ HH.out).mono ?_); rintro e w' ⟨rfl, ⟨nd, rfl⟩⟩) | (go_at_call 57; (with_reducible refine (impl_has.calls a1 16 false _ HC.out).mono ?_); rintro e w' ⟨rfl, ⟨nd, rfl⟩⟩) | (go_at_call 55; (with_reducible refine (impl_flags.calls 9 _ _ _ _ _ _ (impl_Daa.flags _ _ _ _)).mono ?_); rintro e w' ⟨rfl, ⟨nd, rfl⟩⟩))
  go_ret2
  exact ⟨_, rfl, by first | rfl | simp, by repeat (first | exact Drawn0.refl _ | apply Drawn0.step)⟩
set_option maxHeartbeats 8000000 in
set_option maxRecDepth 100000 in
theorem impl_Daa.w00001 (a0 a1 : Int) (w : World) (HA : Aside0 (impl_isByte.f a0 = some true)) (HF : Aside0 (impl_isByte.f a1 = some true)) (HH : Aside0 (impl_has.f a1 32 = some false)) (HN : Aside0 (impl_has.f a1 64 = some false)) (HC : Aside0 (impl_has.f a1 16 = some false)) (e1 : decide (9 < Go.bits .and .i64 a0 15) = false) (e2 : decide (153 < a0) = true) :
    Calls Try.prog 18 #[.int .i64 a0, .int .i64 a1] w fun e w' => ∃ v : Int, e = .returned (.tuple #[.int .i64 v, .int .i64 (impl_Daa.fl (v == 0) false false true)]) ∧ v = Go.bits .and .i64 (wrap64 (a0 + 96)) 255 ∧ Drawn0 w w' := by
  go_enter Try.func18, Try.ntmps18
  go_wp2_with (first | (go_at_call 53; (with_reducible refine (impl_isByte.calls a0 true _ HA.out).mono ?_); rintro e w' ⟨rfl, ⟨nd, rfl⟩⟩) | (go_at_call 53; (with_reducible refine (impl_isByte.calls a1 true _ HF.out).mono ?_); rintro e w' ⟨rfl, ⟨nd, rfl⟩⟩) | (go_at_call 57; (with_reducible refine (impl_has.calls a1 64 false _ HN.out).mono ?_); rintro e w' ⟨rfl, ⟨nd, rfl⟩⟩) | (go_at_call 57; (with_reducible refine (impl_has.calls a1 32 false _ HH.out).mono ?_); rintro e w' ⟨rfl, ⟨nd, rfl⟩⟩) | (go_at_call 57; (with_reducible refine (impl_has.calls a1 16 false _ HC.out).mono ?_); rintro e w' ⟨rfl, ⟨nd, rfl⟩⟩) | (go_at_call 55; (with_reducible refine (impl_flags.calls 9 _ _ _ _ _ _ (impl_Daa.flags _ _ _ _)).mono ?_); rintro e w' ⟨rfl, ⟨nd, rfl⟩⟩))
  go_ret2
  exact ⟨_, rfl, by first | rfl | simp, by repeat (first | exact Drawn0.refl _ | apply Drawn0.step)⟩
set_option maxHeartbeats 8000000 in
set_option maxRecDepth 100000 in
theorem impl_Daa.w00010 (a0 a1 : Int) (w : World) (HA : Aside0 (impl_isByte.f a0 = some true)) (HF : Aside0 (impl_isByte.f a1 = some true)) (HH : Aside0 (impl_has.f a1 32 = some false)) (HN : Aside0 (impl_has.f a1 64 = some false)) (HC : Aside0 (impl_has.f a1 16 = some false)) (e1 : decide (9 < Go.bits .and .i64 a0 15) = true) (e2 : decide (153 < a0) = false) :
    Calls Try.prog 18 #[.int .i64 a0, .int .i64 a1] w fun e w' => ∃ v : Int, e = .returned (.tuple #[.int .i64 v, .int .i64 (impl_Daa.fl (v == 0) false false false)]) ∧ v = Go.bits .and .i64 (wrap64 (a0 + 6)) 255 ∧ Drawn0 w w' := by
  go_enter Try.func18, Try.ntmps18
  go_wp2_with (first | (go_at_call 53; (with_reducible refine (impl_isByte.calls a0 true _ HA.out).mono ?_); rintro e w' ⟨rfl, ⟨nd, rfl⟩⟩) | (go_at_call 53; (with_reducible refine (impl_isByte.calls a1 true _ HF.out).mono ?_); rintro e w' ⟨rfl, ⟨nd, rfl⟩⟩) | (go_at_call 57; (with_reducible refine (impl_has.calls a1 64 false _ HN.out).mono ?_); rintro e w' ⟨rfl, ⟨nd, rfl⟩⟩) | (go_at_call 57; (with_reducible refine (impl_has.calls a1 32 false _ HH.out).mono ?_); rintro e w' ⟨rfl, ⟨nd, rfl⟩⟩) | (go_at_call 57; (with_reducible refine (impl_has.calls a1 16 false _ HC.out).mono ?_); rintro e w' ⟨rfl, ⟨nd, rfl⟩⟩) | (go_at_call 55; (with_reducible refine (impl_flags.calls 9 _ _ _ _ _ _ (impl_Daa.flags _ _ _ _)).mono ?_); rintro e w' ⟨rfl, ⟨nd, rfl⟩⟩))
  go_ret2
  exact ⟨_, rfl, by first | rfl | simp, by repeat (first | exact Drawn0.refl _ | apply Drawn0.step)⟩
set_option maxHeartbeats 8000000 in
set_option maxRecDepth 100000 in
theorem impl_Daa.w00011 (a0 a1 : Int) (w : World) (HA : Aside0 (impl_isByte.f a0 = some true)) (HF : Aside0 (impl_isByte.f a1 = some true)) (HH : Aside0 (impl_has.f a1 32 = some false)) (HN : Aside0 (impl_has.f a1 64 = some false)) (HC : Aside0 (impl_has.f a1 16 = some false)) (e1 : decide (9 < Go.bits .and .i64 a0 15) = true) (e2 : decide (153 < a0) = true) :
    Calls Try.prog 18 #[.int .i64 a0, .int .i64 a1] w fun e w' => ∃ v : Int, e = .returned (.tuple #[.int .i64 v, .int .i64 (impl_Daa.fl (v == 0) false false true)]) ∧ v = Go.bits .and .i64 (wrap64 (a0 + 102)) 255 ∧ Drawn0 w w' := by
  go_enter Try.func18, Try.ntmps18
  go_wp2_with (first | (go_at_call 53; (with_reducible refine (impl_isByte.calls a0 true _ HA.out).mono ?_); rintro e w' ⟨rfl, ⟨nd, rfl⟩⟩) | (go_at_call 53; (with_reducible refine (impl_isByte.calls a1 true _ HF.out).mono ?_); rintro e w' ⟨rfl, ⟨nd, rfl⟩⟩) | (go_at_call 57; (with_reducible refine (impl_has.calls a1 64 false _ HN.out).mono ?_); rintro e w' ⟨rfl, ⟨nd, rfl⟩⟩) | (go_at_call 57; (with_reducible refine (impl_has.calls a1 32 false _ HH.out).mono ?_); rintro e w' ⟨rfl, ⟨nd, rfl⟩⟩) | (go_at_call 57; (with_reducible refine (impl_has.calls a1 16 false _ HC.out).mono ?_); rintro e w' ⟨rfl, ⟨nd, rfl⟩⟩) | (go_at_call 55; (with_reducible refine (impl_flags.calls 9 _ _ _ _ _ _ (impl_Daa.flags _ _ _ _)).mono ?_); rintro e w' ⟨rfl, ⟨nd, rfl⟩⟩))
  go_ret2
  exact ⟨_, rfl, by first | rfl | simp, by repeat (first | exact Drawn0.refl _ | apply Drawn0.step)⟩
set_option maxHeartbeats 8000000 in
set_option maxRecDepth 100000 in
theorem impl_Daa.w00100 (a0 a1 : Int) (w : World) (HA : Aside0 (impl_isByte.f a0 = some true)) (HF : Aside0 (impl_isByte.f a1 = some true)) (HH : Aside0 (impl_has.f a1 32 = some false)) (HN : Aside0 (impl_has.f a1 64 = some false)) (HC : Aside0 (impl_has.f a1 16 = some true)) (e1 : decide (9 < Go.bits .and .i64 a0 15) = false) :
    Calls Try.prog 18 #[.int .i64 a0, .int .i64 a1] w fun e w' => ∃ v : Int, e = .returned (.tuple #[.int .i64 v, .int .i64 (impl_Daa.fl (v == 0) false false true)]) ∧ v = Go.bits .and .i64 (wrap64 (a0 + 96)) 255 ∧ Drawn0 w w' := by
  go_enter Try.func18, Try.ntmps18
  go_wp2_with (first | (go_at_call 53; (with_reducible refine (impl_isByte.calls a0 true _ HA.out).mono ?_); rintro e w' ⟨rfl, ⟨nd, rfl⟩⟩) | (go_at_call 53; (with_reducible refine (impl_isByte.calls a1 true _ HF.out).mono ?_); rintro e w' ⟨rfl, ⟨nd, rfl⟩⟩) | (go_at_call 57; (with_reducible refine (impl_has.calls a1 64 false _ HN.out).mono ?_); rintro e w' ⟨rfl, ⟨nd, rfl⟩⟩) | (go_at_call 57; (with_reducible refine (impl_has.calls a1 32 false _ HH.out).mono ?_); rintro e w' ⟨rfl, ⟨nd, rfl⟩⟩) | (go_at_call 57; (with_reducible refine (impl_has.calls a1 16 true _ HC.out).mono ?_); rintro e w' ⟨rfl, ⟨nd, rfl⟩⟩) | (go_at_call 55; (with_reducible refine (impl_flags.calls 9 _ _ _ _ _ _ (impl_Daa.flags _ _ _ _)).mono ?_); rintro e w' ⟨rfl, ⟨nd, rfl⟩⟩))
  go_ret2
  exact ⟨_, rfl, by first | rfl | simp, by repeat (first | exact Drawn0.refl _ | apply Drawn0.step)⟩
set_option maxHeartbeats 8000000 in
set_option maxRecDepth 100000 in
theorem impl_Daa.w00110 (a0 a1 : Int) (w : World) (HA : Aside0 (impl_isByte.f a0 = some true)) (HF : Aside0 (impl_isByte.f a1 = some true)) (HH : Aside0 (impl_has.f a1 32 = some false)) (HN : Aside0 (impl_has.f a1 64 = some false)) (HC : Aside0 (impl_has.f a1 16 = some true)) (e1 : decide (9 < Go.bits .and .i64 a0 15) = true) :
    Calls Try.prog 18 #[.int .i64 a0, .int .i64 a1] w fun e w' => ∃ v : Int, e = .returned (.tuple #[.int .i64 v, .int .i64 (impl_Daa.fl (v == 0) false false true)]) ∧ v = Go.bits .and .i64 (wrap64 (a0 + 102)) 255 ∧ Drawn0 w w' := by
  go_enter Try.func18, Try.ntmps18
  go_wp2_with (first | (go_at_call 53; (with_reducible refine (impl_isByte.calls a0 true _ HA.out).mono ?_); rintro e w' ⟨rfl, ⟨nd, rfl⟩⟩) | (go_at_call 53; (with_reducible refine (impl_isByte.calls a1 true _ HF.out).mono ?_); rintro e w' ⟨rfl, ⟨nd, rfl⟩⟩) | (go_at_call 57; (with_reducible refine (impl_has.calls a1 64 false _ HN.out).mono ?_); rintro e w' ⟨rfl, ⟨nd, rfl⟩⟩) | (go_at_call 57; (with_reducible refine (impl_has.calls a1 32 false _ HH.out).mono ?_); rintro e w' ⟨rfl, ⟨nd, rfl⟩⟩) | (go_at_call 57; (with_reducible refine (impl_has.calls a1 16 true _ HC.out).mono ?_); rintro e w' ⟨rfl, ⟨nd, rfl⟩⟩) | (go_at_call 55; (with_reducible refine (impl_flags.calls 9 _ _ _ _ _ _ (impl_Daa.flags _ _ _ _)).mono ?_); rintro e w' ⟨rfl, ⟨nd, rfl⟩⟩))
  go_ret2
  exact ⟨_, rfl, by first | rfl | simp, by repeat (first | exact Drawn0.refl _ | apply Drawn0.step)⟩
set_option maxHeartbeats 8000000 in
set_option maxRecDepth 100000 in
theorem impl_Daa.w01000 (a0 a1 : Int) (w : World) (HA : Aside0 (impl_isByte.f a0 = some true)) (HF : Aside0 (impl_isByte.f a1 = some true)) (HH : Aside0 (impl_has.f a1 32 = some false)) (HN : Aside0 (impl_has.f a1 64 = some true)) (HC : Aside0 (impl_has.f a1 16 = some false)) :
    Calls Try.prog 18 #[.int .i64 a0, .int .i64 a1] w fun e w' => ∃ v : Int, e = .returned (.tuple #[.int .i64 v, .int .i64 (impl_Daa.fl (v == 0) true false false)]) ∧ v = Go.bits .and .i64 (wrap64 (a0 + 0)) 255 ∧ Drawn0 w w' := by
  go_enter Try.func18, Try.ntmps18
  go_wp2_with (first | (go_at_call 53; (with_reducible refine (impl_isByte.calls a0 true _ HA.out).mono ?_); rintro e w' ⟨rfl, ⟨nd, rfl⟩⟩) | (go_at_call 53; (with_reducible refine (impl_isByte.calls a1 true _ HF.out).mono ?_); rintro e w' ⟨rfl, ⟨nd, rfl⟩⟩) | (go_at_call 57; (with_reducible refine (impl_has.calls a1 64 true _ HN.out).mono ?_); rintro e w' ⟨rfl, ⟨nd, rfl⟩⟩) | (go_at_call 57; (with_reducible refine (impl_has.calls a1 32 false _ HH.out).mono ?_); rintro e w' ⟨rfl, ⟨nd, rfl⟩⟩) | (go_at_call 57; (with_reducible refine (impl_has.calls a1 16 false _ HC.out).mono ?_); rintro e w' ⟨rfl, ⟨nd, rfl⟩⟩) | (go_at_call 55; (with_reducible refine (impl_flags.calls 9 _ _ _ _ _ _ (impl_Daa.flags _ _ _ _)).mono ?_); rintro e w' ⟨rfl, ⟨nd, rfl⟩⟩))
  go_ret2
  exact ⟨_, rfl, by first | rfl | simp, by repeat (first | exact Drawn0.refl _ | apply Drawn0.step)⟩
set_option maxHeartbeats 8000000 in
set_option maxRecDepth 100000 in
theorem impl_Daa.w01100 (a0 a1 : Int) (w : World) (HA : Aside0 (impl_isByte.f a0 = some true)) (HF : Aside0 (impl_isByte.f a1 = some true)) (HH : Aside0 (impl_has.f a1 32 = some false)) (HN : Aside0 (impl_has.f a1 64 = some true)) (HC : Aside0 (impl_has.f a1 16 = some true)) :
    Calls Try.prog 18 #[.int .i64 a0, .int .i64 a1] w fun e w' => ∃ v : Int, e = .returned (.tuple #[.int .i64 v, .int .i64 (impl_Daa.fl (v == 0) true false true)]) ∧ v = Go.bits .and .i64 (wrap64 (a0 + (-96))) 255 ∧ Drawn0 w w' := by
  go_enter Try.func18, Try.ntmps18
  go_wp2_with (first | (go_at_call 53; (with_reducible refine (impl_isByte.calls a0 true _ HA.out).mono ?_); rintro e w' ⟨rfl, ⟨nd, rfl⟩⟩) | (go_at_call 53; (with_reducible refine (impl_isByte.calls a1 true _ HF.out).mono ?_); rintro e w' ⟨rfl, ⟨nd, rfl⟩⟩) | (go_at_call 57; (with_reducible refine (impl_has.calls a1 64 true _ HN.out).mono ?_); rintro e w' ⟨rfl, ⟨nd, rfl⟩⟩) | (go_at_call 57; (with_reducible refine (impl_has.calls a1 32 false _ HH.out).mono ?_); rintro e w' ⟨rfl, ⟨nd, rfl⟩⟩) | (go_at_call 57; (with_reducible refine (impl_has.calls a1 16 true _ HC.out).mono ?_); rintro e w' ⟨rfl, ⟨nd, rfl⟩⟩) | (go_at_call 55; (with_reducible refine (impl_flags.calls 9 _ _ _ _ _ _ (impl_Daa.flags _ _ _ _)).mono ?_); rintro e w' ⟨rfl, ⟨nd, rfl⟩⟩))
  go_ret2
  exact ⟨_, rfl, by first | rfl | simp, by repeat (first | exact Drawn0.refl _ | apply Drawn0.step)⟩
set_option maxHeartbeats 8000000 in
set_option maxRecDepth 100000 in
theorem impl_Daa.w10000 (a0 a1 : Int) (w : World) (HA : Aside0 (impl_isByte.f a0 = some true)) (HF : Aside0 (impl_isByte.f a1 = some true)) (HH : Aside0 (impl_has.f a1 32 = some true)) (HN : Aside0 (impl_has.f a1 64 = some false)) (HC : Aside0 (impl_has.f a1 16 = some false)) (e2 : decide (153 < a0) = false) :
    Calls Try.prog 18 #[.int .i64 a0, .int .i64 a1] w fun e w' => ∃ v : Int, e = .returned (.tuple #[.int .i64 v, .int .i64 (impl_Daa.fl (v == 0) false false false)]) ∧ v = Go.bits .and .i64 (wrap64 (a0 + 6)) 255 ∧ Drawn0 w w' := by
  go_enter Try.func18, Try.ntmps18
  go_wp2_with (first | (go_at_call 53; (with_reducible refine (impl_isByte.calls a0 true _ HA.out).mono ?_); rintro e w' ⟨rfl, ⟨nd, rfl⟩⟩) | (go_at_call 53; (with_reducible refine (impl_isByte.calls a1 true _ HF.out).mono ?_); rintro e w' ⟨rfl, ⟨nd, rfl⟩⟩) | (go_at_call 57; (with_reducible refine (impl_has.calls a1 64 false _ HN.out).mono ?_); rintro e w' ⟨rfl, ⟨nd, rfl⟩⟩) | (go_at_call 57; (with_reducible refine (impl_has.calls a1 32 true _ HH.out).mono ?_); rintro e w' ⟨rfl, ⟨nd, rfl⟩⟩) | (go_at_call 57; (with_reducible refine (impl_has.calls a1 16 false _ HC.out).mono ?_); rintro e w' ⟨rfl, ⟨nd, rfl⟩⟩) | (go_at_call 55; (with_reducible refine (impl_flags.calls 9 _ _ _ _ _ _ (impl_Daa.flags _ _ _ _)).mono ?_); rintro e w' ⟨rfl, ⟨nd, rfl⟩⟩))
  go_ret2
  exact ⟨_, rfl, by first | rfl | simp, by repeat (first | exact Drawn0.refl _ | apply Drawn0.step)⟩
set_option maxHeartbeats 8000000 in
set_option maxRecDepth 100000 in
theorem impl_Daa.w10001 (a0 a1 : Int) (w : World) (HA : Aside0 (impl_isByte.f a0 = some true)) (HF : Aside0 (impl_isByte.f a1 = some true)) (HH : Aside0 (impl_has.f a1 32 = some true)) (HN : Aside0 (impl_has.f a1 64 = some false)) (HC : Aside0 (impl_has.f a1 16 = some false)) (e2 : decide (153 < a0) = true) :
    Calls Try.prog 18 #[.int .i64 a0, .int .i64 a1] w fun e w' => ∃ v : Int, e = .returned (.tuple #[.int .i64 v, .int .i64 (impl_Daa.fl (v == 0) false false true)]) ∧ v = Go.bits .and .i64 (wrap64 (a0 + 102)) 255 ∧ Drawn0 w w' := by
  go_enter Try.func18, Try.ntmps18
  go_wp2_with (first | (go_at_call 53; (with_reducible refine (impl_isByte.calls a0 true _ HA.out).mono ?_); rintro e w' ⟨rfl, ⟨nd, rfl⟩⟩) | (go_at_call 53; (with_reducible refine (impl_isByte.calls a1 true _ HF.out).mono ?_); rintro e w' ⟨rfl, ⟨nd, rfl⟩⟩) | (go_at_call 57; (with_reducible refine (impl_has.calls a1 64 false _ HN.out).mono ?_); rintro e w' ⟨rfl, ⟨nd, rfl⟩⟩) | (go_at_call 57; (with_reducible refine (impl_has.calls a1 32 true _ HH.out).mono ?_); rintro e w' ⟨rfl, ⟨nd, rfl⟩⟩) | (go_at_call 57; (with_reducible refine (impl_has.calls a1 16 false _ HC.out).mono ?_); rintro e w' ⟨rfl, ⟨nd, rfl⟩⟩) | (go_at_call 55; (with_reducible refine (impl_flags.calls 9 _ _ _ _ _ _ (impl_Daa.flags _ _ _ _)).mono ?_); rintro e w' ⟨rfl, ⟨nd, rfl⟩⟩))
  go_ret2
  exact ⟨_, rfl, by first | rfl | simp, by repeat (first | exact Drawn0.refl _ | apply Drawn0.step)⟩
set_option maxHeartbeats 8000000 in
set_option maxRecDepth 100000 in
theorem impl_Daa.w10100 (a0 a1 : Int) (w : World) (HA : Aside0 (impl_isByte.f a0 = some true)) (HF : Aside0 (impl_isByte.f a1 = some true)) (HH : Aside0 (impl_has.f a1 32 = some true)) (HN : Aside0 (impl_has.f a1 64 = some false)) (HC : Aside0 (impl_has.f a1 16 = some true)) :
    Calls Try.prog 18 #[.int .i64 a0, .int .i64 a1] w fun e w' => ∃ v : Int, e = .returned (.tuple #[.int .i64 v, .int .i64 (impl_Daa.fl (v == 0) false false true)]) ∧ v = Go.bits .and .i64 (wrap64 (a0 + 102)) 255 ∧ Drawn0 w w' := by
  go_enter Try.func18, Try.ntmps18
  go_wp2_with (first | (go_at_call 53; (with_reducible refine (impl_isByte.calls a0 true _ HA.out).mono ?_); rintro e w' ⟨rfl, ⟨nd, rfl⟩⟩) | (go_at_call 53; (with_reducible refine (impl_isByte.calls a1 true _ HF.out).mono ?_); rintro e w' ⟨rfl, ⟨nd, rfl⟩⟩) | (go_at_call 57; (with_reducible refine (impl_has.calls a1 64 false _ HN.out).mono ?_); rintro e w' ⟨rfl, ⟨nd, rfl⟩⟩) | (go_at_call 57; (with_reducible refine (impl_has.calls a1 32 true _ HH.out).mono ?_); rintro e w' ⟨rfl, ⟨nd, rfl⟩⟩) | (go_at_call 57; (with_reducible refine (impl_has.calls a1 16 true _ HC.out).mono ?_); rintro e w' ⟨rfl, ⟨nd, rfl⟩⟩) | (go_at_call 55; (with_reducible refine (impl_flags.calls 9 _ _ _ _ _ _ (impl_Daa.flags _ _ _ _)).mono ?_); rintro e w' ⟨rfl, ⟨nd, rfl⟩⟩))
  go_ret2
  exact ⟨_, rfl, by first | rfl | simp, by repeat (first | exact Drawn0.refl _ | apply Drawn0.step)⟩
set_option maxHeartbeats 8000000 in
set_option maxRecDepth 100000 in
theorem impl_Daa.w11000 (a0 a1 : Int) (w : World) (HA : Aside0 (impl_isByte.f a0 = some true)) (HF : Aside0 (impl_isByte.f a1 = some true)) (HH : Aside0 (impl_has.f a1 32 = some true)) (HN : Aside0 (impl_has.f a1 64 = some true)) (HC : Aside0 (impl_has.f a1 16 = some false)) :
    Calls Try.prog 18 #[.int .i64 a0, .int .i64 a1] w fun e w' => ∃ v : Int, e = .returned (.tuple #[.int .i64 v, .int .i64 (impl_Daa.fl (v == 0) true false false)]) ∧ v = Go.bits .and .i64 (wrap64 (a0 + (-6))) 255 ∧ Drawn0 w w' := by
  go_enter Try.func18, Try.ntmps18
  go_wp2_with (first | (go_at_call 53; (with_reducible refine (impl_isByte.calls a0 true _ HA.out).mono ?_); rintro e w' ⟨rfl, ⟨nd, rfl⟩⟩) | (go_at_call 53; (with_reducible refine (impl_isByte.calls a1 true _ HF.out).mono ?_); rintro e w' ⟨rfl, ⟨nd, rfl⟩⟩) | (go_at_call 57; (with_reducible refine (impl_has.calls a1 64 true _ HN.out).mono ?_); rintro e w' ⟨rfl, ⟨nd, rfl⟩⟩) | (go_at_call 57; (with_reducible refine (impl_has.calls a1 32 true _ HH.out).mono ?_); rintro e w' ⟨rfl, ⟨nd, rfl⟩⟩) | (go_at_call 57; (with_reducible refine (impl_has.calls a1 16 false _ HC.out).mono ?_); rintro e w' ⟨rfl, ⟨nd, rfl⟩⟩) | (go_at_call 55; (with_reducible refine (impl_flags.calls 9 _ _ _ _ _ _ (impl_Daa.flags _ _ _ _)).mono ?_); rintro e w' ⟨rfl, ⟨nd, rfl⟩⟩))
  go_ret2
  exact ⟨_, rfl, by first | rfl | simp, by repeat (first | exact Drawn0.refl _ | apply Drawn0.step)⟩
set_option maxHeartbeats 8000000 in
set_option maxRecDepth 100000 in
theorem impl_Daa.w11100 (a0 a1 : Int) (w : World) (HA : Aside0 (impl_isByte.f a0 = some true)) (HF : Aside0 (impl_isByte.f a1 = some true)) (HH : Aside0 (impl_has.f a1 32 = some true)) (HN : Aside0 (impl_has.f a1 64 = some true)) (HC : Aside0 (impl_has.f a1 16 = some true)) :
    Calls Try.prog 18 #[.int .i64 a0, .int .i64 a1] w fun e w' => ∃ v : Int, e = .returned (.tuple #[.int .i64 v, .int .i64 (impl_Daa.fl (v == 0) true false true)]) ∧ v = Go.bits .and .i64 (wrap64 (a0 + (-102))) 255 ∧ Drawn0 w w' := by
  go_enter Try.func18, Try.ntmps18
  go_wp2_with (first | (go_at_call 53; (with_reducible refine (impl_isByte.calls a0 true _ HA.out).mono ?_); rintro e w' ⟨rfl, ⟨nd, rfl⟩⟩) | (go_at_call 53; (with_reducible refine (impl_isByte.calls a1 true _ HF.out).mono ?_); rintro e w' ⟨rfl, ⟨nd, rfl⟩⟩) | (go_at_call 57; (with_reducible refine (impl_has.calls a1 64 true _ HN.out).mono ?_); rintro e w' ⟨rfl, ⟨nd, rfl⟩⟩) | (go_at_call 57; (with_reducible refine (impl_has.calls a1 32 true _ HH.out).mono ?_); rintro e w' ⟨rfl, ⟨nd, rfl⟩⟩) | (go_at_call 57; (with_reducible refine (impl_has.calls a1 16 true _ HC.out).mono ?_); rintro e w' ⟨rfl, ⟨nd, rfl⟩⟩) | (go_at_call 55; (with_reducible refine (impl_flags.calls 9 _ _ _ _ _ _ (impl_Daa.flags _ _ _ _)).mono ?_); rintro e w' ⟨rfl, ⟨nd, rfl⟩⟩))
  go_ret2
  exact ⟨_, rfl, by first | rfl | simp, by repeat (first | exact Drawn0.refl _ | apply Drawn0.step)⟩
set_option maxHeartbeats 8000000 in
set_option maxRecDepth 100000 in
theorem impl_Daa.n0 (a0 a1 : Int) (w : World) (HA : Aside0 (impl_isByte.f a0 = some false)) :
    Calls Try.prog 18 #[.int .i64 a0, .int .i64 a1] w fun e w' => e = .returned (.tuple #[.int .i64 0, .int .i64 0]) ∧ Drawn0 w w' := by
  go_enter Try.func18, Try.ntmps18
  go_wp2_with (first | (go_at_call 53; (with_reducible refine (impl_isByte.calls a0 false _ HA.out).mono ?_); rintro e w' ⟨rfl, ⟨nd, rfl⟩⟩))
  go_ret2
  exact ⟨rfl, by repeat (first | exact Drawn0.refl _ | apply Drawn0.step)⟩
set_option maxHeartbeats 8000000 in
set_option maxRecDepth 100000 in
theorem impl_Daa.n1 (a0 a1 : Int) (w : World) (HA : Aside0 (impl_isByte.f a0 = some true)) (HF : Aside0 (impl_isByte.f a1 = some false)) :
    Calls Try.prog 18 #[.int .i64 a0, .int .i64 a1] w fun e w' => e = .returned (.tuple #[.int .i64 0, .int .i64 0]) ∧ Drawn0 w w' := by
  go_enter Try.func18, Try.ntmps18
  go_wp2_with (first | (go_at_call 53; (with_reducible refine (impl_isByte.calls a0 true _ HA.out).mono ?_); rintro e w' ⟨rfl, ⟨nd, rfl⟩⟩) | (go_at_call 53; (with_reducible refine (impl_isByte.calls a1 false _ HF.out).mono ?_); rintro e w' ⟨rfl, ⟨nd, rfl⟩⟩))
  go_ret2
  exact ⟨rfl, by repeat (first | exact Drawn0.refl _ | apply Drawn0.step)⟩
def impl_Daa.out (h m c : Bool) (a0 : Int) : Int × Int := (Go.bits .and .i64 (wrap64 (a0 + impl_Daa.by_ h m c (decide (9 < Go.bits .and .i64 a0 15)) (decide (153 < a0)))) 255, impl_Daa.fl ((Go.bits .and .i64 (wrap64 (a0 + impl_Daa.by_ h m c (decide (9 < Go.bits .and .i64 a0 15)) (decide (153 < a0)))) 255) == 0) m false (impl_Daa.car m c (decide (153 < a0))))
def impl_Daa.f (a0 : Int) (a1 : Int) : Option (Int × Int) := if 0 ≤ a0 ∧ a0 ≤ 255 then (if 0 ≤ a1 ∧ a1 ≤ 255 then some (impl_Daa.out ((Go.bits .and .i64 a1 32) != 0) ((Go.bits .and .i64 a1 64) != 0) ((Go.bits .and .i64 a1 16) != 0) a0) else some (0, 0)) else some (0, 0)
theorem impl_Daa.calls (a0 : Int) (a1 : Int) (r1 : Int) (r2 : Int) (w : World) (h : impl_Daa.f a0 a1 = some (r1, r2)) :
    Calls Try.prog 18 #[.int .i64 a0, .int .i64 a1] w fun e w' => e = .returned (.tuple #[.int .i64 r1, .int .i64 r2]) ∧ Drawn0 w w' := by
  unfold impl_Daa.f at h
  by_cases h0 : 0 ≤ a0 ∧ a0 ≤ 255
  · rw [if_pos h0] at h
    by_cases h1 : 0 ≤ a1 ∧ a1 ≤ 255
    · rw [if_pos h1] at h
      have HA := Aside0.mk (impl_Daa.byte h0.1 h0.2)
      have HF := Aside0.mk (impl_Daa.byte h1.1 h1.2)
      replace h := Option.some.inj h
      have HH : impl_has.f a1 32 = some ((Go.bits .and .i64 a1 32) != 0) := rfl
      have HN : impl_has.f a1 64 = some ((Go.bits .and .i64 a1 64) != 0) := rfl
      have HC : impl_has.f a1 16 = some ((Go.bits .and .i64 a1 16) != 0) := rfl
      generalize ((Go.bits .and .i64 a1 32) != 0) = bh at h HH
      generalize ((Go.bits .and .i64 a1 64) != 0) = bm at h HN
      generalize ((Go.bits .and .i64 a1 16) != 0) = bc at h HC
      rcases bh with _ | _ <;> rcases bm with _ | _ <;> rcases bc with _ | _ <;> unfold impl_Daa.out at h
      · rcases e1 : decide (9 < Go.bits .and .i64 a0 15) with _ | _ <;> rcases e2 : decide (153 < a0) with _ | _ <;> rw [e1, e2] at h
        · refine (impl_Daa.w00000 a0 a1 w HA HF (Aside0.mk HH) (Aside0.mk HN) (Aside0.mk HC) e1 e2).mono ?_
          rintro e w' ⟨v, rfl, hv, hd⟩
          obtain ⟨i, j⟩ := Prod.mk.inj h
          refine ⟨?_, hd⟩
          rw [hv, ← i, ← j]
          rfl
        · refine (impl_Daa.w00001 a0 a1 w HA HF (Aside0.mk HH) (Aside0.mk HN) (Aside0.mk HC) e1 e2).mono ?_
          rintro e w' ⟨v, rfl, hv, hd⟩
          obtain ⟨i, j⟩ := Prod.mk.inj h
          refine ⟨?_, hd⟩
          rw [hv, ← i, ← j]
          rfl
        · refine (impl_Daa.w00010 a0 a1 w HA HF (Aside0.mk HH) (Aside0.mk HN) (Aside0.mk HC) e1 e2).mono ?_
          rintro e w' ⟨v, rfl, hv, hd⟩
          obtain ⟨i, j⟩ := Prod.mk.inj h
          refine ⟨?_, hd⟩
          rw [hv, ← i, ← j]
          rfl
        · refine (impl_Daa.w00011 a0 a1 w HA HF (Aside0.mk HH) (Aside0.mk HN) (Aside0.mk HC) e1 e2).mono ?_
          rintro e w' ⟨v, rfl, hv, hd⟩
          obtain ⟨i, j⟩ := Prod.mk.inj h
          refine ⟨?_, hd⟩
          rw [hv, ← i, ← j]
          rfl
      · rcases e1 : decide (9 < Go.bits .and .i64 a0 15) with _ | _ <;> rw [e1] at h
        · refine (impl_Daa.w00100 a0 a1 w HA HF (Aside0.mk HH) (Aside0.mk HN) (Aside0.mk HC) e1).mono ?_
          rintro e w' ⟨v, rfl, hv, hd⟩
          obtain ⟨i, j⟩ := Prod.mk.inj h
          refine ⟨?_, hd⟩
          rw [hv, ← i, ← j]
          rfl
        · refine (impl_Daa.w00110 a0 a1 w HA HF (Aside0.mk HH) (Aside0.mk HN) (Aside0.mk HC) e1).mono ?_
          rintro e w' ⟨v, rfl, hv, hd⟩
          obtain ⟨i, j⟩ := Prod.mk.inj h
          refine ⟨?_, hd⟩
          rw [hv, ← i, ← j]
          rfl
      · skip
        · refine (impl_Daa.w01000 a0 a1 w HA HF (Aside0.mk HH) (Aside0.mk HN) (Aside0.mk HC)).mono ?_
          rintro e w' ⟨v, rfl, hv, hd⟩
          obtain ⟨i, j⟩ := Prod.mk.inj h
          refine ⟨?_, hd⟩
          rw [hv, ← i, ← j]
          rfl
      · skip
        · refine (impl_Daa.w01100 a0 a1 w HA HF (Aside0.mk HH) (Aside0.mk HN) (Aside0.mk HC)).mono ?_
          rintro e w' ⟨v, rfl, hv, hd⟩
          obtain ⟨i, j⟩ := Prod.mk.inj h
          refine ⟨?_, hd⟩
          rw [hv, ← i, ← j]
          rfl
      · rcases e2 : decide (153 < a0) with _ | _ <;> rw [e2] at h
        · refine (impl_Daa.w10000 a0 a1 w HA HF (Aside0.mk HH) (Aside0.mk HN) (Aside0.mk HC) e2).mono ?_
          rintro e w' ⟨v, rfl, hv, hd⟩
          obtain ⟨i, j⟩ := Prod.mk.inj h
          refine ⟨?_, hd⟩
          rw [hv, ← i, ← j]
          rfl
        · refine (impl_Daa.w10001 a0 a1 w HA HF (Aside0.mk HH) (Aside0.mk HN) (Aside0.mk HC) e2).mono ?_
          rintro e w' ⟨v, rfl, hv, hd⟩
          obtain ⟨i, j⟩ := Prod.mk.inj h
          refine ⟨?_, hd⟩
          rw [hv, ← i, ← j]
          rfl
      · skip
        · refine (impl_Daa.w10100 a0 a1 w HA HF (Aside0.mk HH) (Aside0.mk HN) (Aside0.mk HC)).mono ?_
          rintro e w' ⟨v, rfl, hv, hd⟩
          obtain ⟨i, j⟩ := Prod.mk.inj h
          refine ⟨?_, hd⟩
          rw [hv, ← i, ← j]
          rfl
      · skip
        · refine (impl_Daa.w11000 a0 a1 w HA HF (Aside0.mk HH) (Aside0.mk HN) (Aside0.mk HC)).mono ?_
          rintro e w' ⟨v, rfl, hv, hd⟩
          obtain ⟨i, j⟩ := Prod.mk.inj h
          refine ⟨?_, hd⟩
          rw [hv, ← i, ← j]
          rfl
      · skip
        · refine (impl_Daa.w11100 a0 a1 w HA HF (Aside0.mk HH) (Aside0.mk HN) (Aside0.mk HC)).mono ?_
          rintro e w' ⟨v, rfl, hv, hd⟩
          obtain ⟨i, j⟩ := Prod.mk.inj h
          refine ⟨?_, hd⟩
          rw [hv, ← i, ← j]
          rfl
    · rw [if_neg h1] at h
      obtain ⟨i, j⟩ := Prod.mk.inj (Option.some.inj h)
      rw [← i, ← j]
      exact impl_Daa.n1 a0 a1 w (Aside0.mk (impl_Daa.byte h0.1 h0.2)) (Aside0.mk (impl_Daa.nobyte h1))
  · rw [if_neg h0] at h
    obtain ⟨i, j⟩ := Prod.mk.inj (Option.some.inj h)
    rw [← i, ← j]
    exact impl_Daa.n0 a0 a1 w (Aside0.mk (impl_Daa.nobyte h0))

end Go.Proofs.Ytnchhhafdkpmaaa.PFnExactDaa
