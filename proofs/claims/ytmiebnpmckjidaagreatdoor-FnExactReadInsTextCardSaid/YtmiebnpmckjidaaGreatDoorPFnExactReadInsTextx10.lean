/- What the Go functions that the law FnExactReadInsText reaches compute, function by function, and that Go comes to just that. -/
import Derived.Test.YtmiebnpmckjidaaGreatDoorPFnExactReadInsTextx0
import Derived.Test.YtmiebnpmckjidaaGreatDoorAidZ
import Derived.Test.YtmiebnpmckjidaaGreatDoorPFnExactReadInsTextx6
import Derived.Test.YtmiebnpmckjidaaGreatDoorPFnExactReadInsTextx7
import Derived.Test.YtmiebnpmckjidaaGreatDoorPFnExactReadInsTextx8
import Derived.Test.YtmiebnpmckjidaaGreatDoorPFnExactReadInsTextx9
namespace Go.Proofs.YtmiebnpmckjidaaGreatDoor.PFnExactReadInsText
open Go.RowKit Go.Proofs.YtmiebnpmckjidaaGreatDoor.Z Go.Proofs.YtmiebnpmckjidaaGreatDoorW.PrintWords Go.Proofs.YtmiebnpmckjidaaGreatDoorW.PrintLast Go.Proofs.YtmiebnpmckjidaaGreatDoorW.PrintMore
attribute [local go_sem] max2_int min2_int max_two min_two max_three min_three max_four min_four   -- for this text's walks alone
set_option linter.unusedVariables false
set_option linter.unusedSimpArgs false

/-! ### impl_ReadNum: function 16 -/
def impl_ReadNum.f (k : Nat) (a0 : ByteArray) : Option (Int × Bool) := if (a0.size : Int) > 18 then (some (0, false)) else ((strings_HasPrefix.f a0 (⟨#[36]⟩ : ByteArray)).bind fun t222 => (if t222 = true then (if 1 ≤ (a0.size : Int) then ((impl_valueOf.f k (a0.extract 1 a0.size) (⟨#[48, 49, 50, 51, 52, 53, 54, 55, 56, 57, 65, 66, 67, 68, 69, 70]⟩ : ByteArray)).bind fun bt223 => (if bt223.2 = true then (some (bt223.1, true)) else (some (0, false)))) else (none)) else ((strings_HasPrefix.f a0 (⟨#[37]⟩ : ByteArray)).bind fun t225 => (if t225 = true then (if 1 ≤ (a0.size : Int) then ((impl_valueOf.f k (a0.extract 1 a0.size) (⟨#[48, 49]⟩ : ByteArray)).bind fun bt226 => (if bt226.2 = true then (some (bt226.1, true)) else (some (0, false)))) else (none)) else ((impl_valueOf.f k a0 (⟨#[48, 49, 50, 51, 52, 53, 54, 55, 56, 57]⟩ : ByteArray)).bind fun bt228 => (if bt228.2 = true then (some (bt228.1, true)) else (some (0, false))))))))
theorem impl_ReadNum.mono : ∀ a0 k, LeO (impl_ReadNum.f k a0) (impl_ReadNum.f (k + 1) a0) := by
  intro a0 k
  unfold impl_ReadNum.f
  repeat' first
      | (with_reducible exact impl_valueOf.mono _ _ _)
      | (with_reducible exact LeO.refl _)
      | (with_reducible exact LeO.none _)
      | (with_reducible refine LeO.ite ?_ ?_)
      | (with_reducible refine LeO.bind ?_ (fun _ => ?_))
      | exact impl_valueOf.mono _ _ _
      | exact LeO.none _
      | refine LeO.ite ?_ ?_
      | refine LeO.bind ?_ (fun _ => ?_)
set_option maxHeartbeats 8000000 in
set_option maxRecDepth 100000 in
theorem impl_ReadNum.calls (k : Nat) (a0 : ByteArray) (r1 : Int) (r2 : Bool) (w : World) (h : impl_ReadNum.f k a0 = some (r1, r2)) :
 Calls Tryz.prog 16 #[.string a0] w fun e w' => e = .returned (.tuple #[.int .i64 r1, .bool r2]) ∧ Drawn0 w w' := by
 have H : (if (a0.size : Int) > 18 then (some (0, false)) else ((strings_HasPrefix.f a0 (⟨#[36]⟩ : ByteArray)).bind fun t222 => (if t222 = true then (if 1 ≤ (a0.size : Int) then ((impl_valueOf.f k (a0.extract 1 a0.size) (⟨#[48, 49, 50, 51, 52, 53, 54, 55, 56, 57, 65, 66, 67, 68, 69, 70]⟩ : ByteArray)).bind fun bt223 => (if bt223.2 = true then (some (bt223.1, true)) else (some (0, false)))) else (none)) else ((strings_HasPrefix.f a0 (⟨#[37]⟩ : ByteArray)).bind fun t225 => (if t225 = true then (if 1 ≤ (a0.size : Int) then ((impl_valueOf.f k (a0.extract 1 a0.size) (⟨#[48, 49]⟩ : ByteArray)).bind fun bt226 => (if bt226.2 = true then (some (bt226.1, true)) else (some (0, false)))) else (none)) else ((impl_valueOf.f k a0 (⟨#[48, 49, 50, 51, 52, 53, 54, 55, 56, 57]⟩ : ByteArray)).bind fun bt228 => (if bt228.2 = true then (some (bt228.1, true)) else (some (0, false))))))))) = some (r1, r2) := h
 clear h
 by_cases c2 : (a0.size : Int) > 18
 ·rw [if_pos c2] at H
  have c2b0 : decide (18 < (a0.size : Int)) = true := decide_eq_true c2
  have c2b1 : decide (18 < a0.size) = true := decide_eq_true (by omega)
  clear c2
  simp only [Option.some.injEq, Prod.mk.injEq] at H
  obtain ⟨rfl, rfl⟩ := H
  go_enter Tryz.func16, Tryz.ntmps16
  go_wp2
  go_ret2
  exact ⟨zE _, zd _⟩
 ·rw [if_neg c2] at H
  have c2b0 : decide (18 < (a0.size : Int)) = false := decide_eq_false c2
  have c2b1 : decide (18 < a0.size) = false := decide_eq_false (by omega)
  clear c2
  obtain ⟨t222, A30, H⟩ := Option.bind_eq_some_iff.mp H
  have A3 := Aside0.mk A30
  clear A30
  by_cases c4 : t222 = true
  ·subst c4
   rw [if_pos rfl] at H
   by_cases c5 : 1 ≤ (a0.size : Int)
   ·rw [if_pos c5] at H
    have c5b0 := eq_true c5
    have c5b1 : decide (1 ≤ (a0.size : Int)) = true := decide_eq_true c5
    clear c5
    replace H := Option.bind_eq_some_iff.mp H
    obtain ⟨⟨t223, t224⟩, A60, H⟩ := H
    replace H : (if t224 = true then (some (t223, true)) else (some (0, false))) = some (r1, r2) := H
    have A6 := Aside0.mk A60
    clear A60
    by_cases c7 : t224 = true
    ·subst c7
     rw [if_pos rfl] at H
     simp only [Option.some.injEq, Prod.mk.injEq] at H
     obtain ⟨rfl, rfl⟩ := H
     go_enter Tryz.func16, Tryz.ntmps16
     go_wp2_with (first | ((with_reducible refine gate_callee (f := 43) rfl ?_); refine zc (some 17) Tryz.func43 #[.string a0, .string (⟨#[36]⟩ : ByteArray)] ?_; (with_reducible refine (strings_HasPrefix.calls a0 (⟨#[36]⟩ : ByteArray) true _ A3.out).mono ?_); rintro e w' ⟨rfl, ⟨nd, rfl⟩⟩; refine ⟨_, rfl, ?_⟩) | ((with_reducible refine gate_callee (f := 44) rfl ?_); refine zc (some 21) Tryz.func44 #[.string (a0.extract 1 a0.size), .string (⟨#[48, 49, 50, 51, 52, 53, 54, 55, 56, 57, 65, 66, 67, 68, 69, 70]⟩ : ByteArray)] ?_; (with_reducible refine (impl_valueOf.calls k (a0.extract 1 a0.size) (⟨#[48, 49, 50, 51, 52, 53, 54, 55, 56, 57, 65, 66, 67, 68, 69, 70]⟩ : ByteArray) t223 true _ A6.out).mono ?_); rintro e w' ⟨rfl, ⟨nd, rfl⟩⟩; refine ⟨_, rfl, ?_⟩))
     go_ret2
     exact ⟨zE _, zd _⟩
    ·replace c7 := Bool.eq_false_iff.mpr c7
     subst c7
     rw [if_neg (show ¬ (false = true) by decide)] at H
     simp only [Option.some.injEq, Prod.mk.injEq] at H
     obtain ⟨rfl, rfl⟩ := H
     go_enter Tryz.func16, Tryz.ntmps16
     go_wp2_with (first | ((with_reducible refine gate_callee (f := 43) rfl ?_); refine zc (some 17) Tryz.func43 #[.string a0, .string (⟨#[36]⟩ : ByteArray)] ?_; (with_reducible refine (strings_HasPrefix.calls a0 (⟨#[36]⟩ : ByteArray) true _ A3.out).mono ?_); rintro e w' ⟨rfl, ⟨nd, rfl⟩⟩; refine ⟨_, rfl, ?_⟩) | ((with_reducible refine gate_callee (f := 44) rfl ?_); refine zc (some 21) Tryz.func44 #[.string (a0.extract 1 a0.size), .string (⟨#[48, 49, 50, 51, 52, 53, 54, 55, 56, 57, 65, 66, 67, 68, 69, 70]⟩ : ByteArray)] ?_; (with_reducible refine (impl_valueOf.calls k (a0.extract 1 a0.size) (⟨#[48, 49, 50, 51, 52, 53, 54, 55, 56, 57, 65, 66, 67, 68, 69, 70]⟩ : ByteArray) t223 false _ A6.out).mono ?_); rintro e w' ⟨rfl, ⟨nd, rfl⟩⟩; refine ⟨_, rfl, ?_⟩))
     go_ret2
     exact ⟨zE _, zd _⟩
   ·rw [if_neg c5] at H
    exact absurd H (by simp)
  ·replace c4 := Bool.eq_false_iff.mpr c4
   subst c4
   rw [if_neg (show ¬ (false = true) by decide)] at H
   obtain ⟨t225, A80, H⟩ := Option.bind_eq_some_iff.mp H
   have A8 := Aside0.mk A80
   clear A80
   by_cases c9 : t225 = true
   ·subst c9
    rw [if_pos rfl] at H
    by_cases c10 : 1 ≤ (a0.size : Int)
    ·rw [if_pos c10] at H
     have c10b0 := eq_true c10
     have c10b1 : decide (1 ≤ (a0.size : Int)) = true := decide_eq_true c10
     clear c10
     replace H := Option.bind_eq_some_iff.mp H
     obtain ⟨⟨t226, t227⟩, A110, H⟩ := H
     replace H : (if t227 = true then (some (t226, true)) else (some (0, false))) = some (r1, r2) := H
     have A11 := Aside0.mk A110
     clear A110
     by_cases c12 : t227 = true
     ·subst c12
      rw [if_pos rfl] at H
      simp only [Option.some.injEq, Prod.mk.injEq] at H
      obtain ⟨rfl, rfl⟩ := H
      go_enter Tryz.func16, Tryz.ntmps16
      go_wp2_with (first | ((with_reducible refine gate_callee (f := 43) rfl ?_); refine zc (some 17) Tryz.func43 #[.string a0, .string (⟨#[36]⟩ : ByteArray)] ?_; (with_reducible refine (strings_HasPrefix.calls a0 (⟨#[36]⟩ : ByteArray) false _ A3.out).mono ?_); rintro e w' ⟨rfl, ⟨nd, rfl⟩⟩; refine ⟨_, rfl, ?_⟩) | ((with_reducible refine gate_callee (f := 43) rfl ?_); refine zc (some 26) Tryz.func43 #[.string a0, .string (⟨#[37]⟩ : ByteArray)] ?_; (with_reducible refine (strings_HasPrefix.calls a0 (⟨#[37]⟩ : ByteArray) true _ A8.out).mono ?_); rintro e w' ⟨rfl, ⟨nd, rfl⟩⟩; refine ⟨_, rfl, ?_⟩) | ((with_reducible refine gate_callee (f := 44) rfl ?_); refine zc (some 30) Tryz.func44 #[.string (a0.extract 1 a0.size), .string (⟨#[48, 49]⟩ : ByteArray)] ?_; (with_reducible refine (impl_valueOf.calls k (a0.extract 1 a0.size) (⟨#[48, 49]⟩ : ByteArray) t226 true _ A11.out).mono ?_); rintro e w' ⟨rfl, ⟨nd, rfl⟩⟩; refine ⟨_, rfl, ?_⟩))
      go_ret2
      exact ⟨zE _, zd _⟩
     ·replace c12 := Bool.eq_false_iff.mpr c12
      subst c12
      rw [if_neg (show ¬ (false = true) by decide)] at H
      simp only [Option.some.injEq, Prod.mk.injEq] at H
      obtain ⟨rfl, rfl⟩ := H
      go_enter Tryz.func16, Tryz.ntmps16
      go_wp2_with (first | ((with_reducible refine gate_callee (f := 43) rfl ?_); refine zc (some 17) Tryz.func43 #[.string a0, .string (⟨#[36]⟩ : ByteArray)] ?_; (with_reducible refine (strings_HasPrefix.calls a0 (⟨#[36]⟩ : ByteArray) false _ A3.out).mono ?_); rintro e w' ⟨rfl, ⟨nd, rfl⟩⟩; refine ⟨_, rfl, ?_⟩) | ((with_reducible refine gate_callee (f := 43) rfl ?_); refine zc (some 26) Tryz.func43 #[.string a0, .string (⟨#[37]⟩ : ByteArray)] ?_; (with_reducible refine (strings_HasPrefix.calls a0 (⟨#[37]⟩ : ByteArray) true _ A8.out).mono ?_); rintro e w' ⟨rfl, ⟨nd, rfl⟩⟩; refine ⟨_, rfl, ?_⟩) | ((with_reducible refine gate_callee (f := 44) rfl ?_); refine zc (some 30) Tryz.func44 #[.string (a0.extract 1 a0.size), .string (⟨#[48, 49]⟩ : ByteArray)] ?_; (with_reducible refine (impl_valueOf.calls k (a0.extract 1 a0.size) (⟨#[48, 49]⟩ : ByteArray) t226 false _ A11.out).mono ?_); rintro e w' ⟨rfl, ⟨nd, rfl⟩⟩; refine ⟨_, rfl, ?_⟩))
      go_ret2
      exact ⟨zE _, zd _⟩
    ·rw [if_neg c10] at H
     exact absurd H (by simp)
   ·replace c9 := Bool.eq_false_iff.mpr c9
    subst c9
    rw [if_neg (show ¬ (false = true) by decide)] at H
    replace H := Option.bind_eq_some_iff.mp H
    obtain ⟨⟨t228, t229⟩, A130, H⟩ := H
    replace H : (if t229 = true then (some (t228, true)) else (some (0, false))) = some (r1, r2) := H
    have A13 := Aside0.mk A130
    clear A130
    by_cases c14 : t229 = true
    ·subst c14
     rw [if_pos rfl] at H
     simp only [Option.some.injEq, Prod.mk.injEq] at H
     obtain ⟨rfl, rfl⟩ := H
     go_enter Tryz.func16, Tryz.ntmps16
     go_wp2_with (first | ((with_reducible refine gate_callee (f := 43) rfl ?_); refine zc (some 17) Tryz.func43 #[.string a0, .string (⟨#[36]⟩ : ByteArray)] ?_; (with_reducible refine (strings_HasPrefix.calls a0 (⟨#[36]⟩ : ByteArray) false _ A3.out).mono ?_); rintro e w' ⟨rfl, ⟨nd, rfl⟩⟩; refine ⟨_, rfl, ?_⟩) | ((with_reducible refine gate_callee (f := 43) rfl ?_); refine zc (some 26) Tryz.func43 #[.string a0, .string (⟨#[37]⟩ : ByteArray)] ?_; (with_reducible refine (strings_HasPrefix.calls a0 (⟨#[37]⟩ : ByteArray) false _ A8.out).mono ?_); rintro e w' ⟨rfl, ⟨nd, rfl⟩⟩; refine ⟨_, rfl, ?_⟩) | ((with_reducible refine gate_callee (f := 44) rfl ?_); refine zc (some 8) Tryz.func44 #[.string a0, .string (⟨#[48, 49, 50, 51, 52, 53, 54, 55, 56, 57]⟩ : ByteArray)] ?_; (with_reducible refine (impl_valueOf.calls k a0 (⟨#[48, 49, 50, 51, 52, 53, 54, 55, 56, 57]⟩ : ByteArray) t228 true _ A13.out).mono ?_); rintro e w' ⟨rfl, ⟨nd, rfl⟩⟩; refine ⟨_, rfl, ?_⟩))
     go_ret2
     exact ⟨zE _, zd _⟩
    ·replace c14 := Bool.eq_false_iff.mpr c14
     subst c14
     rw [if_neg (show ¬ (false = true) by decide)] at H
     simp only [Option.some.injEq, Prod.mk.injEq] at H
     obtain ⟨rfl, rfl⟩ := H
     go_enter Tryz.func16, Tryz.ntmps16
     go_wp2_with (first | ((with_reducible refine gate_callee (f := 43) rfl ?_); refine zc (some 17) Tryz.func43 #[.string a0, .string (⟨#[36]⟩ : ByteArray)] ?_; (with_reducible refine (strings_HasPrefix.calls a0 (⟨#[36]⟩ : ByteArray) false _ A3.out).mono ?_); rintro e w' ⟨rfl, ⟨nd, rfl⟩⟩; refine ⟨_, rfl, ?_⟩) | ((with_reducible refine gate_callee (f := 43) rfl ?_); refine zc (some 26) Tryz.func43 #[.string a0, .string (⟨#[37]⟩ : ByteArray)] ?_; (with_reducible refine (strings_HasPrefix.calls a0 (⟨#[37]⟩ : ByteArray) false _ A8.out).mono ?_); rintro e w' ⟨rfl, ⟨nd, rfl⟩⟩; refine ⟨_, rfl, ?_⟩) | ((with_reducible refine gate_callee (f := 44) rfl ?_); refine zc (some 8) Tryz.func44 #[.string a0, .string (⟨#[48, 49, 50, 51, 52, 53, 54, 55, 56, 57]⟩ : ByteArray)] ?_; (with_reducible refine (impl_valueOf.calls k a0 (⟨#[48, 49, 50, 51, 52, 53, 54, 55, 56, 57]⟩ : ByteArray) t228 false _ A13.out).mono ?_); rintro e w' ⟨rfl, ⟨nd, rfl⟩⟩; refine ⟨_, rfl, ?_⟩))
     go_ret2
     exact ⟨zE _, zd _⟩

/-! ### strconv_ParseInt: function 17 -/
def strconv_ParseInt.f (a0 : ByteArray) (a1 a2 : Int) : Option (Int × Option Int) := if a1 = 10 then (if a2 = 64 then (if a0.size ≤ 140737488351232 then some (match Go.Lib.parseIntB 64 a0.data.toList with | .ok v => (v, none) | .range => (Go.Lib.intSat 64 a0.data.toList, some 1) | _ => (0, some 2)) else none) else none) else none
def strconv_ParseInt.Ev (r : Option Int) (v : Value) : Prop := match r with | none => v = .nilIface | some _ => ∃ t p, v = .iface t p
theorem strconv_ParseInt.calls (a0 : ByteArray) (a1 a2 : Int) (r1 : Int) (r2 : Option Int) (w : World) (hG : GW w) (h : strconv_ParseInt.f a0 a1 a2 = some (r1, r2)) :
 Calls Tryz.prog 17 #[.string a0, .int .i64 a1, .int .i64 a2] w fun e w' => (∃ ev, e = .returned (.tuple #[.int .i64 r1, ev]) ∧ strconv_ParseInt.Ev r2 ev) ∧ Below w.heap.size w w' := by
 unfold strconv_ParseInt.f at h
 by_cases h1 : a1 = 10
 ·by_cases h2 : a2 = 64
  ·by_cases h3 : a0.size ≤ 140737488351232
   ·rw [if_pos h1, if_pos h2, if_pos h3] at h
    subst h1
    subst h2
    obtain ⟨u1, v1, g1⟩ := hG.errsx
    obtain ⟨u2, v2, g2⟩ := hG.errrg
    cases hp : Go.Lib.parseIntB 64 a0.data.toList with
    | ok v =>
     rw [hp] at h
     obtain ⟨rfl, rfl⟩ := Prod.mk.inj (Option.some.inj h)
     refine (Go.Proofs.Any.strconv_ParseInt_10_at64_ok Tryz.laysC174 a0 (by omega) v hp w).mono ?_
     rintro e w' ⟨rfl, hw⟩
     refine ⟨⟨_, rfl, rfl⟩, ?_⟩
     rcases hw with rfl | ⟨t, rfl⟩
     ·exact Below.refl _ _
     ·exact Go.Lib.bytesWorld_below _ _ _
    | range =>
     rw [hp] at h
     obtain ⟨rfl, rfl⟩ := Prod.mk.inj (Option.some.inj h)
     refine (Go.Proofs.Any.strconv_ParseInt_10_at64_range_var Tryz.laysC174 a0 (by omega) hp u2 v2 w g2).mono ?_
     rintro e w' ⟨N, rfl, _, _, hb⟩
     exact ⟨⟨_, rfl, ⟨_, _, rfl⟩⟩, hb⟩
    | _ =>
     rw [hp] at h
     obtain ⟨rfl, rfl⟩ := Prod.mk.inj (Option.some.inj h)
     refine (Go.Proofs.Any.strconv_ParseInt_10_at64_syntax_var Tryz.laysC174 a0 (by omega) hp u1 v1 w g1).mono ?_
     rintro e w' ⟨N, rfl, _, _, hb⟩
     exact ⟨⟨_, rfl, ⟨_, _, rfl⟩⟩, hb⟩
   ·rw [if_pos h1, if_pos h2, if_neg h3] at h
    cases h
  ·rw [if_pos h1, if_neg h2] at h
   cases h
 ·rw [if_neg h1] at h
  cases h

/-! ### impl_InsOk: function 47 -/
def impl_InsOk.f (k : Nat) (a0_0 : Int) (a0_1 : Bool) (a0_2 : Int) : Option (Bool) := (impl_TemplateOf.f a0_0 a0_1).bind fun t231 => (if t231.toList = ([] : List UInt8) then (some false) else ((impl_holeOf.f k t231).bind fun t232 => (if t232.toList = ([] : List UInt8) then (some (a0_2 == 0)) else (if t232.toList = ([110, 49, 54] : List UInt8) then ((impl_isWord.f a0_2).bind fun t233 => (some t233)) else ((impl_isByte.f a0_2).bind fun t234 => (some t234))))))
theorem impl_InsOk.mono : ∀ a0 a1 a2 k, LeO (impl_InsOk.f k a0 a1 a2) (impl_InsOk.f (k + 1) a0 a1 a2) := by
  intro a0 a1 a2 k
  unfold impl_InsOk.f
  repeat' first
      | (with_reducible exact impl_holeOf.mono _ _)
      | (with_reducible exact LeO.refl _)
      | (with_reducible exact LeO.none _)
      | (with_reducible refine LeO.ite ?_ ?_)
      | (with_reducible refine LeO.bind ?_ (fun _ => ?_))
      | exact impl_holeOf.mono _ _
      | exact LeO.none _
      | refine LeO.ite ?_ ?_
      | refine LeO.bind ?_ (fun _ => ?_)
set_option maxHeartbeats 8000000 in
set_option maxRecDepth 100000 in
theorem impl_InsOk.calls (k : Nat) (a0_0 : Int) (a0_1 : Bool) (a0_2 : Int) (r : Bool) (w : World) (hG : GW w) (h : impl_InsOk.f k a0_0 a0_1 a0_2 = some r) :
 Calls Tryz.prog 47 #[.agg #[.int .i64 a0_0, .bool a0_1, .int .i64 a0_2]] w fun e w' => e = .returned (.bool r) ∧ Below w.heap.size w w' := by
 have hu23 := Tryz.underlying23
 have HB := Aside0.mk (Below.refl w.heap.size w)
 have HG := Aside0.mk hG
 clear hG
 have H : ((impl_TemplateOf.f a0_0 a0_1).bind fun t231 => (if t231.toList = ([] : List UInt8) then (some false) else ((impl_holeOf.f k t231).bind fun t232 => (if t232.toList = ([] : List UInt8) then (some (a0_2 == 0)) else (if t232.toList = ([110, 49, 54] : List UInt8) then ((impl_isWord.f a0_2).bind fun t233 => (some t233)) else ((impl_isByte.f a0_2).bind fun t234 => (some t234))))))) = some r := h
 clear h
 obtain ⟨t231, A20, H⟩ := Option.bind_eq_some_iff.mp H
 have A2 := Aside0.mk A20
 clear A20
 by_cases c3 : t231.toList = ([] : List UInt8)
 ·rw [if_pos c3] at H
  have c3b0 : (t231.toList == ([] : List UInt8)) = true := beq_iff_eq.mpr c3
  have c3b1 : (t231.toList != ([] : List UInt8)) = false := bne_eq_false_iff_eq.mpr c3
  clear c3
  obtain rfl := Option.some.inj H
  go_enter Tryz.func47, Tryz.ntmps47
  go_wp2_with (first | ((with_reducible refine gate_dst (N := 1) rfl ?_); refine zbx 1 #[.int .i64 a0_0, .bool a0_1, .int .i64 a0_2] 23 ?_; intro gb230 hg w4 hbox hb; have BK230 := Aside0.mk (hbox); have GW230 := zs w hg; have GE230 := GW230; replace HB := zt w hb; clear hb hbox hg; have hcz5_0 := zc0 BK230; have hcz5_1 := zc1 BK230; have hcz5_2 := zc2 BK230; have hfz5_0 := blk_frozen BK230.out 0; have hfz5_1 := blk_frozen BK230.out 1; have hfz5_2 := blk_frozen BK230.out 2) | ((with_reducible refine gate_callee (f := 13) rfl ?_); refine zc (some 8) Tryz.func13 #[.int .i64 a0_0, .bool a0_1] ?_; (with_reducible refine (impl_TemplateOf.calls a0_0 a0_1 t231 _ ?side1 A2.out).mono ?_); (case side1 => exact GW.below HG.out (zb _)); rintro e w6 ⟨rfl, hb⟩; refine ⟨_, rfl, ?_⟩; replace BK230 := zk BK230 hb; replace HB := zt w hb; (try clear hb); (try clear hb2); (try clear hk); (try clear hi)))
  first | go_ret | ((try simp only [Exit.inBlock, Exit.then]); apply bodyPost_ret; (exact results_tmp rfl _ _ _); rfl)
  exact ⟨ze _, zb _⟩
 ·rw [if_neg c3] at H
  have c3b0 : (t231.toList == ([] : List UInt8)) = false := beq_eq_false_iff_ne.mpr c3
  have c3b1 : (t231.toList != ([] : List UInt8)) = true := bne_iff_ne.mpr c3
  obtain ⟨t232, A70, H⟩ := Option.bind_eq_some_iff.mp H
  have A7 := Aside0.mk A70
  clear A70
  by_cases c8 : t232.toList = ([] : List UInt8)
  ·rw [if_pos c8] at H
   have c8b0 : (t232.toList == ([] : List UInt8)) = true := beq_iff_eq.mpr c8
   have c8b1 : (t232.toList != ([] : List UInt8)) = false := bne_eq_false_iff_eq.mpr c8
   clear c8
   obtain rfl := Option.some.inj H
   go_enter Tryz.func47, Tryz.ntmps47
   go_wp2_with (first | ((with_reducible refine gate_dst (N := 1) rfl ?_); refine zbx 1 #[.int .i64 a0_0, .bool a0_1, .int .i64 a0_2] 23 ?_; intro gb230 hg w9 hbox hb; have BK230 := Aside0.mk (hbox); have GW230 := zs w hg; have GE230 := GW230; replace HB := zt w hb; clear hb hbox hg; have hcz10_0 := zc0 BK230; have hcz10_1 := zc1 BK230; have hcz10_2 := zc2 BK230; have hfz10_0 := blk_frozen BK230.out 0; have hfz10_1 := blk_frozen BK230.out 1; have hfz10_2 := blk_frozen BK230.out 2) | ((with_reducible refine gate_callee (f := 13) rfl ?_); refine zc (some 8) Tryz.func13 #[.int .i64 a0_0, .bool a0_1] ?_; (with_reducible refine (impl_TemplateOf.calls a0_0 a0_1 t231 _ ?side1 A2.out).mono ?_); (case side1 => exact GW.below HG.out (zb _)); rintro e w11 ⟨rfl, hb⟩; refine ⟨_, rfl, ?_⟩; replace BK230 := zk BK230 hb; replace HB := zt w hb; (try clear hb); (try clear hb2); (try clear hk); (try clear hi)) | ((with_reducible refine gate_callee (f := 14) rfl ?_); refine zc (some 12) Tryz.func14 #[.string t231] ?_; (with_reducible refine (impl_holeOf.calls k t231 t232 _ ?side1 A7.out).mono ?_); (case side1 => exact GW.below HG.out (zb _)); rintro e w12 ⟨rfl, hb⟩; refine ⟨_, rfl, ?_⟩; replace BK230 := zk BK230 hb; replace HB := zt w hb; (try clear hb); (try clear hb2); (try clear hk); (try clear hi); have hcz13_0 := zc0 BK230; have hcz13_1 := zc1 BK230; have hcz13_2 := zc2 BK230; have hfz13_0 := blk_frozen BK230.out 0; have hfz13_1 := blk_frozen BK230.out 1; have hfz13_2 := blk_frozen BK230.out 2))
   first | go_ret | ((try simp only [Exit.inBlock, Exit.then]); apply bodyPost_ret; (exact results_tmp rfl _ _ _); rfl)
   exact ⟨ze _, zb _⟩
  ·rw [if_neg c8] at H
   have c8b0 : (t232.toList == ([] : List UInt8)) = false := beq_eq_false_iff_ne.mpr c8
   have c8b1 : (t232.toList != ([] : List UInt8)) = true := bne_iff_ne.mpr c8
   by_cases c14 : t232.toList = ([110, 49, 54] : List UInt8)
   ·rw [if_pos c14] at H
    have c14b0 : (t232.toList == ([110, 49, 54] : List UInt8)) = true := beq_iff_eq.mpr c14
    have c14b1 : (t232.toList != ([110, 49, 54] : List UInt8)) = false := bne_eq_false_iff_eq.mpr c14
    clear c14
    obtain ⟨t233, A150, H⟩ := Option.bind_eq_some_iff.mp H
    have A15 := Aside0.mk A150
    clear A150
    obtain rfl := Option.some.inj H
    go_enter Tryz.func47, Tryz.ntmps47
    go_wp2_with (first | ((with_reducible refine gate_dst (N := 1) rfl ?_); refine zbx 1 #[.int .i64 a0_0, .bool a0_1, .int .i64 a0_2] 23 ?_; intro gb230 hg w16 hbox hb; have BK230 := Aside0.mk (hbox); have GW230 := zs w hg; have GE230 := GW230; replace HB := zt w hb; clear hb hbox hg; have hcz17_0 := zc0 BK230; have hcz17_1 := zc1 BK230; have hcz17_2 := zc2 BK230; have hfz17_0 := blk_frozen BK230.out 0; have hfz17_1 := blk_frozen BK230.out 1; have hfz17_2 := blk_frozen BK230.out 2) | ((with_reducible refine gate_callee (f := 13) rfl ?_); refine zc (some 8) Tryz.func13 #[.int .i64 a0_0, .bool a0_1] ?_; (with_reducible refine (impl_TemplateOf.calls a0_0 a0_1 t231 _ ?side1 A2.out).mono ?_); (case side1 => exact GW.below HG.out (zb _)); rintro e w18 ⟨rfl, hb⟩; refine ⟨_, rfl, ?_⟩; replace BK230 := zk BK230 hb; replace HB := zt w hb; (try clear hb); (try clear hb2); (try clear hk); (try clear hi)) | ((with_reducible refine gate_callee (f := 14) rfl ?_); refine zc (some 12) Tryz.func14 #[.string t231] ?_; (with_reducible refine (impl_holeOf.calls k t231 t232 _ ?side1 A7.out).mono ?_); (case side1 => exact GW.below HG.out (zb _)); rintro e w19 ⟨rfl, hb⟩; refine ⟨_, rfl, ?_⟩; replace BK230 := zk BK230 hb; replace HB := zt w hb; (try clear hb); (try clear hb2); (try clear hk); (try clear hi); have hcz20_0 := zc0 BK230; have hcz20_1 := zc1 BK230; have hcz20_2 := zc2 BK230; have hfz20_0 := blk_frozen BK230.out 0; have hfz20_1 := blk_frozen BK230.out 1; have hfz20_2 := blk_frozen BK230.out 2) | ((with_reducible refine gate_callee (f := 71) rfl ?_); refine zc (some 22) Tryz.func71 #[.int .i64 a0_2] ?_; (with_reducible refine (impl_isWord.calls a0_2 t233 _ A15.out).mono ?_); rintro e w' ⟨rfl, ⟨nd, rfl⟩⟩; refine ⟨_, rfl, ?_⟩))
    first | go_ret | ((try simp only [Exit.inBlock, Exit.then]); apply bodyPost_ret; (exact results_tmp rfl _ _ _); rfl)
    exact ⟨ze _, zb _⟩
   ·rw [if_neg c14] at H
    have c14b0 : (t232.toList == ([110, 49, 54] : List UInt8)) = false := beq_eq_false_iff_ne.mpr c14
    have c14b1 : (t232.toList != ([110, 49, 54] : List UInt8)) = true := bne_iff_ne.mpr c14
    obtain ⟨t234, A210, H⟩ := Option.bind_eq_some_iff.mp H
    have A21 := Aside0.mk A210
    clear A210
    obtain rfl := Option.some.inj H
    go_enter Tryz.func47, Tryz.ntmps47
    go_wp2_with (first | ((with_reducible refine gate_dst (N := 1) rfl ?_); refine zbx 1 #[.int .i64 a0_0, .bool a0_1, .int .i64 a0_2] 23 ?_; intro gb230 hg w22 hbox hb; have BK230 := Aside0.mk (hbox); have GW230 := zs w hg; have GE230 := GW230; replace HB := zt w hb; clear hb hbox hg; have hcz23_0 := zc0 BK230; have hcz23_1 := zc1 BK230; have hcz23_2 := zc2 BK230; have hfz23_0 := blk_frozen BK230.out 0; have hfz23_1 := blk_frozen BK230.out 1; have hfz23_2 := blk_frozen BK230.out 2) | ((with_reducible refine gate_callee (f := 13) rfl ?_); refine zc (some 8) Tryz.func13 #[.int .i64 a0_0, .bool a0_1] ?_; (with_reducible refine (impl_TemplateOf.calls a0_0 a0_1 t231 _ ?side1 A2.out).mono ?_); (case side1 => exact GW.below HG.out (zb _)); rintro e w24 ⟨rfl, hb⟩; refine ⟨_, rfl, ?_⟩; replace BK230 := zk BK230 hb; replace HB := zt w hb; (try clear hb); (try clear hb2); (try clear hk); (try clear hi)) | ((with_reducible refine gate_callee (f := 14) rfl ?_); refine zc (some 12) Tryz.func14 #[.string t231] ?_; (with_reducible refine (impl_holeOf.calls k t231 t232 _ ?side1 A7.out).mono ?_); (case side1 => exact GW.below HG.out (zb _)); rintro e w25 ⟨rfl, hb⟩; refine ⟨_, rfl, ?_⟩; replace BK230 := zk BK230 hb; replace HB := zt w hb; (try clear hb); (try clear hb2); (try clear hk); (try clear hi); have hcz26_0 := zc0 BK230; have hcz26_1 := zc1 BK230; have hcz26_2 := zc2 BK230; have hfz26_0 := blk_frozen BK230.out 0; have hfz26_1 := blk_frozen BK230.out 1; have hfz26_2 := blk_frozen BK230.out 2) | ((with_reducible refine gate_callee (f := 32) rfl ?_); refine zc (some 25) Tryz.func32 #[.int .i64 a0_2] ?_; (with_reducible refine (impl_isByte.calls a0_2 t234 _ A21.out).mono ?_); rintro e w' ⟨rfl, ⟨nd, rfl⟩⟩; refine ⟨_, rfl, ?_⟩))
    first | go_ret | ((try simp only [Exit.inBlock, Exit.then]); apply bodyPost_ret; (exact results_tmp rfl _ _ _); rfl)
    exact ⟨ze _, zb _⟩

/-! ### strings_Replace: function 48 -/
def strings_Replace.f (a0 a1 a2 : ByteArray) (a3 : Int) : Option ByteArray := if a0.size < 4294967281 then (if 1 ≤ a1.size then (if a0.size + Go.Lib.countB a0 a1 * a2.size ≤ 140737488355328 then some ⟨(Go.Lib.replace a0.data.toList a1.data.toList a2.data.toList a3).toArray⟩ else none) else none) else none
theorem strings_Replace.calls (a0 a1 a2 : ByteArray) (a3 : Int) (r : ByteArray) (w : World) (hG : GW w) (h : strings_Replace.f a0 a1 a2 a3 = some r) :
 Calls Tryz.prog 48 #[.string a0, .string a1, .string a2, .int .i64 a3] w fun e w' => e = .returned (.string r) ∧ Below w.heap.size w w' := by
 unfold strings_Replace.f at h
 by_cases h0 : a0.size < 4294967281
 ·by_cases h1 : 1 ≤ a1.size
  ·by_cases h2 : a0.size + Go.Lib.countB a0 a1 * a2.size ≤ 140737488355328
   ·rw [if_pos h0, if_pos h1, if_pos h2] at h
    obtain rfl := Option.some.inj h
    obtain ⟨m, hm⟩ := hG.maxlen
    exact Tryz.strings_Replace a0 a1 a2 a3 m w h0 hm h1 h2
   ·rw [if_pos h0, if_pos h1, if_neg h2] at h
    cases h
  ·rw [if_pos h0, if_neg h1] at h
   cases h
 ·rw [if_neg h0] at h
  cases h

/-! ### impl_decimal: function 55 -/
def impl_decimal.f (a0 : Int) : Option (ByteArray) := (strconv_FormatInt.f a0 10).bind fun t235 => (some t235)
set_option maxHeartbeats 8000000 in
set_option maxRecDepth 100000 in
theorem impl_decimal.calls (a0 : Int) (r : ByteArray) (w : World) (hG : GW w) (h : impl_decimal.f a0 = some r) :
 Calls Tryz.prog 55 #[.int .i64 a0] w fun e w' => e = .returned (.string r) ∧ Below w.heap.size w w' := by
 have HB := Aside0.mk (Below.refl w.heap.size w)
 have HG := Aside0.mk hG
 clear hG
 have H : ((strconv_FormatInt.f a0 10).bind fun t235 => (some t235)) = some r := h
 clear h
 obtain ⟨t235, A20, H⟩ := Option.bind_eq_some_iff.mp H
 have A2 := Aside0.mk A20
 clear A20
 obtain rfl := Option.some.inj H
 go_enter Tryz.func55, Tryz.ntmps55
 go_wp2_with (first | ((with_reducible refine gate_callee (f := 79) rfl ?_); refine zc (some 4) Tryz.func79 #[.int .i64 a0, .int .i64 10] ?_; (with_reducible refine (strconv_FormatInt.calls a0 10 t235 _ ?side1 A2.out).mono ?_); (case side1 => exact GW.below HG.out (zb _)); rintro e w3 ⟨rfl, hb⟩; refine ⟨_, rfl, ?_⟩; replace HB := zt w hb; (try clear hb); (try clear hb2); (try clear hk); (try clear hi)))
 first | go_ret | ((try simp only [Exit.inBlock, Exit.then]); apply bodyPost_ret; (exact results_tmp rfl _ _ _); rfl)
 exact ⟨ze _, zb _⟩

/-! ### impl_SignedOf: function 77 -/
def impl_SignedOf.f (a0 : Int) : Option (Int) := (impl_isByte.f a0).bind fun t236 => (if t236 = true then (if a0 > 127 then (some (wrap64 (a0 - 256))) else (some a0)) else (some 0))
set_option maxHeartbeats 8000000 in
set_option maxRecDepth 100000 in
theorem impl_SignedOf.calls (a0 : Int) (r : Int) (w : World) (h : impl_SignedOf.f a0 = some r) :
 Calls Tryz.prog 77 #[.int .i64 a0] w fun e w' => e = .returned (.int .i64 r) ∧ Drawn0 w w' := by
 have H : ((impl_isByte.f a0).bind fun t236 => (if t236 = true then (if a0 > 127 then (some (wrap64 (a0 - 256))) else (some a0)) else (some 0))) = some r := h
 clear h
 obtain ⟨t236, A20, H⟩ := Option.bind_eq_some_iff.mp H
 have A2 := Aside0.mk A20
 clear A20
 by_cases c3 : t236 = true
 ·subst c3
  rw [if_pos rfl] at H
  by_cases c4 : a0 > 127
  ·rw [if_pos c4] at H
   have c4b0 : decide (127 < a0) = true := decide_eq_true c4
   clear c4
   obtain rfl := Option.some.inj H
   go_enter Tryz.func77, Tryz.ntmps77
   go_wp2_with (first | ((with_reducible refine gate_callee (f := 32) rfl ?_); refine zc (some 5) Tryz.func32 #[.int .i64 a0] ?_; (with_reducible refine (impl_isByte.calls a0 true _ A2.out).mono ?_); rintro e w' ⟨rfl, ⟨nd, rfl⟩⟩; refine ⟨_, rfl, ?_⟩))
   first | go_ret | ((try simp only [Exit.inBlock, Exit.then]); apply bodyPost_ret; (exact results_tmp rfl _ _ _); rfl)
   exact ⟨zE _, zd _⟩
  ·rw [if_neg c4] at H
   have c4b0 : decide (127 < a0) = false := decide_eq_false c4
   clear c4
   obtain rfl := Option.some.inj H
   go_enter Tryz.func77, Tryz.ntmps77
   go_wp2_with (first | ((with_reducible refine gate_callee (f := 32) rfl ?_); refine zc (some 5) Tryz.func32 #[.int .i64 a0] ?_; (with_reducible refine (impl_isByte.calls a0 true _ A2.out).mono ?_); rintro e w' ⟨rfl, ⟨nd, rfl⟩⟩; refine ⟨_, rfl, ?_⟩))
   first | go_ret | ((try simp only [Exit.inBlock, Exit.then]); apply bodyPost_ret; (exact results_tmp rfl _ _ _); rfl)
   exact ⟨zE _, zd _⟩
 ·replace c3 := Bool.eq_false_iff.mpr c3
  subst c3
  rw [if_neg (show ¬ (false = true) by decide)] at H
  obtain rfl := Option.some.inj H
  go_enter Tryz.func77, Tryz.ntmps77
  go_wp2_with (first | ((with_reducible refine gate_callee (f := 32) rfl ?_); refine zc (some 5) Tryz.func32 #[.int .i64 a0] ?_; (with_reducible refine (impl_isByte.calls a0 false _ A2.out).mono ?_); rintro e w' ⟨rfl, ⟨nd, rfl⟩⟩; refine ⟨_, rfl, ?_⟩))
  first | go_ret | ((try simp only [Exit.inBlock, Exit.then]); apply bodyPost_ret; (exact results_tmp rfl _ _ _); rfl)
  exact ⟨zE _, zd _⟩

/-! ### impl_filling: function 49 -/
def impl_filling.f (a0 : ByteArray) (a1 : Int) : Option (ByteArray) := if a0.toList = ([110, 56] : List UInt8) then ((impl_HexOf.f a1 2).bind fun t237 => (some t237)) else (if a0.toList = ([110, 49, 54] : List UInt8) then ((impl_HexOf.f a1 4).bind fun t238 => (some t238)) else ((impl_SignedOf.f a1).bind fun t239 => ((impl_decimal.f t239).bind fun t240 => (some t240))))
set_option maxHeartbeats 8000000 in
set_option maxRecDepth 100000 in
theorem impl_filling.calls (a0 : ByteArray) (a1 : Int) (r : ByteArray) (w : World) (hG : GW w) (h : impl_filling.f a0 a1 = some r) :
 Calls Tryz.prog 49 #[.string a0, .int .i64 a1] w fun e w' => e = .returned (.string r) ∧ Below w.heap.size w w' := by
 have HB := Aside0.mk (Below.refl w.heap.size w)
 have HG := Aside0.mk hG
 clear hG
 have H : (if a0.toList = ([110, 56] : List UInt8) then ((impl_HexOf.f a1 2).bind fun t237 => (some t237)) else (if a0.toList = ([110, 49, 54] : List UInt8) then ((impl_HexOf.f a1 4).bind fun t238 => (some t238)) else ((impl_SignedOf.f a1).bind fun t239 => ((impl_decimal.f t239).bind fun t240 => (some t240))))) = some r := h
 clear h
 by_cases c3 : a0.toList = ([110, 56] : List UInt8)
 ·rw [if_pos c3] at H
  have c3b0 : (a0.toList == ([110, 56] : List UInt8)) = true := beq_iff_eq.mpr c3
  have c3b1 : (a0.toList != ([110, 56] : List UInt8)) = false := bne_eq_false_iff_eq.mpr c3
  clear c3
  obtain ⟨t237, A40, H⟩ := Option.bind_eq_some_iff.mp H
  have A4 := Aside0.mk A40
  clear A40
  obtain rfl := Option.some.inj H
  go_enter Tryz.func49, Tryz.ntmps49
  go_wp2_with (first | ((with_reducible refine gate_callee (f := 58) rfl ?_); refine zc (some 9) Tryz.func58 #[.int .i64 a1, .int .i64 2] ?_; (with_reducible refine (impl_HexOf.calls a1 2 t237 _ ?side1 A4.out).mono ?_); (case side1 => exact GW.below HG.out (zb _)); rintro e w5 ⟨rfl, hb⟩; refine ⟨_, rfl, ?_⟩; replace HB := zt w hb; (try clear hb); (try clear hb2); (try clear hk); (try clear hi)))
  first | go_ret | ((try simp only [Exit.inBlock, Exit.then]); apply bodyPost_ret; (exact results_tmp rfl _ _ _); rfl)
  exact ⟨ze _, zb _⟩
 ·rw [if_neg c3] at H
  have c3b0 : (a0.toList == ([110, 56] : List UInt8)) = false := beq_eq_false_iff_ne.mpr c3
  have c3b1 : (a0.toList != ([110, 56] : List UInt8)) = true := bne_iff_ne.mpr c3
  by_cases c6 : a0.toList = ([110, 49, 54] : List UInt8)
  ·rw [if_pos c6] at H
   have c6b0 : (a0.toList == ([110, 49, 54] : List UInt8)) = true := beq_iff_eq.mpr c6
   have c6b1 : (a0.toList != ([110, 49, 54] : List UInt8)) = false := bne_eq_false_iff_eq.mpr c6
   clear c6
   obtain ⟨t238, A70, H⟩ := Option.bind_eq_some_iff.mp H
   have A7 := Aside0.mk A70
   clear A70
   obtain rfl := Option.some.inj H
   go_enter Tryz.func49, Tryz.ntmps49
   go_wp2_with (first | ((with_reducible refine gate_callee (f := 58) rfl ?_); refine zc (some 13) Tryz.func58 #[.int .i64 a1, .int .i64 4] ?_; (with_reducible refine (impl_HexOf.calls a1 4 t238 _ ?side1 A7.out).mono ?_); (case side1 => exact GW.below HG.out (zb _)); rintro e w8 ⟨rfl, hb⟩; refine ⟨_, rfl, ?_⟩; replace HB := zt w hb; (try clear hb); (try clear hb2); (try clear hk); (try clear hi)))
   first | go_ret | ((try simp only [Exit.inBlock, Exit.then]); apply bodyPost_ret; (exact results_tmp rfl _ _ _); rfl)
   exact ⟨ze _, zb _⟩
  ·rw [if_neg c6] at H
   have c6b0 : (a0.toList == ([110, 49, 54] : List UInt8)) = false := beq_eq_false_iff_ne.mpr c6
   have c6b1 : (a0.toList != ([110, 49, 54] : List UInt8)) = true := bne_iff_ne.mpr c6
   obtain ⟨t239, A90, H⟩ := Option.bind_eq_some_iff.mp H
   have A9 := Aside0.mk A90
   clear A90
   obtain ⟨t240, A100, H⟩ := Option.bind_eq_some_iff.mp H
   have A10 := Aside0.mk A100
   clear A100
   obtain rfl := Option.some.inj H
   go_enter Tryz.func49, Tryz.ntmps49
   go_wp2_with (first | ((with_reducible refine gate_callee (f := 77) rfl ?_); refine zc (some 15) Tryz.func77 #[.int .i64 a1] ?_; (with_reducible refine (impl_SignedOf.calls a1 t239 _ A9.out).mono ?_); rintro e w' ⟨rfl, ⟨nd, rfl⟩⟩; refine ⟨_, rfl, ?_⟩) | ((with_reducible refine gate_callee (f := 55) rfl ?_); refine zc (some 16) Tryz.func55 #[.int .i64 t239] ?_; (with_reducible refine (impl_decimal.calls t239 t240 _ ?side1 A10.out).mono ?_); (case side1 => exact GW.below HG.out (zb _)); rintro e w11 ⟨rfl, hb⟩; refine ⟨_, rfl, ?_⟩; replace HB := zt w hb; (try clear hb); (try clear hb2); (try clear hk); (try clear hi)))
   first | go_ret | ((try simp only [Exit.inBlock, Exit.then]); apply bodyPost_ret; (exact results_tmp rfl _ _ _); rfl)
   exact ⟨ze _, zb _⟩

/-! ### impl_InsText: function 19 -/
def impl_InsText.f (k : Nat) (a0_0 : Int) (a0_1 : Bool) (a0_2 : Int) : Option (ByteArray) := (impl_InsOk.f k a0_0 a0_1 a0_2).bind fun t242 => (if t242 = true then ((impl_TemplateOf.f a0_0 a0_1).bind fun t243 => ((impl_holeOf.f k t243).bind fun t244 => (if t244.toList = ([] : List UInt8) then (some t243) else ((impl_filling.f t244 a0_2).bind fun t245 => ((strings_Replace.f t243 t244 t245 1).bind fun t246 => (some t246)))))) else (some (⟨#[]⟩ : ByteArray)))
theorem impl_InsText.mono : ∀ a0 a1 a2 k, LeO (impl_InsText.f k a0 a1 a2) (impl_InsText.f (k + 1) a0 a1 a2) := by
  intro a0 a1 a2 k
  unfold impl_InsText.f
  repeat' first
      | (with_reducible exact impl_InsOk.mono _ _ _ _)
      | (with_reducible exact impl_holeOf.mono _ _)
      | (with_reducible exact LeO.refl _)
      | (with_reducible exact LeO.none _)
      | (with_reducible refine LeO.ite ?_ ?_)
      | (with_reducible refine LeO.bind ?_ (fun _ => ?_))
      | exact impl_InsOk.mono _ _ _ _
      | exact impl_holeOf.mono _ _
      | exact LeO.none _
      | refine LeO.ite ?_ ?_
      | refine LeO.bind ?_ (fun _ => ?_)
set_option maxHeartbeats 8000000 in
set_option maxRecDepth 100000 in
theorem impl_InsText.calls (k : Nat) (a0_0 : Int) (a0_1 : Bool) (a0_2 : Int) (r : ByteArray) (w : World) (hG : GW w) (h : impl_InsText.f k a0_0 a0_1 a0_2 = some r) :
 Calls Tryz.prog 19 #[.agg #[.int .i64 a0_0, .bool a0_1, .int .i64 a0_2]] w fun e w' => e = .returned (.string r) ∧ Below w.heap.size w w' := by
 have hu23 := Tryz.underlying23
 have HB := Aside0.mk (Below.refl w.heap.size w)
 have HG := Aside0.mk hG
 clear hG
 have H : ((impl_InsOk.f k a0_0 a0_1 a0_2).bind fun t242 => (if t242 = true then ((impl_TemplateOf.f a0_0 a0_1).bind fun t243 => ((impl_holeOf.f k t243).bind fun t244 => (if t244.toList = ([] : List UInt8) then (some t243) else ((impl_filling.f t244 a0_2).bind fun t245 => ((strings_Replace.f t243 t244 t245 1).bind fun t246 => (some t246)))))) else (some (⟨#[]⟩ : ByteArray)))) = some r := h
 clear h
 obtain ⟨t242, A20, H⟩ := Option.bind_eq_some_iff.mp H
 have A2 := Aside0.mk A20
 clear A20
 by_cases c3 : t242 = true
 ·subst c3
  rw [if_pos rfl] at H
  obtain ⟨t243, A40, H⟩ := Option.bind_eq_some_iff.mp H
  have A4 := Aside0.mk A40
  clear A40
  obtain ⟨t244, A50, H⟩ := Option.bind_eq_some_iff.mp H
  have A5 := Aside0.mk A50
  clear A50
  by_cases c6 : t244.toList = ([] : List UInt8)
  ·rw [if_pos c6] at H
   have c6b0 : (t244.toList == ([] : List UInt8)) = true := beq_iff_eq.mpr c6
   have c6b1 : (t244.toList != ([] : List UInt8)) = false := bne_eq_false_iff_eq.mpr c6
   clear c6
   obtain rfl := Option.some.inj H
   go_enter Tryz.func19, Tryz.ntmps19
   go_wp2_with (first | ((with_reducible refine gate_dst (N := 1) rfl ?_); refine zbx 1 #[.int .i64 a0_0, .bool a0_1, .int .i64 a0_2] 23 ?_; intro gb241 hg w7 hbox hb; have BK241 := Aside0.mk (hbox); have GW241 := zs w hg; have GE241 := GW241; replace HB := zt w hb; clear hb hbox hg; have hcz8_0 := zc0 BK241; have hcz8_1 := zc1 BK241; have hcz8_2 := zc2 BK241; have hfz8_0 := blk_frozen BK241.out 0; have hfz8_1 := blk_frozen BK241.out 1; have hfz8_2 := blk_frozen BK241.out 2) | ((with_reducible refine gate_callee (f := 47) rfl ?_); refine zc (some 6) Tryz.func47 #[.agg #[.int .i64 a0_0, .bool a0_1, .int .i64 a0_2]] ?_; (with_reducible refine (impl_InsOk.calls k a0_0 a0_1 a0_2 true _ ?side1 A2.out).mono ?_); (case side1 => exact GW.below HG.out (zb _)); rintro e w9 ⟨rfl, hb⟩; refine ⟨_, rfl, ?_⟩; replace BK241 := zk BK241 hb; replace HB := zt w hb; (try clear hb); (try clear hb2); (try clear hk); (try clear hi); have hcz10_0 := zc0 BK241; have hcz10_1 := zc1 BK241; have hcz10_2 := zc2 BK241; have hfz10_0 := blk_frozen BK241.out 0; have hfz10_1 := blk_frozen BK241.out 1; have hfz10_2 := blk_frozen BK241.out 2) | ((with_reducible refine gate_callee (f := 13) rfl ?_); refine zc (some 12) Tryz.func13 #[.int .i64 a0_0, .bool a0_1] ?_; (with_reducible refine (impl_TemplateOf.calls a0_0 a0_1 t243 _ ?side1 A4.out).mono ?_); (case side1 => exact GW.below HG.out (zb _)); rintro e w11 ⟨rfl, hb⟩; refine ⟨_, rfl, ?_⟩; replace BK241 := zk BK241 hb; replace HB := zt w hb; (try clear hb); (try clear hb2); (try clear hk); (try clear hi)) | ((with_reducible refine gate_callee (f := 14) rfl ?_); refine zc (some 14) Tryz.func14 #[.string t243] ?_; (with_reducible refine (impl_holeOf.calls k t243 t244 _ ?side1 A5.out).mono ?_); (case side1 => exact GW.below HG.out (zb _)); rintro e w12 ⟨rfl, hb⟩; refine ⟨_, rfl, ?_⟩; replace BK241 := zk BK241 hb; replace HB := zt w hb; (try clear hb); (try clear hb2); (try clear hk); (try clear hi)))
   first | go_ret | ((try simp only [Exit.inBlock, Exit.then]); apply bodyPost_ret; (exact results_tmp rfl _ _ _); rfl)
   exact ⟨ze _, zb _⟩
  ·rw [if_neg c6] at H
   have c6b0 : (t244.toList == ([] : List UInt8)) = false := beq_eq_false_iff_ne.mpr c6
   have c6b1 : (t244.toList != ([] : List UInt8)) = true := bne_iff_ne.mpr c6
   obtain ⟨t245, A130, H⟩ := Option.bind_eq_some_iff.mp H
   have A13 := Aside0.mk A130
   clear A130
   obtain ⟨t246, A140, H⟩ := Option.bind_eq_some_iff.mp H
   have A14 := Aside0.mk A140
   clear A140
   obtain rfl := Option.some.inj H
   go_enter Tryz.func19, Tryz.ntmps19
   go_wp2_with (first | ((with_reducible refine gate_dst (N := 1) rfl ?_); refine zbx 1 #[.int .i64 a0_0, .bool a0_1, .int .i64 a0_2] 23 ?_; intro gb241 hg w15 hbox hb; have BK241 := Aside0.mk (hbox); have GW241 := zs w hg; have GE241 := GW241; replace HB := zt w hb; clear hb hbox hg; have hcz16_0 := zc0 BK241; have hcz16_1 := zc1 BK241; have hcz16_2 := zc2 BK241; have hfz16_0 := blk_frozen BK241.out 0; have hfz16_1 := blk_frozen BK241.out 1; have hfz16_2 := blk_frozen BK241.out 2) | ((with_reducible refine gate_callee (f := 47) rfl ?_); refine zc (some 6) Tryz.func47 #[.agg #[.int .i64 a0_0, .bool a0_1, .int .i64 a0_2]] ?_; (with_reducible refine (impl_InsOk.calls k a0_0 a0_1 a0_2 true _ ?side1 A2.out).mono ?_); (case side1 => exact GW.below HG.out (zb _)); rintro e w17 ⟨rfl, hb⟩; refine ⟨_, rfl, ?_⟩; replace BK241 := zk BK241 hb; replace HB := zt w hb; (try clear hb); (try clear hb2); (try clear hk); (try clear hi); have hcz18_0 := zc0 BK241; have hcz18_1 := zc1 BK241; have hcz18_2 := zc2 BK241; have hfz18_0 := blk_frozen BK241.out 0; have hfz18_1 := blk_frozen BK241.out 1; have hfz18_2 := blk_frozen BK241.out 2) | ((with_reducible refine gate_callee (f := 13) rfl ?_); refine zc (some 12) Tryz.func13 #[.int .i64 a0_0, .bool a0_1] ?_; (with_reducible refine (impl_TemplateOf.calls a0_0 a0_1 t243 _ ?side1 A4.out).mono ?_); (case side1 => exact GW.below HG.out (zb _)); rintro e w19 ⟨rfl, hb⟩; refine ⟨_, rfl, ?_⟩; replace BK241 := zk BK241 hb; replace HB := zt w hb; (try clear hb); (try clear hb2); (try clear hk); (try clear hi)) | ((with_reducible refine gate_callee (f := 14) rfl ?_); refine zc (some 14) Tryz.func14 #[.string t243] ?_; (with_reducible refine (impl_holeOf.calls k t243 t244 _ ?side1 A5.out).mono ?_); (case side1 => exact GW.below HG.out (zb _)); rintro e w20 ⟨rfl, hb⟩; refine ⟨_, rfl, ?_⟩; replace BK241 := zk BK241 hb; replace HB := zt w hb; (try clear hb); (try clear hb2); (try clear hk); (try clear hi); have hcz21_0 := zc0 BK241; have hcz21_1 := zc1 BK241; have hcz21_2 := zc2 BK241; have hfz21_0 := blk_frozen BK241.out 0; have hfz21_1 := blk_frozen BK241.out 1; have hfz21_2 := blk_frozen BK241.out 2) | ((with_reducible refine gate_callee (f := 49) rfl ?_); refine zc (some 22) Tryz.func49 #[.string t244, .int .i64 a0_2] ?_; (with_reducible refine (impl_filling.calls t244 a0_2 t245 _ ?side1 A13.out).mono ?_); (case side1 => exact GW.below HG.out (zb _)); rintro e w22 ⟨rfl, hb⟩; refine ⟨_, rfl, ?_⟩; replace BK241 := zk BK241 hb; replace HB := zt w hb; (try clear hb); (try clear hb2); (try clear hk); (try clear hi)) | ((with_reducible refine gate_callee (f := 48) rfl ?_); refine zc (some 23) Tryz.func48 #[.string t243, .string t244, .string t245, .int .i64 1] ?_; (with_reducible refine (strings_Replace.calls t243 t244 t245 1 t246 _ ?side1 A14.out).mono ?_); (case side1 => exact GW.below HG.out (zb _)); rintro e w23 ⟨rfl, hb⟩; refine ⟨_, rfl, ?_⟩; replace BK241 := zk BK241 hb; replace HB := zt w hb; (try clear hb); (try clear hb2); (try clear hk); (try clear hi)))
   first | go_ret | ((try simp only [Exit.inBlock, Exit.then]); apply bodyPost_ret; (exact results_tmp rfl _ _ _); rfl)
   exact ⟨ze _, zb _⟩
 ·replace c3 := Bool.eq_false_iff.mpr c3
  subst c3
  rw [if_neg (show ¬ (false = true) by decide)] at H
  obtain rfl := Option.some.inj H
  go_enter Tryz.func19, Tryz.ntmps19
  go_wp2_with (first | ((with_reducible refine gate_dst (N := 1) rfl ?_); refine zbx 1 #[.int .i64 a0_0, .bool a0_1, .int .i64 a0_2] 23 ?_; intro gb241 hg w24 hbox hb; have BK241 := Aside0.mk (hbox); have GW241 := zs w hg; have GE241 := GW241; replace HB := zt w hb; clear hb hbox hg; have hcz25_0 := zc0 BK241; have hcz25_1 := zc1 BK241; have hcz25_2 := zc2 BK241; have hfz25_0 := blk_frozen BK241.out 0; have hfz25_1 := blk_frozen BK241.out 1; have hfz25_2 := blk_frozen BK241.out 2) | ((with_reducible refine gate_callee (f := 47) rfl ?_); refine zc (some 6) Tryz.func47 #[.agg #[.int .i64 a0_0, .bool a0_1, .int .i64 a0_2]] ?_; (with_reducible refine (impl_InsOk.calls k a0_0 a0_1 a0_2 false _ ?side1 A2.out).mono ?_); (case side1 => exact GW.below HG.out (zb _)); rintro e w26 ⟨rfl, hb⟩; refine ⟨_, rfl, ?_⟩; replace BK241 := zk BK241 hb; replace HB := zt w hb; (try clear hb); (try clear hb2); (try clear hk); (try clear hi)))
  first | go_ret | ((try simp only [Exit.inBlock, Exit.then]); apply bodyPost_ret; (exact results_tmp rfl _ _ _); rfl)
  exact ⟨ze _, zb _⟩

end Go.Proofs.YtmiebnpmckjidaaGreatDoor.PFnExactReadInsText
