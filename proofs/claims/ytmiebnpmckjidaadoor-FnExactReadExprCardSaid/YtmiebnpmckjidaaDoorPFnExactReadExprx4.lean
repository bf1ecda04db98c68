/- What the Go functions that the law FnExactReadExpr reaches compute, function by function, and that Go comes to just that. -/
import Derived.Test.YtmiebnpmckjidaaDoorPFnExactReadExprx0
import Derived.Test.YtmiebnpmckjidaaDoorAidZ
import Derived.Test.YtmiebnpmckjidaaDoorPFnExactReadExprx3
namespace Go.Proofs.YtmiebnpmckjidaaDoor.PFnExactReadExpr
open Go.RowKit Go.Proofs.YtmiebnpmckjidaaDoor.Z Go.Proofs.YtmiebnpmckjidaaDoorW.PrintWords Go.Proofs.YtmiebnpmckjidaaDoorW.PrintLast Go.Proofs.YtmiebnpmckjidaaDoorW.PrintMore
attribute [local go_sem] max2_int min2_int max_two min_two max_three min_three max_four min_four   -- for this text's walks alone
set_option linter.unusedVariables false
set_option linter.unusedSimpArgs false

/-! ### strings_CutPrefix: function 74 -/
def strings_CutPrefix.f (a0 : ByteArray) (a1 : ByteArray) : Option (ByteArray × Bool) := (stringslite_CutPrefix.f a0 a1).bind fun bt165 => (some (bt165.1, bt165.2))
set_option maxHeartbeats 8000000 in
set_option maxRecDepth 100000 in
theorem strings_CutPrefix.calls (a0 : ByteArray) (a1 : ByteArray) (r1 : ByteArray) (r2 : Bool) (w : World) (h : strings_CutPrefix.f a0 a1 = some (r1, r2)) :
 Calls Tryd.prog 74 #[.string a0, .string a1] w fun e w' => e = .returned (.tuple #[.string r1, .bool r2]) ∧ Drawn0 w w' := by
 have H : ((stringslite_CutPrefix.f a0 a1).bind fun bt165 => (some (bt165.1, bt165.2))) = some (r1, r2) := h
 clear h
 replace H := Option.bind_eq_some_iff.mp H
 obtain ⟨⟨t165, t166⟩, A30, H⟩ := H
 replace H : (some (t165, t166)) = some (r1, r2) := H
 have A3 := Aside0.mk A30
 clear A30
 simp only [Option.some.injEq, Prod.mk.injEq] at H
 obtain ⟨rfl, rfl⟩ := H
 go_enter Tryd.func74, Tryd.ntmps74
 go_wp2_with (first | ((with_reducible refine gate_callee (f := 119) rfl ?_); refine zc (some 8) Tryd.func119 #[.string a0, .string a1] ?_; (with_reducible refine (stringslite_CutPrefix.calls a0 a1 t165 t166 _ A3.out).mono ?_); rintro e w' ⟨rfl, ⟨nd, rfl⟩⟩; refine ⟨_, rfl, ?_⟩))
 go_ret2
 exact ⟨zE _, zd _⟩

/-! ### strconv_ParseInt: function 75 -/
def strconv_ParseInt.f (a0 : ByteArray) (a1 a2 : Int) : Option (Int × Option Int) := if a1 = 10 then (if a2 = 64 then (if a0.size ≤ 140737488351232 then some (match Go.Lib.parseIntB 64 a0.data.toList with | .ok v => (v, none) | .range => (Go.Lib.intSat 64 a0.data.toList, some 1) | _ => (0, some 2)) else none) else none) else none
def strconv_ParseInt.Ev (r : Option Int) (v : Value) : Prop := match r with | none => v = .nilIface | some _ => ∃ t p, v = .iface t p
theorem strconv_ParseInt.calls (a0 : ByteArray) (a1 a2 : Int) (r1 : Int) (r2 : Option Int) (w : World) (hG : GW w) (h : strconv_ParseInt.f a0 a1 a2 = some (r1, r2)) :
 Calls Tryd.prog 75 #[.string a0, .int .i64 a1, .int .i64 a2] w fun e w' => (∃ ev, e = .returned (.tuple #[.int .i64 r1, ev]) ∧ strconv_ParseInt.Ev r2 ev) ∧ Below w.heap.size w w' := by
 unfold strconv_ParseInt.f at h
 by_cases h1 : a1 = 10
 ·by_cases h2 : a2 = 64
  ·by_cases h3 : a0.size ≤ 140737488351232
   ·rw [if_pos h1, if_pos h2, if_pos h3] at h
    subst h1
    subst h2
    obtain ⟨u1, v1, g1⟩ := hG.errsx
    obtain ⟨u2, v2, g2⟩ := hG.errrg
    cases hp : Go.Lib.parseIntB 64 a0.data.toList with
    | ok v =>
     rw [hp] at h
     obtain ⟨rfl, rfl⟩ := Prod.mk.inj (Option.some.inj h)
     refine (Go.Proofs.Any.strconv_ParseInt_10_at64_ok Tryd.laysC174 a0 (by omega) v hp w).mono ?_
     rintro e w' ⟨rfl, hw⟩
     refine ⟨⟨_, rfl, rfl⟩, ?_⟩
     rcases hw with rfl | ⟨t, rfl⟩
     ·exact Below.refl _ _
     ·exact Go.Lib.bytesWorld_below _ _ _
    | range =>
     rw [hp] at h
     obtain ⟨rfl, rfl⟩ := Prod.mk.inj (Option.some.inj h)
     refine (Go.Proofs.Any.strconv_ParseInt_10_at64_range_var Tryd.laysC174 a0 (by omega) hp u2 v2 w g2).mono ?_
     rintro e w' ⟨N, rfl, _, _, hb⟩
     exact ⟨⟨_, rfl, ⟨_, _, rfl⟩⟩, hb⟩
    | _ =>
     rw [hp] at h
     obtain ⟨rfl, rfl⟩ := Prod.mk.inj (Option.some.inj h)
     refine (Go.Proofs.Any.strconv_ParseInt_10_at64_syntax_var Tryd.laysC174 a0 (by omega) hp u1 v1 w g1).mono ?_
     rintro e w' ⟨N, rfl, _, _, hb⟩
     exact ⟨⟨_, rfl, ⟨_, _, rfl⟩⟩, hb⟩
   ·rw [if_pos h1, if_pos h2, if_neg h3] at h
    cases h
  ·rw [if_pos h1, if_neg h2] at h
   cases h
 ·rw [if_neg h1] at h
  cases h

/-! ### slices_Index_string_string: function 76 -/
def slices_Index_string_string.l0 : Nat → List ByteArray → ByteArray → Int → Int → Option (Int)
  | 0, _, _, _, _ => none
  | k + 1, x0, x1, x7, x8 => if x8 < x7 then (if 0 ≤ x8 then (if x8 < (x0.length : Int) then (if x1.toList = (rdOf ByteArray.empty x0 x8).toList then (some x8) else (slices_Index_string_string.l0 k x0 x1 x7 (wrap64 (x8 + 1)))) else (none)) else (none)) else (some (-1))
def slices_Index_string_string.f (k : Nat) (l0 : List ByteArray) (a1 : ByteArray) : Option (Int) := slices_Index_string_string.l0 k l0 a1 (l0.length : Int) 0
theorem slices_Index_string_string.mono_l : ∀ k, (∀ y0 y1 y2 y3, LeO (slices_Index_string_string.l0 k y0 y1 y2 y3) (slices_Index_string_string.l0 (k + 1) y0 y1 y2 y3))
  | 0 => fun _ _ _ _ r h => by simp [slices_Index_string_string.l0] at h
  | k + 1 => by
    have ih0 := slices_Index_string_string.mono_l k
    · intro y0 y1 y2 y3
      unfold slices_Index_string_string.l0
      repeat' first
      | (with_reducible exact ih0 _ _ _ _)
      | (with_reducible exact LeO.refl _)
      | (with_reducible exact LeO.none _)
      | (with_reducible refine LeO.ite ?_ ?_)
      | (with_reducible refine LeO.bind ?_ (fun _ => ?_))
      | exact ih0 _ _ _ _
      | exact LeO.none _
      | refine LeO.ite ?_ ?_
      | refine LeO.bind ?_ (fun _ => ?_)
theorem slices_Index_string_string.mono : ∀ a0 a1 k, LeO (slices_Index_string_string.f k a0 a1) (slices_Index_string_string.f (k + 1) a0 a1) := by
  intro a0 a1 k
  have ih0 := slices_Index_string_string.mono_l k
  unfold slices_Index_string_string.f
  repeat' first
      | (with_reducible exact ih0 _ _ _ _)
      | (with_reducible exact LeO.refl _)
      | (with_reducible exact LeO.none _)
      | (with_reducible refine LeO.ite ?_ ?_)
      | (with_reducible refine LeO.bind ?_ (fun _ => ?_))
      | exact ih0 _ _ _ _
      | exact LeO.none _
      | refine LeO.ite ?_ ?_
      | refine LeO.bind ?_ (fun _ => ?_)
set_option maxHeartbeats 8000000 in
set_option maxRecDepth 100000 in
theorem slices_Index_string_string.calls (k : Nat) (A0 : Option Addr) (c0 : Nat) (l0 : List ByteArray) (a1 : ByteArray) (r : Int) (w : World) (hr0 : Kd.C Kd.string w A0 l0.length l0) (hc0 : l0.length ≤ c0) (h : slices_Index_string_string.f k l0 a1 = some r) :
 Calls Tryd.prog 76 #[.slice A0 l0.length c0, .string a1] w fun e w' => e = .returned (.int .i64 r) ∧ Drawn0 w w' := by
 have HR0 := Aside0.mk hr0
 have HC0 := Aside0.mk hc0
 clear hr0 hc0
 have H : (slices_Index_string_string.l0 k l0 a1 (l0.length : Int) 0) = some r := h
 clear h
 have H' := Aside0.mk H
 clear H
 go_enter Tryd.func76, Tryd.ntmps76
 go_wp2
 go_loopg [8] k (fun kq v8 w' => ∃ (x8_1 : Int), v8 = .int .i64 x8_1 ∧ Aside0 (slices_Index_string_string.l0 kq l0 a1 (l0.length : Int) x8_1 = some r) ∧ Aside0 (kq ≤ k) ∧ Drawn0 w w')
 case atStart => exact ⟨(0), (zE _), H', ⟨Nat.le_refl _⟩, zd _⟩
 case round =>
  clear H'
  try clear p2
  obtain ⟨x8_1, rfl, HA, HK1, ⟨m1, rfl⟩⟩ := hrel
  cases gk with
  | zero => exact absurd HA.out (by simp [slices_Index_string_string.l0])
  | succ k1 =>
   have H := HA.out
   clear HA
   simp only [slices_Index_string_string.l0] at H
   by_cases c3 : x8_1 < (l0.length : Int)
   ·rw [if_pos c3] at H
    have c3b0 : decide (x8_1 < (l0.length : Int)) = true := decide_eq_true c3
    clear c3
    by_cases c4 : 0 ≤ x8_1
    ·rw [if_pos c4] at H
     have c4b0 : decide (0 ≤ x8_1) = true := decide_eq_true c4
     clear c4
     by_cases c5 : x8_1 < (l0.length : Int)
     ·rw [if_pos c5] at H
      have c5b0 : decide (x8_1 < (l0.length : Int)) = true := decide_eq_true c5
      clear c5
      by_cases c6 : a1.toList = (rdOf ByteArray.empty l0 x8_1).toList
      ·rw [if_pos c6] at H
       have c6b0 : (a1.toList == (rdOf ByteArray.empty l0 x8_1).toList) = true := beq_iff_eq.mpr c6
       have c6b1 : (a1.toList != (rdOf ByteArray.empty l0 x8_1).toList) = false := bne_eq_false_iff_eq.mpr c6
       clear c6
       obtain rfl := Option.some.inj H
       have p167 : 0 ≤ (x8_1 : Int) := of_decide_eq_true (za _)
       have q167 : x8_1 < (l0.length : Int) := of_decide_eq_true (za _)
       obtain ⟨ad167, e167, hx167_0⟩ := Kd.at_string HR0.out x8_1 p167 q167
       cases e167
       replace p167 := eq_true p167
       replace q167 := eq_true q167
       go_wp2
       first | go_ret | ((try simp only [Exit.inBlock, Exit.then]); apply bodyPost_ret; (exact results_tmp rfl _ _ _); rfl)
       exact ⟨zE _, zd _⟩
      ·rw [if_neg c6] at H
       have c6b0 : (a1.toList == (rdOf ByteArray.empty l0 x8_1).toList) = false := beq_eq_false_iff_ne.mpr c6
       have c6b1 : (a1.toList != (rdOf ByteArray.empty l0 x8_1).toList) = true := bne_iff_ne.mpr c6
       have H' := Aside0.mk H
       clear H
       have p167 : 0 ≤ (x8_1 : Int) := of_decide_eq_true (za _)
       have q167 : x8_1 < (l0.length : Int) := of_decide_eq_true (za _)
       obtain ⟨ad167, e167, hx167_0⟩ := Kd.at_string HR0.out x8_1 p167 q167
       cases e167
       replace p167 := eq_true p167
       replace q167 := eq_true q167
       go_wp2
       go_roundg k1
       case measure => have := HK1.out; omega
       case rel => exact ⟨(wrap64 (x8_1 + 1)), (zE _), H', ⟨by have := HK1.out; omega⟩, zd _⟩
     ·rw [if_neg c5] at H
      exact absurd H (by simp)
    ·rw [if_neg c4] at H
     exact absurd H (by simp)
   ·rw [if_neg c3] at H
    have c3b0 : decide (x8_1 < (l0.length : Int)) = false := decide_eq_false c3
    clear c3
    obtain rfl := Option.some.inj H
    go_wp2
    first | go_ret | ((try simp only [Exit.inBlock, Exit.then]); apply bodyPost_ret; (exact results_tmp rfl _ _ _); rfl)
    exact ⟨zE _, zd _⟩

/-! ### impl_opWords: function 77 -/
def impl_opWords.f  : Option (List ByteArray) := (strings_Split.f (⟨#[110, 101, 103, 32, 110, 111, 116, 32, 104, 105, 103, 104, 32, 108, 111, 119, 32, 43, 32, 45, 32, 42, 32, 47, 32, 37, 32, 38, 32, 94, 32, 124, 32, 60, 60, 32, 62, 62]⟩ : ByteArray) (⟨#[32]⟩ : ByteArray)).bind fun t168 => (some t168)
set_option maxHeartbeats 8000000 in
set_option maxRecDepth 100000 in
theorem impl_opWords.calls  (r : List ByteArray) (w : World) (hG : GW w) (h : impl_opWords.f  = some r) :
 Calls Tryd.prog 77 #[] w fun e w' => ∃ v0_ : Value, e = .returned (v0_) ∧ Kd.R Kd.string 9 w' w.heap.size (fun _ => True) v0_ r ∧ Below w.heap.size w w' := by
 have HB := Aside0.mk (Below.refl w.heap.size w)
 have HG := Aside0.mk hG
 clear hG
 have H : ((strings_Split.f (⟨#[110, 101, 103, 32, 110, 111, 116, 32, 104, 105, 103, 104, 32, 108, 111, 119, 32, 43, 32, 45, 32, 42, 32, 47, 32, 37, 32, 38, 32, 94, 32, 124, 32, 60, 60, 32, 62, 62]⟩ : ByteArray) (⟨#[32]⟩ : ByteArray)).bind fun t168 => (some t168)) = some r := h
 clear h
 obtain ⟨t168, A10, H⟩ := Option.bind_eq_some_iff.mp H
 have A1 := Aside0.mk A10
 clear A10
 obtain rfl := Option.some.inj H
 go_enter Tryd.func77, Tryd.ntmps77
 go_wp2_with (first | ((with_reducible refine gate_callee (f := 67) rfl ?_); refine zc (some 1) Tryd.func67 #[.string (⟨#[110, 101, 103, 32, 110, 111, 116, 32, 104, 105, 103, 104, 32, 108, 111, 119, 32, 43, 32, 45, 32, 42, 32, 47, 32, 37, 32, 38, 32, 94, 32, 124, 32, 60, 60, 32, 62, 62]⟩ : ByteArray), .string (⟨#[32]⟩ : ByteArray)] ?_; (with_reducible refine (strings_Split.calls (⟨#[110, 101, 103, 32, 110, 111, 116, 32, 104, 105, 103, 104, 32, 108, 111, 119, 32, 43, 32, 45, 32, 42, 32, 47, 32, 37, 32, 38, 32, 94, 32, 124, 32, 60, 60, 32, 62, 62]⟩ : ByteArray) (⟨#[32]⟩ : ByteArray) t168 _ ?side1 A1.out).mono ?_); (case side1 => exact GW.below HG.out (zb _)); rintro e w2 ⟨v169, rfl, ho0, hb⟩; refine ⟨_, rfl, ?_⟩; have HO170 := Aside0.mk (Kd.R_lower ho0 (below_size (zb _))); replace HB := zt w hb; (try clear hb); (try clear hb2); (try clear hk); (try clear hi); (try clear ho0)))
 first | go_ret | ((try simp only [Exit.inBlock, Exit.then]); apply bodyPost_ret; (exact results_tmp rfl _ _ _); rfl)
 exact ⟨_, by first | rfl | (simp [errW_none, errW_some] <;> rfl) | (simp [*, errW_none, errW_some] <;> rfl), by (with_reducible repeat (first | apply Kd.R_alloc | apply Kd.R_drewN | apply Kd.R_drew)); exact HO170.out, zb _⟩

/-! ### impl_within: function 47 -/
def impl_within.f (a0 : Int) (a1 : Int) (a2 : Int) : Option (Bool) := if a0 ≥ a1 then (some (decide (a0 ≤ a2))) else (some false)
set_option maxHeartbeats 8000000 in
set_option maxRecDepth 100000 in
theorem impl_within.calls (a0 : Int) (a1 : Int) (a2 : Int) (r : Bool) (w : World) (h : impl_within.f a0 a1 a2 = some r) :
 Calls Tryd.prog 47 #[.int .i64 a0, .int .i64 a1, .int .i64 a2] w fun e w' => e = .returned (.bool r) ∧ Drawn0 w w' := by
 have H : (if a0 ≥ a1 then (some (decide (a0 ≤ a2))) else (some false)) = some r := h
 clear h
 by_cases c4 : a0 ≥ a1
 ·rw [if_pos c4] at H
  have c4b0 : decide (a1 ≤ a0) = true := decide_eq_true c4
  clear c4
  obtain rfl := Option.some.inj H
  go_enter Tryd.func47, Tryd.ntmps47
  go_wp2
  first | go_ret | ((try simp only [Exit.inBlock, Exit.then]); apply bodyPost_ret; (exact results_tmp rfl _ _ _); rfl)
  exact ⟨zE _, zd _⟩
 ·rw [if_neg c4] at H
  have c4b0 : decide (a1 ≤ a0) = false := decide_eq_false c4
  clear c4
  obtain rfl := Option.some.inj H
  go_enter Tryd.func47, Tryd.ntmps47
  go_wp2
  first | go_ret | ((try simp only [Exit.inBlock, Exit.then]); apply bodyPost_ret; (exact results_tmp rfl _ _ _); rfl)
  exact ⟨zE _, zd _⟩

/-! ### impl_isWord: function 48 -/
def impl_isWord.f (a0 : Int) : Option (Bool) := (impl_within.f a0 0 65535).bind fun t171 => (some t171)
set_option maxHeartbeats 8000000 in
set_option maxRecDepth 100000 in
theorem impl_isWord.calls (a0 : Int) (r : Bool) (w : World) (h : impl_isWord.f a0 = some r) :
 Calls Tryd.prog 48 #[.int .i64 a0] w fun e w' => e = .returned (.bool r) ∧ Drawn0 w w' := by
 have H : ((impl_within.f a0 0 65535).bind fun t171 => (some t171)) = some r := h
 clear h
 obtain ⟨t171, A20, H⟩ := Option.bind_eq_some_iff.mp H
 have A2 := Aside0.mk A20
 clear A20
 obtain rfl := Option.some.inj H
 go_enter Tryd.func48, Tryd.ntmps48
 go_wp2_with (first | ((with_reducible refine gate_callee (f := 47) rfl ?_); refine zc (some 4) Tryd.func47 #[.int .i64 a0, .int .i64 0, .int .i64 65535] ?_; (with_reducible refine (impl_within.calls a0 0 65535 t171 _ A2.out).mono ?_); rintro e w' ⟨rfl, ⟨nd, rfl⟩⟩; refine ⟨_, rfl, ?_⟩))
 first | go_ret | ((try simp only [Exit.inBlock, Exit.then]); apply bodyPost_ret; (exact results_tmp rfl _ _ _); rfl)
 exact ⟨zE _, zd _⟩

/-! ### impl_isDigit: function 164 -/
def impl_isDigit.f (a0 : Int) : Option (Bool) := if a0 ≥ 48 then (some (decide (a0 ≤ 57))) else (some false)
set_option maxHeartbeats 8000000 in
set_option maxRecDepth 100000 in
theorem impl_isDigit.calls (a0 : Int) (r : Bool) (w : World) (h : impl_isDigit.f a0 = some r) :
 Calls Tryd.prog 164 #[.int .u8 a0] w fun e w' => e = .returned (.bool r) ∧ Drawn0 w w' := by
 have H : (if a0 ≥ 48 then (some (decide (a0 ≤ 57))) else (some false)) = some r := h
 clear h
 by_cases c2 : a0 ≥ 48
 ·rw [if_pos c2] at H
  have c2b0 : decide (48 ≤ a0) = true := decide_eq_true c2
  clear c2
  obtain rfl := Option.some.inj H
  go_enter Tryd.func164, Tryd.ntmps164
  go_wp2
  first | go_ret | ((try simp only [Exit.inBlock, Exit.then]); apply bodyPost_ret; (exact results_tmp rfl _ _ _); rfl)
  exact ⟨zE _, zd _⟩
 ·rw [if_neg c2] at H
  have c2b0 : decide (48 ≤ a0) = false := decide_eq_false c2
  clear c2
  obtain rfl := Option.some.inj H
  go_enter Tryd.func164, Tryd.ntmps164
  go_wp2
  first | go_ret | ((try simp only [Exit.inBlock, Exit.then]); apply bodyPost_ret; (exact results_tmp rfl _ _ _); rfl)
  exact ⟨zE _, zd _⟩

/-! ### impl_isSmall: function 165 -/
def impl_isSmall.f (a0 : Int) : Option (Bool) := if a0 ≥ 97 then (some (decide (a0 ≤ 122))) else (some false)
set_option maxHeartbeats 8000000 in
set_option maxRecDepth 100000 in
theorem impl_isSmall.calls (a0 : Int) (r : Bool) (w : World) (h : impl_isSmall.f a0 = some r) :
 Calls Tryd.prog 165 #[.int .u8 a0] w fun e w' => e = .returned (.bool r) ∧ Drawn0 w w' := by
 have H : (if a0 ≥ 97 then (some (decide (a0 ≤ 122))) else (some false)) = some r := h
 clear h
 by_cases c2 : a0 ≥ 97
 ·rw [if_pos c2] at H
  have c2b0 : decide (97 ≤ a0) = true := decide_eq_true c2
  clear c2
  obtain rfl := Option.some.inj H
  go_enter Tryd.func165, Tryd.ntmps165
  go_wp2
  first | go_ret | ((try simp only [Exit.inBlock, Exit.then]); apply bodyPost_ret; (exact results_tmp rfl _ _ _); rfl)
  exact ⟨zE _, zd _⟩
 ·rw [if_neg c2] at H
  have c2b0 : decide (97 ≤ a0) = false := decide_eq_false c2
  clear c2
  obtain rfl := Option.some.inj H
  go_enter Tryd.func165, Tryd.ntmps165
  go_wp2
  first | go_ret | ((try simp only [Exit.inBlock, Exit.then]); apply bodyPost_ret; (exact results_tmp rfl _ _ _); rfl)
  exact ⟨zE _, zd _⟩

/-! ### impl_NameOk: function 135 -/
mutual
def impl_NameOk.j0 : Nat → ByteArray → Bool → Option (Bool)
  | 0, _, _ => none
  | k + 1, x0, x12 => if x12 = true then (some false) else (impl_NameOk.l0 k x0 (x0.size : Int) 0)
def impl_NameOk.l0 : Nat → ByteArray → Int → Int → Option (Bool)
  | 0, _, _, _ => none
  | k + 1, x0, x14, x15 => if x15 < x14 then (if 0 ≤ x15 then (if x15 < (x0.size : Int) then ((impl_isSmall.f (bt x0 x15)).bind fun t174 => (if t174 = true then (impl_NameOk.l0 k x0 x14 (wrap64 (x15 + 1))) else ((impl_isDigit.f (bt x0 x15)).bind fun t175 => (if t175 = true then (impl_NameOk.l0 k x0 x14 (wrap64 (x15 + 1))) else (if (bt x0 x15) = 95 then (impl_NameOk.l0 k x0 x14 (wrap64 (x15 + 1))) else (if (bt x0 x15) = 46 then (impl_NameOk.l0 k x0 x14 (wrap64 (x15 + 1))) else (some false))))))) else (none)) else (none)) else (some true)
end
def impl_NameOk.f (k : Nat) (a0 : ByteArray) : Option (Bool) := (impl_within.f (a0.size : Int) 1 16).bind fun t172 => (if t172 = true then (if 0 < (a0.size : Int) then ((impl_isDigit.f (bt a0 0)).bind fun t173 => (impl_NameOk.j0 k a0 t173)) else (none)) else (impl_NameOk.j0 k a0 true))
theorem impl_NameOk.mono_l : ∀ k, (∀ y0 y1, LeO (impl_NameOk.j0 k y0 y1) (impl_NameOk.j0 (k + 1) y0 y1)) ∧ (∀ y0 y1 y2, LeO (impl_NameOk.l0 k y0 y1 y2) (impl_NameOk.l0 (k + 1) y0 y1 y2))
  | 0 => ⟨fun _ _ r h => by simp [impl_NameOk.j0] at h, fun _ _ _ r h => by simp [impl_NameOk.l0] at h⟩
  | k + 1 => by
    obtain ⟨ih0, ih1⟩ := impl_NameOk.mono_l k
    refine ⟨?_, ?_⟩
    · intro y0 y1
      unfold impl_NameOk.j0
      repeat' first
      | (with_reducible exact ih0 _ _)
      | (with_reducible exact ih1 _ _ _)
      | (with_reducible exact LeO.refl _)
      | (with_reducible exact LeO.none _)
      | (with_reducible refine LeO.ite ?_ ?_)
      | (with_reducible refine LeO.bind ?_ (fun _ => ?_))
      | exact ih0 _ _
      | exact ih1 _ _ _
      | exact LeO.none _
      | refine LeO.ite ?_ ?_
      | refine LeO.bind ?_ (fun _ => ?_)
    · intro y0 y1 y2
      unfold impl_NameOk.l0
      repeat' first
      | (with_reducible exact ih0 _ _)
      | (with_reducible exact ih1 _ _ _)
      | (with_reducible exact LeO.refl _)
      | (with_reducible exact LeO.none _)
      | (with_reducible refine LeO.ite ?_ ?_)
      | (with_reducible refine LeO.bind ?_ (fun _ => ?_))
      | exact ih0 _ _
      | exact ih1 _ _ _
      | exact LeO.none _
      | refine LeO.ite ?_ ?_
      | refine LeO.bind ?_ (fun _ => ?_)
theorem impl_NameOk.mono : ∀ a0 k, LeO (impl_NameOk.f k a0) (impl_NameOk.f (k + 1) a0) := by
  intro a0 k
  obtain ⟨ih0, ih1⟩ := impl_NameOk.mono_l k
  unfold impl_NameOk.f
  repeat' first
      | (with_reducible exact ih0 _ _)
      | (with_reducible exact ih1 _ _ _)
      | (with_reducible exact LeO.refl _)
      | (with_reducible exact LeO.none _)
      | (with_reducible refine LeO.ite ?_ ?_)
      | (with_reducible refine LeO.bind ?_ (fun _ => ?_))
      | exact ih0 _ _
      | exact ih1 _ _ _
      | exact LeO.none _
      | refine LeO.ite ?_ ?_
      | refine LeO.bind ?_ (fun _ => ?_)
set_option maxHeartbeats 8000000 in
set_option maxRecDepth 100000 in
theorem impl_NameOk.calls (k : Nat) (a0 : ByteArray) (r : Bool) (w : World) (h : impl_NameOk.f k a0 = some r) :
 Calls Tryd.prog 135 #[.string a0] w fun e w' => e = .returned (.bool r) ∧ Drawn0 w w' := by
 have H : ((impl_within.f (a0.size : Int) 1 16).bind fun t172 => (if t172 = true then (if 0 < (a0.size : Int) then ((impl_isDigit.f (bt a0 0)).bind fun t173 => (impl_NameOk.j0 k a0 t173)) else (none)) else (impl_NameOk.j0 k a0 true))) = some r := h
 clear h
 have HC2 := Aside0.mk H
 clear H
 go_enter Tryd.func135, Tryd.ntmps135
 go_upto_region 1 with (fail)
 go_cut [12] (fun v12 wc => ∃ (kq : Nat) (x12_1 : Bool), v12 = .bool x12_1 ∧ Aside0 (impl_NameOk.j0 kq a0 x12_1 = some r) ∧ Aside0 (kq ≤ k) ∧ Drawn0 w wc)
 case first =>
  have H := HC2.out
  clear HC2
  obtain ⟨t172, A30, H⟩ := Option.bind_eq_some_iff.mp H
  have A3 := Aside0.mk A30
  clear A30
  by_cases c4 : t172 = true
  ·subst c4
   rw [if_pos rfl] at H
   by_cases c5 : 0 < (a0.size : Int)
   ·rw [if_pos c5] at H
    have c5b0 : decide (0 < (a0.size : Int)) = true := decide_eq_true c5
    have c5b1 : decide (0 < a0.size) = true := decide_eq_true (by omega)
    clear c5
    (first | rw [c5b0] | (simp only [i64_w, i32_w]; rw [c5b0]) | skip)
    obtain ⟨t173, A70, H⟩ := Option.bind_eq_some_iff.mp H
    have A7 := Aside0.mk A70
    clear A70
    have H' := Aside0.mk H
    clear H
    go_wp2_with (first | ((with_reducible refine gate_callee (f := 47) rfl ?_); refine zc (some 6) Tryd.func47 #[.int .i64 (a0.size : Int), .int .i64 1, .int .i64 16] ?_; (with_reducible refine (impl_within.calls (a0.size : Int) 1 16 true _ A3.out).mono ?_); rintro e w' ⟨rfl, ⟨nd, rfl⟩⟩; refine ⟨_, rfl, ?_⟩; have p6 : 0 ≤ (0 : Int) := (by omega); have q6 : 0 < a0.size := (by have : (0 : Int) < (a0.size : Int) := of_decide_eq_true (za _); omega); have hx6 : ∀ h : 0 < a0.size, ((a0[0]'h).toNat : Int) = bt a0 0 := bt_at a0 0; clear p6; have qi6 : (0 < (a0.size : Int)) = True := eq_true (of_decide_eq_true (za _)); replace q6 := eq_true q6) | (go_at_call 164; (with_reducible refine (impl_isDigit.calls (bt a0 0) t173 _ A7.out).mono ?_); rintro e w' ⟨rfl, ⟨nd, rfl⟩⟩))
    go_meet
    case rel => exact ⟨_, (t173), (zE _), H', ⟨by first | omega | exact Nat.le_refl _⟩, zd _⟩
   ·rw [if_neg c5] at H
    exact absurd H (by simp)
  ·replace c4 := Bool.eq_false_iff.mpr c4
   subst c4
   rw [if_neg (show ¬ (false = true) by decide)] at H
   have H' := Aside0.mk H
   clear H
   go_wp2_with (first | ((with_reducible refine gate_callee (f := 47) rfl ?_); refine zc (some 6) Tryd.func47 #[.int .i64 (a0.size : Int), .int .i64 1, .int .i64 16] ?_; (with_reducible refine (impl_within.calls (a0.size : Int) 1 16 false _ A3.out).mono ?_); rintro e w' ⟨rfl, ⟨nd, rfl⟩⟩; refine ⟨_, rfl, ?_⟩))
   go_meet
   case rel => exact ⟨_, (true), (zE _), H', ⟨by first | omega | exact Nat.le_refl _⟩, zd _⟩
 case rest =>
  clear HC2
  try clear c1
  try clear p2
  try clear c4
  try clear c5
  try clear c5b0
  try clear c5b1
  try clear p6
  try clear q6
  try clear hx6
  try clear qi6
  try clear p6
  try clear q6
  obtain ⟨kq, x12_1, rfl, HA, HJ1, ⟨mc1, rfl⟩⟩ := hcut
  cases kq with
  | zero => exact absurd HA.out (by simp [impl_NameOk.j0])
  | succ kj1 =>
   have H := HA.out
   clear HA
   simp only [impl_NameOk.j0] at H
   by_cases c8 : x12_1 = true
   ·subst c8
    rw [if_pos rfl] at H
    obtain rfl := Option.some.inj H
    go_wp2
    first | go_ret | ((try simp only [Exit.inBlock, Exit.then]); apply bodyPost_ret; (exact results_tmp rfl _ _ _); rfl)
    exact ⟨zE _, zd _⟩
   ·replace c8 := Bool.eq_false_iff.mpr c8
    subst c8
    rw [if_neg (show ¬ (false = true) by decide)] at H
    have H' := Aside0.mk H
    clear H
    go_wp2
    go_loopg [15] kj1 (fun kq v15 w' => ∃ (x15_2 : Int), v15 = .int .i64 x15_2 ∧ Aside0 (impl_NameOk.l0 kq a0 (a0.size : Int) x15_2 = some r) ∧ Aside0 (kq ≤ kj1) ∧ Drawn0 w w')
    case atStart => exact ⟨(0), (zE _), H', ⟨Nat.le_refl _⟩, zd _⟩
    case round =>
     clear H'
     try clear c1
     try clear p2
     try clear c4
     try clear c5
     try clear c5b0
     try clear c5b1
     try clear p6
     try clear q6
     try clear hx6
     try clear qi6
     try clear c8
     try clear p2
     try clear p6
     try clear q6
     obtain ⟨x15_2, rfl, HA, HK2, ⟨m2, rfl⟩⟩ := hrel
     cases gk with
     | zero => exact absurd HA.out (by simp [impl_NameOk.l0])
     | succ k2 =>
      have H := HA.out
      clear HA
      simp only [impl_NameOk.l0] at H
      by_cases c9 : x15_2 < (a0.size : Int)
      ·rw [if_pos c9] at H
       have c9b0 : decide (x15_2 < (a0.size : Int)) = true := decide_eq_true c9
       clear c9
       by_cases c10 : 0 ≤ x15_2
       ·rw [if_pos c10] at H
        have c10b0 : decide (0 ≤ x15_2) = true := decide_eq_true c10
        clear c10
        by_cases c11 : x15_2 < (a0.size : Int)
        ·rw [if_pos c11] at H
         have c11b0 : decide (x15_2 < (a0.size : Int)) = true := decide_eq_true c11
         clear c11
         obtain ⟨t174, A130, H⟩ := Option.bind_eq_some_iff.mp H
         have A13 := Aside0.mk A130
         clear A130
         by_cases c14 : t174 = true
         ·subst c14
          rw [if_pos rfl] at H
          have H' := Aside0.mk H
          clear H
          have p12 : 0 ≤ (x15_2 : Int) := of_decide_eq_true (za _)
          have q12 : x15_2 < (a0.size : Int) := of_decide_eq_true (za _)
          have hx12 := bt_at a0 x15_2
          replace p12 := eq_true p12
          replace q12 := eq_true q12
          go_wp2_with (first | ((with_reducible refine gate_callee (f := 165) rfl ?_); refine zc (some 21) Tryd.func165 #[.int .u8 (bt a0 x15_2)] ?_; (with_reducible refine (impl_isSmall.calls (bt a0 x15_2) true _ A13.out).mono ?_); rintro e w' ⟨rfl, ⟨nd, rfl⟩⟩; refine ⟨_, rfl, ?_⟩))
          go_roundg k2
          case measure => have := HJ1.out; have := HK2.out; omega
          case rel => exact ⟨(wrap64 (x15_2 + 1)), (zE _), H', ⟨by have := HJ1.out; have := HK2.out; omega⟩, zd _⟩
         ·replace c14 := Bool.eq_false_iff.mpr c14
          subst c14
          rw [if_neg (show ¬ (false = true) by decide)] at H
          obtain ⟨t175, A160, H⟩ := Option.bind_eq_some_iff.mp H
          have A16 := Aside0.mk A160
          clear A160
          by_cases c17 : t175 = true
          ·subst c17
           rw [if_pos rfl] at H
           have H' := Aside0.mk H
           clear H
           have p12 : 0 ≤ (x15_2 : Int) := of_decide_eq_true (za _)
           have q12 : x15_2 < (a0.size : Int) := of_decide_eq_true (za _)
           have hx12 := bt_at a0 x15_2
           replace p12 := eq_true p12
           replace q12 := eq_true q12
           go_wp2_with (first | ((with_reducible refine gate_callee (f := 165) rfl ?_); refine zc (some 21) Tryd.func165 #[.int .u8 (bt a0 x15_2)] ?_; (with_reducible refine (impl_isSmall.calls (bt a0 x15_2) false _ A13.out).mono ?_); rintro e w' ⟨rfl, ⟨nd, rfl⟩⟩; refine ⟨_, rfl, ?_⟩; have p15 : 0 ≤ (x15_2 : Int) := of_decide_eq_true (za _); have q15 : x15_2 < (a0.size : Int) := of_decide_eq_true (za _); have hx15 := bt_at a0 x15_2; replace p15 := eq_true p15; replace q15 := eq_true q15) | (go_at_call 164; (with_reducible refine (impl_isDigit.calls (bt a0 x15_2) true _ A16.out).mono ?_); rintro e w' ⟨rfl, ⟨nd, rfl⟩⟩))
           go_roundg k2
           case measure => have := HJ1.out; have := HK2.out; omega
           case rel => exact ⟨(wrap64 (x15_2 + 1)), (zE _), H', ⟨by have := HJ1.out; have := HK2.out; omega⟩, zd _⟩
          ·replace c17 := Bool.eq_false_iff.mpr c17
           subst c17
           rw [if_neg (show ¬ (false = true) by decide)] at H
           by_cases c19 : (bt a0 x15_2) = 95
           ·rw [if_pos c19] at H
            have c19b0 : ((bt a0 x15_2) == 95) = true := beq_iff_eq.mpr c19
            have c19b1 : ((bt a0 x15_2) != 95) = false := bne_eq_false_iff_eq.mpr c19
            clear c19
            have H' := Aside0.mk H
            clear H
            have p12 : 0 ≤ (x15_2 : Int) := of_decide_eq_true (za _)
            have q12 : x15_2 < (a0.size : Int) := of_decide_eq_true (za _)
            have hx12 := bt_at a0 x15_2
            replace p12 := eq_true p12
            replace q12 := eq_true q12
            go_wp2_with (first | ((with_reducible refine gate_callee (f := 165) rfl ?_); refine zc (some 21) Tryd.func165 #[.int .u8 (bt a0 x15_2)] ?_; (with_reducible refine (impl_isSmall.calls (bt a0 x15_2) false _ A13.out).mono ?_); rintro e w' ⟨rfl, ⟨nd, rfl⟩⟩; refine ⟨_, rfl, ?_⟩; have p15 : 0 ≤ (x15_2 : Int) := of_decide_eq_true (za _); have q15 : x15_2 < (a0.size : Int) := of_decide_eq_true (za _); have hx15 := bt_at a0 x15_2; replace p15 := eq_true p15; replace q15 := eq_true q15) | (go_at_call 164; (with_reducible refine (impl_isDigit.calls (bt a0 x15_2) false _ A16.out).mono ?_); rintro e w' ⟨rfl, ⟨nd, rfl⟩⟩; have p18 : 0 ≤ (x15_2 : Int) := of_decide_eq_true (za _); have q18 : x15_2 < (a0.size : Int) := of_decide_eq_true (za _); have hx18 := bt_at a0 x15_2; replace p18 := eq_true p18; replace q18 := eq_true q18))
            go_roundg k2
            case measure => have := HJ1.out; have := HK2.out; omega
            case rel => exact ⟨(wrap64 (x15_2 + 1)), (zE _), H', ⟨by have := HJ1.out; have := HK2.out; omega⟩, zd _⟩
           ·rw [if_neg c19] at H
            have c19b0 : ((bt a0 x15_2) == 95) = false := beq_eq_false_iff_ne.mpr c19
            have c19b1 : ((bt a0 x15_2) != 95) = true := bne_iff_ne.mpr c19
            by_cases c21 : (bt a0 x15_2) = 46
            ·rw [if_pos c21] at H
             have c21b0 : ((bt a0 x15_2) == 46) = true := beq_iff_eq.mpr c21
             have c21b1 : ((bt a0 x15_2) != 46) = false := bne_eq_false_iff_eq.mpr c21
             clear c21
             have H' := Aside0.mk H
             clear H
             have p12 : 0 ≤ (x15_2 : Int) := of_decide_eq_true (za _)
             have q12 : x15_2 < (a0.size : Int) := of_decide_eq_true (za _)
             have hx12 := bt_at a0 x15_2
             replace p12 := eq_true p12
             replace q12 := eq_true q12
             go_wp2_with (first | ((with_reducible refine gate_callee (f := 165) rfl ?_); refine zc (some 21) Tryd.func165 #[.int .u8 (bt a0 x15_2)] ?_; (with_reducible refine (impl_isSmall.calls (bt a0 x15_2) false _ A13.out).mono ?_); rintro e w' ⟨rfl, ⟨nd, rfl⟩⟩; refine ⟨_, rfl, ?_⟩; have p15 : 0 ≤ (x15_2 : Int) := of_decide_eq_true (za _); have q15 : x15_2 < (a0.size : Int) := of_decide_eq_true (za _); have hx15 := bt_at a0 x15_2; replace p15 := eq_true p15; replace q15 := eq_true q15) | (go_at_call 164; (with_reducible refine (impl_isDigit.calls (bt a0 x15_2) false _ A16.out).mono ?_); rintro e w' ⟨rfl, ⟨nd, rfl⟩⟩; have p18 : 0 ≤ (x15_2 : Int) := of_decide_eq_true (za _); have q18 : x15_2 < (a0.size : Int) := of_decide_eq_true (za _); have hx18 := bt_at a0 x15_2; replace p18 := eq_true p18; replace q18 := eq_true q18; have p20 : 0 ≤ (x15_2 : Int) := of_decide_eq_true (za _); have q20 : x15_2 < (a0.size : Int) := of_decide_eq_true (za _); have hx20 := bt_at a0 x15_2; replace p20 := eq_true p20; replace q20 := eq_true q20))
             go_roundg k2
             case measure => have := HJ1.out; have := HK2.out; omega
             case rel => exact ⟨(wrap64 (x15_2 + 1)), (zE _), H', ⟨by have := HJ1.out; have := HK2.out; omega⟩, zd _⟩
            ·rw [if_neg c21] at H
             have c21b0 : ((bt a0 x15_2) == 46) = false := beq_eq_false_iff_ne.mpr c21
             have c21b1 : ((bt a0 x15_2) != 46) = true := bne_iff_ne.mpr c21
             obtain rfl := Option.some.inj H
             have p12 : 0 ≤ (x15_2 : Int) := of_decide_eq_true (za _)
             have q12 : x15_2 < (a0.size : Int) := of_decide_eq_true (za _)
             have hx12 := bt_at a0 x15_2
             replace p12 := eq_true p12
             replace q12 := eq_true q12
             go_wp2_with (first | ((with_reducible refine gate_callee (f := 165) rfl ?_); refine zc (some 21) Tryd.func165 #[.int .u8 (bt a0 x15_2)] ?_; (with_reducible refine (impl_isSmall.calls (bt a0 x15_2) false _ A13.out).mono ?_); rintro e w' ⟨rfl, ⟨nd, rfl⟩⟩; refine ⟨_, rfl, ?_⟩; have p15 : 0 ≤ (x15_2 : Int) := of_decide_eq_true (za _); have q15 : x15_2 < (a0.size : Int) := of_decide_eq_true (za _); have hx15 := bt_at a0 x15_2; replace p15 := eq_true p15; replace q15 := eq_true q15) | (go_at_call 164; (with_reducible refine (impl_isDigit.calls (bt a0 x15_2) false _ A16.out).mono ?_); rintro e w' ⟨rfl, ⟨nd, rfl⟩⟩; have p18 : 0 ≤ (x15_2 : Int) := of_decide_eq_true (za _); have q18 : x15_2 < (a0.size : Int) := of_decide_eq_true (za _); have hx18 := bt_at a0 x15_2; replace p18 := eq_true p18; replace q18 := eq_true q18; have p20 : 0 ≤ (x15_2 : Int) := of_decide_eq_true (za _); have q20 : x15_2 < (a0.size : Int) := of_decide_eq_true (za _); have hx20 := bt_at a0 x15_2; replace p20 := eq_true p20; replace q20 := eq_true q20))
             first | go_ret | ((try simp only [Exit.inBlock, Exit.then]); apply bodyPost_ret; (exact results_tmp rfl _ _ _); rfl)
             exact ⟨zE _, zd _⟩
        ·rw [if_neg c11] at H
         exact absurd H (by simp)
       ·rw [if_neg c10] at H
        exact absurd H (by simp)
      ·rw [if_neg c9] at H
       have c9b0 : decide (x15_2 < (a0.size : Int)) = false := decide_eq_false c9
       clear c9
       obtain rfl := Option.some.inj H
       go_wp2
       first | go_ret | ((try simp only [Exit.inBlock, Exit.then]); apply bodyPost_ret; (exact results_tmp rfl _ _ _); rfl)
       exact ⟨zE _, zd _⟩

/-! ### impl_isNode: function 122 -/
def impl_isNode.j0 : Nat → Bool → Int → Int → ByteArray → Option (Bool)
  | 0, _, _, _, _ => none
  | k + 1, x15, x177000, x177001, x177002 => if x15 = true then (if x177001 = 0 then ((impl_NameOk.f k x177002).bind fun t178 => (some t178)) else (some false)) else ((impl_within.f x177000 4 17).bind fun t179 => (if t179 = true then (if x177001 = 0 then (some (x177002.toList == ([] : List UInt8))) else (some false)) else (some false)))
def impl_isNode.f (k : Nat) (a0_0 : Int) (a0_1 : Int) (a0_2 : ByteArray) : Option (Bool) := if a0_0 = 1 then ((impl_isWord.f a0_1).bind fun t177 => (if t177 = true then (some (a0_2.toList == ([] : List UInt8))) else (some false))) else (if a0_0 = 2 then (impl_isNode.j0 k true a0_0 a0_1 a0_2) else (impl_isNode.j0 k (a0_0 == 3) a0_0 a0_1 a0_2))
theorem impl_isNode.mono_l : ∀ k, (∀ y0 y1 y2 y3, LeO (impl_isNode.j0 k y0 y1 y2 y3) (impl_isNode.j0 (k + 1) y0 y1 y2 y3))
  | 0 => fun _ _ _ _ r h => by simp [impl_isNode.j0] at h
  | k + 1 => by
    have ih0 := impl_isNode.mono_l k
    · intro y0 y1 y2 y3
      unfold impl_isNode.j0
      repeat' first
      | (with_reducible exact ih0 _ _ _ _)
      | (with_reducible exact impl_NameOk.mono _ _)
      | (with_reducible exact LeO.refl _)
      | (with_reducible exact LeO.none _)
      | (with_reducible refine LeO.ite ?_ ?_)
      | (with_reducible refine LeO.bind ?_ (fun _ => ?_))
      | exact ih0 _ _ _ _
      | exact impl_NameOk.mono _ _
      | exact LeO.none _
      | refine LeO.ite ?_ ?_
      | refine LeO.bind ?_ (fun _ => ?_)
theorem impl_isNode.mono : ∀ a0 a1 a2 k, LeO (impl_isNode.f k a0 a1 a2) (impl_isNode.f (k + 1) a0 a1 a2) := by
  intro a0 a1 a2 k
  have ih0 := impl_isNode.mono_l k
  unfold impl_isNode.f
  repeat' first
      | (with_reducible exact ih0 _ _ _ _)
      | (with_reducible exact impl_NameOk.mono _ _)
      | (with_reducible exact LeO.refl _)
      | (with_reducible exact LeO.none _)
      | (with_reducible refine LeO.ite ?_ ?_)
      | (with_reducible refine LeO.bind ?_ (fun _ => ?_))
      | exact ih0 _ _ _ _
      | exact impl_NameOk.mono _ _
      | exact LeO.none _
      | refine LeO.ite ?_ ?_
      | refine LeO.bind ?_ (fun _ => ?_)
set_option maxHeartbeats 8000000 in
set_option maxRecDepth 100000 in
theorem impl_isNode.calls (k : Nat) (a0_0 : Int) (a0_1 : Int) (a0_2 : ByteArray) (r : Bool) (w : World) (h : impl_isNode.f k a0_0 a0_1 a0_2 = some r) :
 Calls Tryd.prog 122 #[.agg #[.int .i64 a0_0, .int .i64 a0_1, .string a0_2]] w fun e w' => e = .returned (.bool r) ∧ Below w.heap.size w w' := by
 have hu77 := Tryd.underlying77
 have HB := Aside0.mk (Below.refl w.heap.size w)
 have H : (if a0_0 = 1 then ((impl_isWord.f a0_1).bind fun t177 => (if t177 = true then (some (a0_2.toList == ([] : List UInt8))) else (some false))) else (if a0_0 = 2 then (impl_isNode.j0 k true a0_0 a0_1 a0_2) else (impl_isNode.j0 k (a0_0 == 3) a0_0 a0_1 a0_2))) = some r := h
 clear h
 by_cases c2 : a0_0 = 1
 ·rw [if_pos c2] at H
  have c2b0 : (a0_0 == 1) = true := beq_iff_eq.mpr c2
  have c2b1 : (a0_0 != 1) = false := bne_eq_false_iff_eq.mpr c2
  clear c2
  obtain ⟨t177, A30, H⟩ := Option.bind_eq_some_iff.mp H
  have A3 := Aside0.mk A30
  clear A30
  by_cases c4 : t177 = true
  ·subst c4
   rw [if_pos rfl] at H
   obtain rfl := Option.some.inj H
   go_enter Tryd.func122, Tryd.ntmps122
   go_wp2_with (first | ((with_reducible refine gate_dst (N := 1) rfl ?_); refine zbx 1 #[.int .i64 a0_0, .int .i64 a0_1, .string a0_2] 77 ?_; intro gb176 hg w5 hbox hb; have BK176 := Aside0.mk (hbox); have GW176 := zs w hg; have GE176 := GW176; replace HB := zt w hb; clear hb hbox hg; have hcz6_0 := zc0 BK176; have hcz6_1 := zc1 BK176; have hcz6_2 := zc2 BK176; have hfz6_0 := blk_frozen BK176.out 0; have hfz6_1 := blk_frozen BK176.out 1; have hfz6_2 := blk_frozen BK176.out 2) | ((with_reducible refine gate_callee (f := 48) rfl ?_); refine zc (some 9) Tryd.func48 #[.int .i64 a0_1] ?_; (with_reducible refine (impl_isWord.calls a0_1 true _ A3.out).mono ?_); rintro e w' ⟨rfl, ⟨nd, rfl⟩⟩; refine ⟨_, rfl, ?_⟩))
   first | go_ret | ((try simp only [Exit.inBlock, Exit.then]); apply bodyPost_ret; (exact results_tmp rfl _ _ _); rfl)
   exact ⟨ze _, zb _⟩
  ·replace c4 := Bool.eq_false_iff.mpr c4
   subst c4
   rw [if_neg (show ¬ (false = true) by decide)] at H
   obtain rfl := Option.some.inj H
   go_enter Tryd.func122, Tryd.ntmps122
   go_wp2_with (first | ((with_reducible refine gate_dst (N := 1) rfl ?_); refine zbx 1 #[.int .i64 a0_0, .int .i64 a0_1, .string a0_2] 77 ?_; intro gb176 hg w7 hbox hb; have BK176 := Aside0.mk (hbox); have GW176 := zs w hg; have GE176 := GW176; replace HB := zt w hb; clear hb hbox hg; have hcz8_0 := zc0 BK176; have hcz8_1 := zc1 BK176; have hcz8_2 := zc2 BK176; have hfz8_0 := blk_frozen BK176.out 0; have hfz8_1 := blk_frozen BK176.out 1; have hfz8_2 := blk_frozen BK176.out 2) | ((with_reducible refine gate_callee (f := 48) rfl ?_); refine zc (some 9) Tryd.func48 #[.int .i64 a0_1] ?_; (with_reducible refine (impl_isWord.calls a0_1 false _ A3.out).mono ?_); rintro e w' ⟨rfl, ⟨nd, rfl⟩⟩; refine ⟨_, rfl, ?_⟩))
   first | go_ret | ((try simp only [Exit.inBlock, Exit.then]); apply bodyPost_ret; (exact results_tmp rfl _ _ _); rfl)
   exact ⟨ze _, zb _⟩
 ·rw [if_neg c2] at H
  have c2b0 : (a0_0 == 1) = false := beq_eq_false_iff_ne.mpr c2
  have c2b1 : (a0_0 != 1) = true := bne_iff_ne.mpr c2
  have HC9 := Aside0.mk H
  clear H
  go_enter Tryd.func122, Tryd.ntmps122
  go_upto_region 3 with (first | ((with_reducible refine gate_dst (N := 1) rfl ?_); refine zbx 1 #[.int .i64 a0_0, .int .i64 a0_1, .string a0_2] 77 ?_; intro gb176 hg w10 hbox hb; have BK176 := Aside0.mk (hbox); have GW176 := zs w hg; have GE176 := GW176; replace HB := zt w hb; clear hb hbox hg; have hcz11_0 := zc0 BK176; have hcz11_1 := zc1 BK176; have hcz11_2 := zc2 BK176; have hfz11_0 := blk_frozen BK176.out 0; have hfz11_1 := blk_frozen BK176.out 1; have hfz11_2 := blk_frozen BK176.out 2))
  (try simp only [Act.put, List.setIfInBounds_toArray, List.set_cons_zero, List.set_cons_succ])
  go_cut [15] (fun v15 wc => ∃ (kq : Nat) (x15_8 : Bool), v15 = .bool x15_8 ∧ Aside0 (impl_isNode.j0 kq x15_8 a0_0 a0_1 a0_2 = some r) ∧ Aside0 (kq ≤ k) ∧ Aside0 (wc.heap[gb176]? = some (.cells #[.int .i64 a0_0, .int .i64 a0_1, .string a0_2] 77 (0, 0))) ∧ Aside0 (Below w.heap.size w wc))
  case first =>
   have H := HC9.out
   clear HC9
   by_cases c12 : a0_0 = 2
   ·rw [if_pos c12] at H
    have c12b0 : (a0_0 == 2) = true := beq_iff_eq.mpr c12
    have c12b1 : (a0_0 != 2) = false := bne_eq_false_iff_eq.mpr c12
    clear c12
    (first | rw [c12b0] | (simp only [i64_w, i32_w]; rw [c12b0]) | skip)
    have H' := Aside0.mk H
    clear H
    have hcz13_0 := zc0 BK176
    have hcz13_1 := zc1 BK176
    have hcz13_2 := zc2 BK176
    have hfz13_0 := blk_frozen BK176.out 0
    have hfz13_1 := blk_frozen BK176.out 1
    have hfz13_2 := blk_frozen BK176.out 2
    go_wp2
    go_meet
    case rel => exact ⟨_, (true), (zE _), H', ⟨by first | omega | exact Nat.le_refl _⟩, ⟨by (with_reducible repeat (first | refine blk_drewN ?_ _ | refine blk_drew ?_ | refine blk_alloc ?_ _)); exact BK176.out⟩, ⟨zb _⟩⟩
   ·rw [if_neg c12] at H
    have c12b0 : (a0_0 == 2) = false := beq_eq_false_iff_ne.mpr c12
    have c12b1 : (a0_0 != 2) = true := bne_iff_ne.mpr c12
    (first | rw [c12b0] | (simp only [i64_w, i32_w]; rw [c12b0]) | skip)
    have H' := Aside0.mk H
    clear H
    have hcz14_0 := zc0 BK176
    have hcz14_1 := zc1 BK176
    have hcz14_2 := zc2 BK176
    have hfz14_0 := blk_frozen BK176.out 0
    have hfz14_1 := blk_frozen BK176.out 1
    have hfz14_2 := blk_frozen BK176.out 2
    go_wp2
    go_meet
    case rel => exact ⟨_, ((a0_0 == 3)), (zE _), H', ⟨by first | omega | exact Nat.le_refl _⟩, ⟨by (with_reducible repeat (first | refine blk_drewN ?_ _ | refine blk_drew ?_ | refine blk_alloc ?_ _)); exact BK176.out⟩, ⟨zb _⟩⟩
  case rest =>
   clear HC9
   try clear c1
   try clear c2
   try clear c2b0
   try clear c2b1
   try clear p2
   try clear c4
   try clear c12
   try clear c12b0
   try clear c12b1
   try clear hcz11_0
   try clear hcz11_1
   try clear hcz11_2
   try clear hcz13_0
   try clear hcz13_1
   try clear hcz13_2
   try clear hcz14_0
   try clear hcz14_1
   try clear hcz14_2
   try clear hcz6_0
   try clear hcz6_1
   try clear hcz6_2
   try clear hcz8_0
   try clear hcz8_1
   try clear hcz8_2
   try clear hfz11_0
   try clear hfz11_1
   try clear hfz11_2
   try clear hfz13_0
   try clear hfz13_1
   try clear hfz13_2
   try clear hfz14_0
   try clear hfz14_1
   try clear hfz14_2
   try clear hfz6_0
   try clear hfz6_1
   try clear hfz6_2
   try clear hfz8_0
   try clear hfz8_1
   try clear hfz8_2
   obtain ⟨kq, x15_8, rfl, HA, HJ8, BK176, HB⟩ := hcut
   cases kq with
   | zero => exact absurd HA.out (by simp [impl_isNode.j0])
   | succ kj8 =>
    have H := HA.out
    clear HA
    simp only [impl_isNode.j0] at H
    by_cases c15 : x15_8 = true
    ·subst c15
     rw [if_pos rfl] at H
     by_cases c16 : a0_1 = 0
     ·rw [if_pos c16] at H
      have c16b0 : (a0_1 == 0) = true := beq_iff_eq.mpr c16
      have c16b1 : (a0_1 != 0) = false := bne_eq_false_iff_eq.mpr c16
      clear c16
      obtain ⟨t178, A170, H⟩ := Option.bind_eq_some_iff.mp H
      have A17 := Aside0.mk A170
      clear A170
      obtain rfl := Option.some.inj H
      have hcz18_0 := zc0 BK176
      have hcz18_1 := zc1 BK176
      have hcz18_2 := zc2 BK176
      have hfz18_0 := blk_frozen BK176.out 0
      have hfz18_1 := blk_frozen BK176.out 1
      have hfz18_2 := blk_frozen BK176.out 2
      go_wp2_with (first | (go_at_call 135; (with_reducible refine (impl_NameOk.calls kj8 a0_2 t178 _ A17.out).mono ?_); rintro e w' ⟨rfl, ⟨nd, rfl⟩⟩))
      first | go_ret | ((try simp only [Exit.inBlock, Exit.then]); apply bodyPost_ret; (exact results_tmp rfl _ _ _); rfl)
      exact ⟨ze _, zb _⟩
     ·rw [if_neg c16] at H
      have c16b0 : (a0_1 == 0) = false := beq_eq_false_iff_ne.mpr c16
      have c16b1 : (a0_1 != 0) = true := bne_iff_ne.mpr c16
      obtain rfl := Option.some.inj H
      have hcz19_0 := zc0 BK176
      have hcz19_1 := zc1 BK176
      have hcz19_2 := zc2 BK176
      have hfz19_0 := blk_frozen BK176.out 0
      have hfz19_1 := blk_frozen BK176.out 1
      have hfz19_2 := blk_frozen BK176.out 2
      go_wp2
      first | go_ret | ((try simp only [Exit.inBlock, Exit.then]); apply bodyPost_ret; (exact results_tmp rfl _ _ _); rfl)
      exact ⟨ze _, zb _⟩
    ·replace c15 := Bool.eq_false_iff.mpr c15
     subst c15
     rw [if_neg (show ¬ (false = true) by decide)] at H
     obtain ⟨t179, A200, H⟩ := Option.bind_eq_some_iff.mp H
     have A20 := Aside0.mk A200
     clear A200
     by_cases c21 : t179 = true
     ·subst c21
      rw [if_pos rfl] at H
      by_cases c22 : a0_1 = 0
      ·rw [if_pos c22] at H
       have c22b0 : (a0_1 == 0) = true := beq_iff_eq.mpr c22
       have c22b1 : (a0_1 != 0) = false := bne_eq_false_iff_eq.mpr c22
       clear c22
       obtain rfl := Option.some.inj H
       have hcz23_0 := zc0 BK176
       have hcz23_1 := zc1 BK176
       have hcz23_2 := zc2 BK176
       have hfz23_0 := blk_frozen BK176.out 0
       have hfz23_1 := blk_frozen BK176.out 1
       have hfz23_2 := blk_frozen BK176.out 2
       go_wp2_with (first | ((with_reducible refine gate_callee (f := 47) rfl ?_); refine zc (some 34) Tryd.func47 #[.int .i64 a0_0, .int .i64 4, .int .i64 17] ?_; (with_reducible refine (impl_within.calls a0_0 4 17 true _ A20.out).mono ?_); rintro e w' ⟨rfl, ⟨nd, rfl⟩⟩; refine ⟨_, rfl, ?_⟩))
       first | go_ret | ((try simp only [Exit.inBlock, Exit.then]); apply bodyPost_ret; (exact results_tmp rfl _ _ _); rfl)
       exact ⟨ze _, zb _⟩
      ·rw [if_neg c22] at H
       have c22b0 : (a0_1 == 0) = false := beq_eq_false_iff_ne.mpr c22
       have c22b1 : (a0_1 != 0) = true := bne_iff_ne.mpr c22
       obtain rfl := Option.some.inj H
       have hcz24_0 := zc0 BK176
       have hcz24_1 := zc1 BK176
       have hcz24_2 := zc2 BK176
       have hfz24_0 := blk_frozen BK176.out 0
       have hfz24_1 := blk_frozen BK176.out 1
       have hfz24_2 := blk_frozen BK176.out 2
       go_wp2_with (first | ((with_reducible refine gate_callee (f := 47) rfl ?_); refine zc (some 34) Tryd.func47 #[.int .i64 a0_0, .int .i64 4, .int .i64 17] ?_; (with_reducible refine (impl_within.calls a0_0 4 17 true _ A20.out).mono ?_); rintro e w' ⟨rfl, ⟨nd, rfl⟩⟩; refine ⟨_, rfl, ?_⟩))
       first | go_ret | ((try simp only [Exit.inBlock, Exit.then]); apply bodyPost_ret; (exact results_tmp rfl _ _ _); rfl)
       exact ⟨ze _, zb _⟩
     ·replace c21 := Bool.eq_false_iff.mpr c21
      subst c21
      rw [if_neg (show ¬ (false = true) by decide)] at H
      obtain rfl := Option.some.inj H
      have hcz25_0 := zc0 BK176
      have hcz25_1 := zc1 BK176
      have hcz25_2 := zc2 BK176
      have hfz25_0 := blk_frozen BK176.out 0
      have hfz25_1 := blk_frozen BK176.out 1
      have hfz25_2 := blk_frozen BK176.out 2
      go_wp2_with (first | ((with_reducible refine gate_callee (f := 47) rfl ?_); refine zc (some 34) Tryd.func47 #[.int .i64 a0_0, .int .i64 4, .int .i64 17] ?_; (with_reducible refine (impl_within.calls a0_0 4 17 false _ A20.out).mono ?_); rintro e w' ⟨rfl, ⟨nd, rfl⟩⟩; refine ⟨_, rfl, ?_⟩))
      first | go_ret | ((try simp only [Exit.inBlock, Exit.then]); apply bodyPost_ret; (exact results_tmp rfl _ _ _); rfl)
      exact ⟨ze _, zb _⟩

end Go.Proofs.YtmiebnpmckjidaaDoor.PFnExactReadExpr
