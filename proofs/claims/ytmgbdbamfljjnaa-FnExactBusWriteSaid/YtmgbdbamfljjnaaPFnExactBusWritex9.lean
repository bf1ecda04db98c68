/- What the Go functions that the law FnExactBusWrite reaches compute, function by function, and that Go comes to just that. -/
import Derived.Test.YtmgbdbamfljjnaaPFnExactBusWritex0
import Derived.Test.YtmgbdbamfljjnaaAidZ
import Derived.Test.YtmgbdbamfljjnaaPFnExactBusWritex6
namespace Go.Proofs.Ytmgbdbamfljjnaa.PFnExactBusWrite
open Go.RowKit Go.Proofs.Ytmgbdbamfljjnaa.Z Go.Proofs.YtmgbdbamfljjnaaW.PrintWords Go.Proofs.YtmgbdbamfljjnaaW.PrintLast Go.Proofs.YtmgbdbamfljjnaaW.PrintMore
attribute [local go_sem] max2_int min2_int max_two min_two max_three min_three max_four min_four   -- for this text's walks alone
set_option linter.unusedVariables false
set_option linter.unusedSimpArgs false

/-! ### impl_Cart_ramPlace: function 60 -/
def impl_Cart_ramPlace.j0 : Nat → Int → Bool → ByteArray → Int → Int → ByteArray → Int → Bool → Int → Option (Int)
  | 0, _, _, _, _, _, _, _, _, _ => none
  | k + 1, x1, x13, x290000, x290001, x290002, x290003, x290004, x290005, x290006 => if x13 = true then (some (-1)) else (if x290001 = 1 then (if x290006 = 0 then (some (wrap64 ((wrap64 ((0 * 64) + x1)) - 40960))) else (some (wrap64 ((wrap64 ((wrap64 (x290004 * 64)) + x1)) - 40960)))) else (some (wrap64 ((wrap64 ((wrap64 (x290004 * 64)) + x1)) - 40960))))
def impl_Cart_ramPlace.f (k : Nat) (a0_0 : ByteArray) (a0_1 : Int) (a0_2 : Int) (a0_3 : ByteArray) (a0_4 : Int) (a0_5 : Bool) (a0_6 : Int) (a1 : Int) : Option (Int) := if a0_5 = true then ((impl_within.f a1 40960 41023).bind fun t290 => (impl_Cart_ramPlace.j0 k a1 (!t290) a0_0 a0_1 a0_2 a0_3 a0_4 a0_5 a0_6)) else (impl_Cart_ramPlace.j0 k a1 true a0_0 a0_1 a0_2 a0_3 a0_4 a0_5 a0_6)
theorem impl_Cart_ramPlace.mono_l : ∀ k, (∀ y0 y1 y2 y3 y4 y5 y6 y7 y8, LeO (impl_Cart_ramPlace.j0 k y0 y1 y2 y3 y4 y5 y6 y7 y8) (impl_Cart_ramPlace.j0 (k + 1) y0 y1 y2 y3 y4 y5 y6 y7 y8))
  | 0 => fun _ _ _ _ _ _ _ _ _ r h => by simp [impl_Cart_ramPlace.j0] at h
  | k + 1 => by
    have ih0 := impl_Cart_ramPlace.mono_l k
    · intro y0 y1 y2 y3 y4 y5 y6 y7 y8
      unfold impl_Cart_ramPlace.j0
      repeat' first
      | (with_reducible exact ih0 _ _ _ _ _ _ _ _ _)
      | (with_reducible exact LeO.refl _)
      | (with_reducible exact LeO.none _)
      | (with_reducible refine LeO.ite ?_ ?_)
      | (with_reducible refine LeO.bind ?_ (fun _ => ?_))
      | exact ih0 _ _ _ _ _ _ _ _ _
      | exact LeO.none _
      | refine LeO.ite ?_ ?_
      | refine LeO.bind ?_ (fun _ => ?_)
theorem impl_Cart_ramPlace.mono : ∀ a0 a1 a2 a3 a4 a5 a6 a7 k, LeO (impl_Cart_ramPlace.f k a0 a1 a2 a3 a4 a5 a6 a7) (impl_Cart_ramPlace.f (k + 1) a0 a1 a2 a3 a4 a5 a6 a7) := by
  intro a0 a1 a2 a3 a4 a5 a6 a7 k
  have ih0 := impl_Cart_ramPlace.mono_l k
  unfold impl_Cart_ramPlace.f
  repeat' first
      | (with_reducible exact ih0 _ _ _ _ _ _ _ _ _)
      | (with_reducible exact LeO.refl _)
      | (with_reducible exact LeO.none _)
      | (with_reducible refine LeO.ite ?_ ?_)
      | (with_reducible refine LeO.bind ?_ (fun _ => ?_))
      | exact ih0 _ _ _ _ _ _ _ _ _
      | exact LeO.none _
      | refine LeO.ite ?_ ?_
      | refine LeO.bind ?_ (fun _ => ?_)
set_option maxHeartbeats 8000000 in
set_option maxRecDepth 100000 in
theorem impl_Cart_ramPlace.calls (k : Nat) (a0_0 : ByteArray) (a0_1 : Int) (a0_2 : Int) (a0_3 : ByteArray) (a0_4 : Int) (a0_5 : Bool) (a0_6 : Int) (a1 : Int) (r : Int) (w : World) (h : impl_Cart_ramPlace.f k a0_0 a0_1 a0_2 a0_3 a0_4 a0_5 a0_6 a1 = some r) :
 Calls Try.prog 60 #[.agg #[.string a0_0, .int .i64 a0_1, .int .i64 a0_2, .string a0_3, .int .i64 a0_4, .bool a0_5, .int .i64 a0_6], .int .i64 a1] w fun e w' => e = .returned (.int .i64 r) ∧ Below w.heap.size w w' := by
 have hu32 := Try.underlying32
 have HB := Aside0.mk (Below.refl w.heap.size w)
 have H : (if a0_5 = true then ((impl_within.f a1 40960 41023).bind fun t290 => (impl_Cart_ramPlace.j0 k a1 (!t290) a0_0 a0_1 a0_2 a0_3 a0_4 a0_5 a0_6)) else (impl_Cart_ramPlace.j0 k a1 true a0_0 a0_1 a0_2 a0_3 a0_4 a0_5 a0_6)) = some r := h
 clear h
 have HC3 := Aside0.mk H
 clear H
 go_enter Try.func60, Try.ntmps60
 go_upto_region 1 with (first | ((with_reducible refine gate_dst (N := 2) rfl ?_); refine zbx 2 #[.string a0_0, .int .i64 a0_1, .int .i64 a0_2, .string a0_3, .int .i64 a0_4, .bool a0_5, .int .i64 a0_6] 32 ?_; intro gb289 hg w4 hbox hb; have BK289 := Aside0.mk (hbox); have GW289 := zs w hg; have GE289 := GW289; replace HB := zt w hb; clear hb hbox hg))
 (try simp only [Act.put, List.setIfInBounds_toArray, List.set_cons_zero, List.set_cons_succ])
 go_cut [13] (fun v13 wc => ∃ (kq : Nat) (x13_2 : Bool), v13 = .bool x13_2 ∧ Aside0 (impl_Cart_ramPlace.j0 kq a1 x13_2 a0_0 a0_1 a0_2 a0_3 a0_4 a0_5 a0_6 = some r) ∧ Aside0 (kq ≤ k) ∧ Aside0 (wc.heap[gb289]? = some (.cells #[.string a0_0, .int .i64 a0_1, .int .i64 a0_2, .string a0_3, .int .i64 a0_4, .bool a0_5, .int .i64 a0_6] 32 (0, 0))) ∧ Aside0 (Below w.heap.size w wc))
 case first =>
  have H := HC3.out
  clear HC3
  by_cases c5 : a0_5 = true
  ·subst c5
   rw [if_pos rfl] at H
   obtain ⟨t290, A60, H⟩ := Option.bind_eq_some_iff.mp H
   have A6 := Aside0.mk A60
   clear A60
   have H' := Aside0.mk H
   clear H
   have hcz7_0 := zc0 BK289
   have hcz7_1 := zc1 BK289
   have hcz7_2 := zc2 BK289
   have hcz7_3 := zc3 BK289
   have hcz7_4 := zc4 BK289
   have hcz7_5 := zc5 BK289
   have hcz7_6 := zc6 BK289
   have hfz7_0 := blk_frozen BK289.out 0
   have hfz7_1 := blk_frozen BK289.out 1
   have hfz7_2 := blk_frozen BK289.out 2
   have hfz7_3 := blk_frozen BK289.out 3
   have hfz7_4 := blk_frozen BK289.out 4
   have hfz7_5 := blk_frozen BK289.out 5
   have hfz7_6 := blk_frozen BK289.out 6
   go_wp2_with (first | (go_at_call 34; (with_reducible refine (impl_within.calls a1 40960 41023 t290 _ A6.out).mono ?_); rintro e w' ⟨rfl, ⟨nd, rfl⟩⟩))
   go_meet
   case rel => exact ⟨_, (!t290), (zE _), H', ⟨by first | omega | exact Nat.le_refl _⟩, ⟨by (with_reducible repeat (first | refine blk_drewN ?_ _ | refine blk_drew ?_ | refine blk_alloc ?_ _)); exact BK289.out⟩, ⟨zb _⟩⟩
  ·replace c5 := Bool.eq_false_iff.mpr c5
   subst c5
   rw [if_neg (show ¬ (false = true) by decide)] at H
   have H' := Aside0.mk H
   clear H
   have hcz8_0 := zc0 BK289
   have hcz8_1 := zc1 BK289
   have hcz8_2 := zc2 BK289
   have hcz8_3 := zc3 BK289
   have hcz8_4 := zc4 BK289
   have hcz8_5 := zc5 BK289
   have hcz8_6 := zc6 BK289
   have hfz8_0 := blk_frozen BK289.out 0
   have hfz8_1 := blk_frozen BK289.out 1
   have hfz8_2 := blk_frozen BK289.out 2
   have hfz8_3 := blk_frozen BK289.out 3
   have hfz8_4 := blk_frozen BK289.out 4
   have hfz8_5 := blk_frozen BK289.out 5
   have hfz8_6 := blk_frozen BK289.out 6
   go_wp2
   go_meet
   case rel => exact ⟨_, (true), (zE _), H', ⟨by first | omega | exact Nat.le_refl _⟩, ⟨by (with_reducible repeat (first | refine blk_drewN ?_ _ | refine blk_drew ?_ | refine blk_alloc ?_ _)); exact BK289.out⟩, ⟨zb _⟩⟩
 case rest =>
  clear HC3
  try clear p2
  try clear c5
  try clear c6
  try clear hcz7_0
  try clear hcz7_1
  try clear hcz7_2
  try clear hcz7_3
  try clear hcz7_4
  try clear hcz7_5
  try clear hcz7_6
  try clear hcz8_0
  try clear hcz8_1
  try clear hcz8_2
  try clear hcz8_3
  try clear hcz8_4
  try clear hcz8_5
  try clear hcz8_6
  try clear hfz7_0
  try clear hfz7_1
  try clear hfz7_2
  try clear hfz7_3
  try clear hfz7_4
  try clear hfz7_5
  try clear hfz7_6
  try clear hfz8_0
  try clear hfz8_1
  try clear hfz8_2
  try clear hfz8_3
  try clear hfz8_4
  try clear hfz8_5
  try clear hfz8_6
  obtain ⟨kq, x13_2, rfl, HA, HJ2, BK289, HB⟩ := hcut
  cases kq with
  | zero => exact absurd HA.out (by simp [impl_Cart_ramPlace.j0])
  | succ kj2 =>
   have H := HA.out
   clear HA
   simp only [impl_Cart_ramPlace.j0] at H
   by_cases c9 : x13_2 = true
   ·subst c9
    rw [if_pos rfl] at H
    obtain rfl := Option.some.inj H
    go_wp2
    go_ret
    exact ⟨ze _, zb _⟩
   ·replace c9 := Bool.eq_false_iff.mpr c9
    subst c9
    rw [if_neg (show ¬ (false = true) by decide)] at H
    by_cases c10 : a0_1 = 1
    ·rw [if_pos c10] at H
     have c10b0 : (a0_1 == 1) = true := beq_iff_eq.mpr c10
     have c10b1 : (a0_1 != 1) = false := bne_eq_false_iff_eq.mpr c10
     clear c10
     by_cases c11 : a0_6 = 0
     ·rw [if_pos c11] at H
      have c11b0 : (a0_6 == 0) = true := beq_iff_eq.mpr c11
      have c11b1 : (a0_6 != 0) = false := bne_eq_false_iff_eq.mpr c11
      clear c11
      obtain rfl := Option.some.inj H
      have hcz12_0 := zc0 BK289
      have hcz12_1 := zc1 BK289
      have hcz12_2 := zc2 BK289
      have hcz12_3 := zc3 BK289
      have hcz12_4 := zc4 BK289
      have hcz12_5 := zc5 BK289
      have hcz12_6 := zc6 BK289
      have hfz12_0 := blk_frozen BK289.out 0
      have hfz12_1 := blk_frozen BK289.out 1
      have hfz12_2 := blk_frozen BK289.out 2
      have hfz12_3 := blk_frozen BK289.out 3
      have hfz12_4 := blk_frozen BK289.out 4
      have hfz12_5 := blk_frozen BK289.out 5
      have hfz12_6 := blk_frozen BK289.out 6
      go_wp2
      go_ret
      exact ⟨ze _, zb _⟩
     ·rw [if_neg c11] at H
      have c11b0 : (a0_6 == 0) = false := beq_eq_false_iff_ne.mpr c11
      have c11b1 : (a0_6 != 0) = true := bne_iff_ne.mpr c11
      obtain rfl := Option.some.inj H
      have hcz13_0 := zc0 BK289
      have hcz13_1 := zc1 BK289
      have hcz13_2 := zc2 BK289
      have hcz13_3 := zc3 BK289
      have hcz13_4 := zc4 BK289
      have hcz13_5 := zc5 BK289
      have hcz13_6 := zc6 BK289
      have hfz13_0 := blk_frozen BK289.out 0
      have hfz13_1 := blk_frozen BK289.out 1
      have hfz13_2 := blk_frozen BK289.out 2
      have hfz13_3 := blk_frozen BK289.out 3
      have hfz13_4 := blk_frozen BK289.out 4
      have hfz13_5 := blk_frozen BK289.out 5
      have hfz13_6 := blk_frozen BK289.out 6
      go_wp2
      go_ret
      exact ⟨ze _, zb _⟩
    ·rw [if_neg c10] at H
     have c10b0 : (a0_1 == 1) = false := beq_eq_false_iff_ne.mpr c10
     have c10b1 : (a0_1 != 1) = true := bne_iff_ne.mpr c10
     obtain rfl := Option.some.inj H
     have hcz14_0 := zc0 BK289
     have hcz14_1 := zc1 BK289
     have hcz14_2 := zc2 BK289
     have hcz14_3 := zc3 BK289
     have hcz14_4 := zc4 BK289
     have hcz14_5 := zc5 BK289
     have hcz14_6 := zc6 BK289
     have hfz14_0 := blk_frozen BK289.out 0
     have hfz14_1 := blk_frozen BK289.out 1
     have hfz14_2 := blk_frozen BK289.out 2
     have hfz14_3 := blk_frozen BK289.out 3
     have hfz14_4 := blk_frozen BK289.out 4
     have hfz14_5 := blk_frozen BK289.out 5
     have hfz14_6 := blk_frozen BK289.out 6
     go_wp2
     go_ret
     exact ⟨ze _, zb _⟩

end Go.Proofs.Ytmgbdbamfljjnaa.PFnExactBusWrite
