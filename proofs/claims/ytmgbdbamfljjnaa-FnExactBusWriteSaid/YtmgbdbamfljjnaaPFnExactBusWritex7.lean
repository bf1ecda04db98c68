/- What the Go functions that the law FnExactBusWrite reaches compute, function by function, and that Go comes to just that. -/
import Derived.Test.YtmgbdbamfljjnaaPFnExactBusWritex0
import Derived.Test.YtmgbdbamfljjnaaAidZ
import Derived.Test.YtmgbdbamfljjnaaPFnExactBusWritex6
namespace Go.Proofs.Ytmgbdbamfljjnaa.PFnExactBusWrite
open Go.RowKit Go.Proofs.Ytmgbdbamfljjnaa.Z Go.Proofs.YtmgbdbamfljjnaaW.PrintWords Go.Proofs.YtmgbdbamfljjnaaW.PrintLast Go.Proofs.YtmgbdbamfljjnaaW.PrintMore
attribute [local go_sem] max2_int min2_int max_two min_two max_three min_three max_four min_four   -- for this text's walks alone
set_option linter.unusedVariables false
set_option linter.unusedSimpArgs false

/-! ### impl_CartOk: function 33 -/
def impl_CartOk.j0 : Nat → Bool → ByteArray → Int → Int → ByteArray → Int → Bool → Int → Option (Bool)
  | 0, _, _, _, _, _, _, _, _ => none
  | k + 1, x21, x271000, x271001, x271002, x271003, x271004, x271005, x271006 => if x21 = true then (some false) else (if x271001 = 0 then (if x271002 = 1 then (if x271004 = 0 then (if x271006 = 0 then (some (!x271005)) else (some false)) else (some false)) else (some false)) else (if x271001 = 1 then ((impl_within.f x271002 1 31).bind fun t272 => (if t272 = true then ((impl_within.f x271004 0 3).bind fun t273 => (if t273 = true then ((impl_within.f x271006 0 1).bind fun t274 => (some t274)) else (some false))) else (some false))) else (if x271001 = 2 then ((impl_isByte.f x271002).bind fun t275 => (if t275 = true then ((impl_within.f x271004 0 3).bind fun t276 => (if t276 = true then (some (x271006 == 0)) else (some false))) else (some false))) else (some false))))
def impl_CartOk.f (k : Nat) (a0_0 : ByteArray) (a0_1 : Int) (a0_2 : Int) (a0_3 : ByteArray) (a0_4 : Int) (a0_5 : Bool) (a0_6 : Int) : Option (Bool) := if ((a0_0.size : Int) % 256) = 0 then ((impl_within.f (wrap64 ((a0_0.size : Int) / 256)) 2 16).bind fun t271 => (if t271 = true then (impl_CartOk.j0 k ((a0_3.size : Int) != 256) a0_0 a0_1 a0_2 a0_3 a0_4 a0_5 a0_6) else (impl_CartOk.j0 k true a0_0 a0_1 a0_2 a0_3 a0_4 a0_5 a0_6))) else (impl_CartOk.j0 k true a0_0 a0_1 a0_2 a0_3 a0_4 a0_5 a0_6)
theorem impl_CartOk.mono_l : ∀ k, (∀ y0 y1 y2 y3 y4 y5 y6 y7, LeO (impl_CartOk.j0 k y0 y1 y2 y3 y4 y5 y6 y7) (impl_CartOk.j0 (k + 1) y0 y1 y2 y3 y4 y5 y6 y7))
  | 0 => fun _ _ _ _ _ _ _ _ r h => by simp [impl_CartOk.j0] at h
  | k + 1 => by
    have ih0 := impl_CartOk.mono_l k
    · intro y0 y1 y2 y3 y4 y5 y6 y7
      unfold impl_CartOk.j0
      repeat' first
      | (with_reducible exact ih0 _ _ _ _ _ _ _ _)
      | (with_reducible exact LeO.refl _)
      | (with_reducible exact LeO.none _)
      | (with_reducible refine LeO.ite ?_ ?_)
      | (with_reducible refine LeO.bind ?_ (fun _ => ?_))
      | exact ih0 _ _ _ _ _ _ _ _
      | exact LeO.none _
      | refine LeO.ite ?_ ?_
      | refine LeO.bind ?_ (fun _ => ?_)
theorem impl_CartOk.mono : ∀ a0 a1 a2 a3 a4 a5 a6 k, LeO (impl_CartOk.f k a0 a1 a2 a3 a4 a5 a6) (impl_CartOk.f (k + 1) a0 a1 a2 a3 a4 a5 a6) := by
  intro a0 a1 a2 a3 a4 a5 a6 k
  have ih0 := impl_CartOk.mono_l k
  unfold impl_CartOk.f
  repeat' first
      | (with_reducible exact ih0 _ _ _ _ _ _ _ _)
      | (with_reducible exact LeO.refl _)
      | (with_reducible exact LeO.none _)
      | (with_reducible refine LeO.ite ?_ ?_)
      | (with_reducible refine LeO.bind ?_ (fun _ => ?_))
      | exact ih0 _ _ _ _ _ _ _ _
      | exact LeO.none _
      | refine LeO.ite ?_ ?_
      | refine LeO.bind ?_ (fun _ => ?_)
set_option maxHeartbeats 8000000 in
set_option maxRecDepth 100000 in
theorem impl_CartOk.calls (k : Nat) (a0_0 : ByteArray) (a0_1 : Int) (a0_2 : Int) (a0_3 : ByteArray) (a0_4 : Int) (a0_5 : Bool) (a0_6 : Int) (r : Bool) (w : World) (h : impl_CartOk.f k a0_0 a0_1 a0_2 a0_3 a0_4 a0_5 a0_6 = some r) :
 Calls Try.prog 33 #[.agg #[.string a0_0, .int .i64 a0_1, .int .i64 a0_2, .string a0_3, .int .i64 a0_4, .bool a0_5, .int .i64 a0_6]] w fun e w' => e = .returned (.bool r) ∧ Below w.heap.size w w' := by
 have hu32 := Try.underlying32
 have HB := Aside0.mk (Below.refl w.heap.size w)
 have H : (if ((a0_0.size : Int) % 256) = 0 then ((impl_within.f (wrap64 ((a0_0.size : Int) / 256)) 2 16).bind fun t271 => (if t271 = true then (impl_CartOk.j0 k ((a0_3.size : Int) != 256) a0_0 a0_1 a0_2 a0_3 a0_4 a0_5 a0_6) else (impl_CartOk.j0 k true a0_0 a0_1 a0_2 a0_3 a0_4 a0_5 a0_6))) else (impl_CartOk.j0 k true a0_0 a0_1 a0_2 a0_3 a0_4 a0_5 a0_6)) = some r := h
 clear h
 have HC2 := Aside0.mk H
 clear H
 go_enter Try.func33, Try.ntmps33
 go_upto_region 1 with (first | ((with_reducible refine gate_dst (N := 1) rfl ?_); (try (refine gate_guard (by rfl) ?_; dsimp only)); refine box_event ?hg (N := 1) ?hd (cs := #[.string a0_0, .int .i64 a0_1, .int .i64 a0_2, .string a0_3, .int .i64 a0_4, .bool a0_5, .int .i64 a0_6]) (t := 32) ?hr ?_; (case hd => rfl); (case hg => rfl); (case hr => first | (go_simp; done) | (go_simp; rfl)); intro gb270 hg w3 hbox hb; have BK270 := Aside0.mk (hbox); have GW270 := zs w hg; have GE270 := GW270; replace HB := zt w hb; clear hb hbox hg))
 (try simp only [Act.put, List.setIfInBounds_toArray, List.set_cons_zero, List.set_cons_succ])
 go_cut [21] (fun v21 wc => ∃ (kq : Nat) (x21_1 : Bool), v21 = .bool x21_1 ∧ Aside0 (impl_CartOk.j0 kq x21_1 a0_0 a0_1 a0_2 a0_3 a0_4 a0_5 a0_6 = some r) ∧ Aside0 (kq ≤ k) ∧ Aside0 (wc.heap[gb270]? = some (.cells #[.string a0_0, .int .i64 a0_1, .int .i64 a0_2, .string a0_3, .int .i64 a0_4, .bool a0_5, .int .i64 a0_6] 32 (0, 0))) ∧ Aside0 (Below w.heap.size w wc))
 case first =>
  have H := HC2.out
  clear HC2
  by_cases c4 : ((a0_0.size : Int) % 256) = 0
  ·rw [if_pos c4] at H
   have c4b0 : (((a0_0.size : Int) % 256) == 0) = true := beq_iff_eq.mpr c4
   have c4b1 : (((a0_0.size : Int) % 256) != 0) = false := bne_eq_false_iff_eq.mpr c4
   clear c4
   (first | rw [c4b0] | (simp only [i64_w, i32_w]; rw [c4b0]) | skip)
   obtain ⟨t271, A50, H⟩ := Option.bind_eq_some_iff.mp H
   have A5 := Aside0.mk A50
   clear A50
   by_cases c6 : t271 = true
   ·subst c6
    rw [if_pos rfl] at H
    have H' := Aside0.mk H
    clear H
    have hcz7_0 := zc0 BK270
    have hcz7_1 := zc1 BK270
    have hcz7_2 := zc2 BK270
    have hcz7_3 := zc3 BK270
    have hcz7_4 := zc4 BK270
    have hcz7_5 := zc5 BK270
    have hcz7_6 := zc6 BK270
    have hfz7_0 := blk_frozen BK270.out 0
    have hfz7_1 := blk_frozen BK270.out 1
    have hfz7_2 := blk_frozen BK270.out 2
    have hfz7_3 := blk_frozen BK270.out 3
    have hfz7_4 := blk_frozen BK270.out 4
    have hfz7_5 := blk_frozen BK270.out 5
    have hfz7_6 := blk_frozen BK270.out 6
    go_wp2_with (first | (go_at_call 34; (with_reducible refine (impl_within.calls (wrap64 ((a0_0.size : Int) / 256)) 2 16 true _ A5.out).mono ?_); rintro e w' ⟨rfl, ⟨nd, rfl⟩⟩))
    go_meet
    case rel => exact ⟨_, (((a0_3.size : Int) != 256)), (zE _), H', ⟨by first | omega | exact Nat.le_refl _⟩, ⟨by (with_reducible repeat (first | refine blk_drewN ?_ _ | refine blk_drew ?_ | refine blk_alloc ?_ _)); exact BK270.out⟩, ⟨zb _⟩⟩
   ·replace c6 := Bool.eq_false_iff.mpr c6
    subst c6
    rw [if_neg (show ¬ (false = true) by decide)] at H
    have H' := Aside0.mk H
    clear H
    have hcz8_0 := zc0 BK270
    have hcz8_1 := zc1 BK270
    have hcz8_2 := zc2 BK270
    have hcz8_3 := zc3 BK270
    have hcz8_4 := zc4 BK270
    have hcz8_5 := zc5 BK270
    have hcz8_6 := zc6 BK270
    have hfz8_0 := blk_frozen BK270.out 0
    have hfz8_1 := blk_frozen BK270.out 1
    have hfz8_2 := blk_frozen BK270.out 2
    have hfz8_3 := blk_frozen BK270.out 3
    have hfz8_4 := blk_frozen BK270.out 4
    have hfz8_5 := blk_frozen BK270.out 5
    have hfz8_6 := blk_frozen BK270.out 6
    go_wp2_with (first | (go_at_call 34; (with_reducible refine (impl_within.calls (wrap64 ((a0_0.size : Int) / 256)) 2 16 false _ A5.out).mono ?_); rintro e w' ⟨rfl, ⟨nd, rfl⟩⟩))
    go_meet
    case rel => exact ⟨_, (true), (zE _), H', ⟨by first | omega | exact Nat.le_refl _⟩, ⟨by (with_reducible repeat (first | refine blk_drewN ?_ _ | refine blk_drew ?_ | refine blk_alloc ?_ _)); exact BK270.out⟩, ⟨zb _⟩⟩
  ·rw [if_neg c4] at H
   have c4b0 : (((a0_0.size : Int) % 256) == 0) = false := beq_eq_false_iff_ne.mpr c4
   have c4b1 : (((a0_0.size : Int) % 256) != 0) = true := bne_iff_ne.mpr c4
   (first | rw [c4b0] | (simp only [i64_w, i32_w]; rw [c4b0]) | skip)
   have H' := Aside0.mk H
   clear H
   have hcz9_0 := zc0 BK270
   have hcz9_1 := zc1 BK270
   have hcz9_2 := zc2 BK270
   have hcz9_3 := zc3 BK270
   have hcz9_4 := zc4 BK270
   have hcz9_5 := zc5 BK270
   have hcz9_6 := zc6 BK270
   have hfz9_0 := blk_frozen BK270.out 0
   have hfz9_1 := blk_frozen BK270.out 1
   have hfz9_2 := blk_frozen BK270.out 2
   have hfz9_3 := blk_frozen BK270.out 3
   have hfz9_4 := blk_frozen BK270.out 4
   have hfz9_5 := blk_frozen BK270.out 5
   have hfz9_6 := blk_frozen BK270.out 6
   go_wp2
   go_meet
   case rel => exact ⟨_, (true), (zE _), H', ⟨by first | omega | exact Nat.le_refl _⟩, ⟨by (with_reducible repeat (first | refine blk_drewN ?_ _ | refine blk_drew ?_ | refine blk_alloc ?_ _)); exact BK270.out⟩, ⟨zb _⟩⟩
 case rest =>
  clear HC2
  try clear p2
  try clear c3
  try clear c4
  try clear c4b0
  try clear c4b1
  try clear c6
  try clear p6
  try clear hcz7_0
  try clear hcz7_1
  try clear hcz7_2
  try clear hcz7_3
  try clear hcz7_4
  try clear hcz7_5
  try clear hcz7_6
  try clear hcz8_0
  try clear hcz8_1
  try clear hcz8_2
  try clear hcz8_3
  try clear hcz8_4
  try clear hcz8_5
  try clear hcz8_6
  try clear hcz9_0
  try clear hcz9_1
  try clear hcz9_2
  try clear hcz9_3
  try clear hcz9_4
  try clear hcz9_5
  try clear hcz9_6
  try clear hfz7_0
  try clear hfz7_1
  try clear hfz7_2
  try clear hfz7_3
  try clear hfz7_4
  try clear hfz7_5
  try clear hfz7_6
  try clear hfz8_0
  try clear hfz8_1
  try clear hfz8_2
  try clear hfz8_3
  try clear hfz8_4
  try clear hfz8_5
  try clear hfz8_6
  try clear hfz9_0
  try clear hfz9_1
  try clear hfz9_2
  try clear hfz9_3
  try clear hfz9_4
  try clear hfz9_5
  try clear hfz9_6
  obtain ⟨kq, x21_1, rfl, HA, HJ1, BK270, HB⟩ := hcut
  cases kq with
  | zero => exact absurd HA.out (by simp [impl_CartOk.j0])
  | succ kj1 =>
   have H := HA.out
   clear HA
   simp only [impl_CartOk.j0] at H
   by_cases c10 : x21_1 = true
   ·subst c10
    rw [if_pos rfl] at H
    obtain rfl := Option.some.inj H
    go_wp2
    go_ret
    exact ⟨ze _, zb _⟩
   ·replace c10 := Bool.eq_false_iff.mpr c10
    subst c10
    rw [if_neg (show ¬ (false = true) by decide)] at H
    by_cases c11 : a0_1 = 0
    ·rw [if_pos c11] at H
     have c11b0 : (a0_1 == 0) = true := beq_iff_eq.mpr c11
     have c11b1 : (a0_1 != 0) = false := bne_eq_false_iff_eq.mpr c11
     clear c11
     by_cases c12 : a0_2 = 1
     ·rw [if_pos c12] at H
      have c12b0 : (a0_2 == 1) = true := beq_iff_eq.mpr c12
      have c12b1 : (a0_2 != 1) = false := bne_eq_false_iff_eq.mpr c12
      clear c12
      by_cases c13 : a0_4 = 0
      ·rw [if_pos c13] at H
       have c13b0 : (a0_4 == 0) = true := beq_iff_eq.mpr c13
       have c13b1 : (a0_4 != 0) = false := bne_eq_false_iff_eq.mpr c13
       clear c13
       by_cases c14 : a0_6 = 0
       ·rw [if_pos c14] at H
        have c14b0 : (a0_6 == 0) = true := beq_iff_eq.mpr c14
        have c14b1 : (a0_6 != 0) = false := bne_eq_false_iff_eq.mpr c14
        clear c14
        obtain rfl := Option.some.inj H
        have hcz15_0 := zc0 BK270
        have hcz15_1 := zc1 BK270
        have hcz15_2 := zc2 BK270
        have hcz15_3 := zc3 BK270
        have hcz15_4 := zc4 BK270
        have hcz15_5 := zc5 BK270
        have hcz15_6 := zc6 BK270
        have hfz15_0 := blk_frozen BK270.out 0
        have hfz15_1 := blk_frozen BK270.out 1
        have hfz15_2 := blk_frozen BK270.out 2
        have hfz15_3 := blk_frozen BK270.out 3
        have hfz15_4 := blk_frozen BK270.out 4
        have hfz15_5 := blk_frozen BK270.out 5
        have hfz15_6 := blk_frozen BK270.out 6
        go_wp2
        go_ret
        exact ⟨ze _, zb _⟩
       ·rw [if_neg c14] at H
        have c14b0 : (a0_6 == 0) = false := beq_eq_false_iff_ne.mpr c14
        have c14b1 : (a0_6 != 0) = true := bne_iff_ne.mpr c14
        obtain rfl := Option.some.inj H
        have hcz16_0 := zc0 BK270
        have hcz16_1 := zc1 BK270
        have hcz16_2 := zc2 BK270
        have hcz16_3 := zc3 BK270
        have hcz16_4 := zc4 BK270
        have hcz16_5 := zc5 BK270
        have hcz16_6 := zc6 BK270
        have hfz16_0 := blk_frozen BK270.out 0
        have hfz16_1 := blk_frozen BK270.out 1
        have hfz16_2 := blk_frozen BK270.out 2
        have hfz16_3 := blk_frozen BK270.out 3
        have hfz16_4 := blk_frozen BK270.out 4
        have hfz16_5 := blk_frozen BK270.out 5
        have hfz16_6 := blk_frozen BK270.out 6
        go_wp2
        go_ret
        exact ⟨ze _, zb _⟩
      ·rw [if_neg c13] at H
       have c13b0 : (a0_4 == 0) = false := beq_eq_false_iff_ne.mpr c13
       have c13b1 : (a0_4 != 0) = true := bne_iff_ne.mpr c13
       obtain rfl := Option.some.inj H
       have hcz17_0 := zc0 BK270
       have hcz17_1 := zc1 BK270
       have hcz17_2 := zc2 BK270
       have hcz17_3 := zc3 BK270
       have hcz17_4 := zc4 BK270
       have hcz17_5 := zc5 BK270
       have hcz17_6 := zc6 BK270
       have hfz17_0 := blk_frozen BK270.out 0
       have hfz17_1 := blk_frozen BK270.out 1
       have hfz17_2 := blk_frozen BK270.out 2
       have hfz17_3 := blk_frozen BK270.out 3
       have hfz17_4 := blk_frozen BK270.out 4
       have hfz17_5 := blk_frozen BK270.out 5
       have hfz17_6 := blk_frozen BK270.out 6
       go_wp2
       go_ret
       exact ⟨ze _, zb _⟩
     ·rw [if_neg c12] at H
      have c12b0 : (a0_2 == 1) = false := beq_eq_false_iff_ne.mpr c12
      have c12b1 : (a0_2 != 1) = true := bne_iff_ne.mpr c12
      obtain rfl := Option.some.inj H
      have hcz18_0 := zc0 BK270
      have hcz18_1 := zc1 BK270
      have hcz18_2 := zc2 BK270
      have hcz18_3 := zc3 BK270
      have hcz18_4 := zc4 BK270
      have hcz18_5 := zc5 BK270
      have hcz18_6 := zc6 BK270
      have hfz18_0 := blk_frozen BK270.out 0
      have hfz18_1 := blk_frozen BK270.out 1
      have hfz18_2 := blk_frozen BK270.out 2
      have hfz18_3 := blk_frozen BK270.out 3
      have hfz18_4 := blk_frozen BK270.out 4
      have hfz18_5 := blk_frozen BK270.out 5
      have hfz18_6 := blk_frozen BK270.out 6
      go_wp2
      go_ret
      exact ⟨ze _, zb _⟩
    ·rw [if_neg c11] at H
     have c11b0 : (a0_1 == 0) = false := beq_eq_false_iff_ne.mpr c11
     have c11b1 : (a0_1 != 0) = true := bne_iff_ne.mpr c11
     by_cases c19 : a0_1 = 1
     ·rw [if_pos c19] at H
      have c19b0 : (a0_1 == 1) = true := beq_iff_eq.mpr c19
      have c19b1 : (a0_1 != 1) = false := bne_eq_false_iff_eq.mpr c19
      clear c19
      obtain ⟨t272, A200, H⟩ := Option.bind_eq_some_iff.mp H
      have A20 := Aside0.mk A200
      clear A200
      by_cases c21 : t272 = true
      ·subst c21
       rw [if_pos rfl] at H
       obtain ⟨t273, A220, H⟩ := Option.bind_eq_some_iff.mp H
       have A22 := Aside0.mk A220
       clear A220
       by_cases c23 : t273 = true
       ·subst c23
        rw [if_pos rfl] at H
        obtain ⟨t274, A240, H⟩ := Option.bind_eq_some_iff.mp H
        have A24 := Aside0.mk A240
        clear A240
        obtain rfl := Option.some.inj H
        have hcz25_0 := zc0 BK270
        have hcz25_1 := zc1 BK270
        have hcz25_2 := zc2 BK270
        have hcz25_3 := zc3 BK270
        have hcz25_4 := zc4 BK270
        have hcz25_5 := zc5 BK270
        have hcz25_6 := zc6 BK270
        have hfz25_0 := blk_frozen BK270.out 0
        have hfz25_1 := blk_frozen BK270.out 1
        have hfz25_2 := blk_frozen BK270.out 2
        have hfz25_3 := blk_frozen BK270.out 3
        have hfz25_4 := blk_frozen BK270.out 4
        have hfz25_5 := blk_frozen BK270.out 5
        have hfz25_6 := blk_frozen BK270.out 6
        go_wp2_with (first | ((with_reducible refine gate_callee (f := 34) rfl ?_); refine zc (some 48) Try.func34 #[.int .i64 a0_2, .int .i64 1, .int .i64 31] ?_; (with_reducible refine (impl_within.calls a0_2 1 31 true _ A20.out).mono ?_); rintro e w' ⟨rfl, ⟨nd, rfl⟩⟩; refine ⟨_, rfl, ?_⟩) | (go_at_call 34; (with_reducible refine (impl_within.calls a0_4 0 3 true _ A22.out).mono ?_); rintro e w' ⟨rfl, ⟨nd, rfl⟩⟩) | (go_at_call 34; (with_reducible refine (impl_within.calls a0_6 0 1 t274 _ A24.out).mono ?_); rintro e w' ⟨rfl, ⟨nd, rfl⟩⟩))
        go_ret
        exact ⟨ze _, zb _⟩
       ·replace c23 := Bool.eq_false_iff.mpr c23
        subst c23
        rw [if_neg (show ¬ (false = true) by decide)] at H
        obtain rfl := Option.some.inj H
        have hcz26_0 := zc0 BK270
        have hcz26_1 := zc1 BK270
        have hcz26_2 := zc2 BK270
        have hcz26_3 := zc3 BK270
        have hcz26_4 := zc4 BK270
        have hcz26_5 := zc5 BK270
        have hcz26_6 := zc6 BK270
        have hfz26_0 := blk_frozen BK270.out 0
        have hfz26_1 := blk_frozen BK270.out 1
        have hfz26_2 := blk_frozen BK270.out 2
        have hfz26_3 := blk_frozen BK270.out 3
        have hfz26_4 := blk_frozen BK270.out 4
        have hfz26_5 := blk_frozen BK270.out 5
        have hfz26_6 := blk_frozen BK270.out 6
        go_wp2_with (first | ((with_reducible refine gate_callee (f := 34) rfl ?_); refine zc (some 48) Try.func34 #[.int .i64 a0_2, .int .i64 1, .int .i64 31] ?_; (with_reducible refine (impl_within.calls a0_2 1 31 true _ A20.out).mono ?_); rintro e w' ⟨rfl, ⟨nd, rfl⟩⟩; refine ⟨_, rfl, ?_⟩) | (go_at_call 34; (with_reducible refine (impl_within.calls a0_4 0 3 false _ A22.out).mono ?_); rintro e w' ⟨rfl, ⟨nd, rfl⟩⟩))
        go_ret
        exact ⟨ze _, zb _⟩
      ·replace c21 := Bool.eq_false_iff.mpr c21
       subst c21
       rw [if_neg (show ¬ (false = true) by decide)] at H
       obtain rfl := Option.some.inj H
       have hcz27_0 := zc0 BK270
       have hcz27_1 := zc1 BK270
       have hcz27_2 := zc2 BK270
       have hcz27_3 := zc3 BK270
       have hcz27_4 := zc4 BK270
       have hcz27_5 := zc5 BK270
       have hcz27_6 := zc6 BK270
       have hfz27_0 := blk_frozen BK270.out 0
       have hfz27_1 := blk_frozen BK270.out 1
       have hfz27_2 := blk_frozen BK270.out 2
       have hfz27_3 := blk_frozen BK270.out 3
       have hfz27_4 := blk_frozen BK270.out 4
       have hfz27_5 := blk_frozen BK270.out 5
       have hfz27_6 := blk_frozen BK270.out 6
       go_wp2_with (first | ((with_reducible refine gate_callee (f := 34) rfl ?_); refine zc (some 48) Try.func34 #[.int .i64 a0_2, .int .i64 1, .int .i64 31] ?_; (with_reducible refine (impl_within.calls a0_2 1 31 false _ A20.out).mono ?_); rintro e w' ⟨rfl, ⟨nd, rfl⟩⟩; refine ⟨_, rfl, ?_⟩))
       go_ret
       exact ⟨ze _, zb _⟩
     ·rw [if_neg c19] at H
      have c19b0 : (a0_1 == 1) = false := beq_eq_false_iff_ne.mpr c19
      have c19b1 : (a0_1 != 1) = true := bne_iff_ne.mpr c19
      by_cases c28 : a0_1 = 2
      ·rw [if_pos c28] at H
       have c28b0 : (a0_1 == 2) = true := beq_iff_eq.mpr c28
       have c28b1 : (a0_1 != 2) = false := bne_eq_false_iff_eq.mpr c28
       clear c28
       obtain ⟨t275, A290, H⟩ := Option.bind_eq_some_iff.mp H
       have A29 := Aside0.mk A290
       clear A290
       by_cases c30 : t275 = true
       ·subst c30
        rw [if_pos rfl] at H
        obtain ⟨t276, A310, H⟩ := Option.bind_eq_some_iff.mp H
        have A31 := Aside0.mk A310
        clear A310
        by_cases c32 : t276 = true
        ·subst c32
         rw [if_pos rfl] at H
         obtain rfl := Option.some.inj H
         have hcz33_0 := zc0 BK270
         have hcz33_1 := zc1 BK270
         have hcz33_2 := zc2 BK270
         have hcz33_3 := zc3 BK270
         have hcz33_4 := zc4 BK270
         have hcz33_5 := zc5 BK270
         have hcz33_6 := zc6 BK270
         have hfz33_0 := blk_frozen BK270.out 0
         have hfz33_1 := blk_frozen BK270.out 1
         have hfz33_2 := blk_frozen BK270.out 2
         have hfz33_3 := blk_frozen BK270.out 3
         have hfz33_4 := blk_frozen BK270.out 4
         have hfz33_5 := blk_frozen BK270.out 5
         have hfz33_6 := blk_frozen BK270.out 6
         go_wp2_with (first | ((with_reducible refine gate_callee (f := 29) rfl ?_); refine zc (some 63) Try.func29 #[.int .i64 a0_2] ?_; (with_reducible refine (impl_isByte.calls a0_2 true _ A29.out).mono ?_); rintro e w' ⟨rfl, ⟨nd, rfl⟩⟩; refine ⟨_, rfl, ?_⟩) | (go_at_call 34; (with_reducible refine (impl_within.calls a0_4 0 3 true _ A31.out).mono ?_); rintro e w' ⟨rfl, ⟨nd, rfl⟩⟩))
         go_ret
         exact ⟨ze _, zb _⟩
        ·replace c32 := Bool.eq_false_iff.mpr c32
         subst c32
         rw [if_neg (show ¬ (false = true) by decide)] at H
         obtain rfl := Option.some.inj H
         have hcz34_0 := zc0 BK270
         have hcz34_1 := zc1 BK270
         have hcz34_2 := zc2 BK270
         have hcz34_3 := zc3 BK270
         have hcz34_4 := zc4 BK270
         have hcz34_5 := zc5 BK270
         have hcz34_6 := zc6 BK270
         have hfz34_0 := blk_frozen BK270.out 0
         have hfz34_1 := blk_frozen BK270.out 1
         have hfz34_2 := blk_frozen BK270.out 2
         have hfz34_3 := blk_frozen BK270.out 3
         have hfz34_4 := blk_frozen BK270.out 4
         have hfz34_5 := blk_frozen BK270.out 5
         have hfz34_6 := blk_frozen BK270.out 6
         go_wp2_with (first | ((with_reducible refine gate_callee (f := 29) rfl ?_); refine zc (some 63) Try.func29 #[.int .i64 a0_2] ?_; (with_reducible refine (impl_isByte.calls a0_2 true _ A29.out).mono ?_); rintro e w' ⟨rfl, ⟨nd, rfl⟩⟩; refine ⟨_, rfl, ?_⟩) | (go_at_call 34; (with_reducible refine (impl_within.calls a0_4 0 3 false _ A31.out).mono ?_); rintro e w' ⟨rfl, ⟨nd, rfl⟩⟩))
         go_ret
         exact ⟨ze _, zb _⟩
       ·replace c30 := Bool.eq_false_iff.mpr c30
        subst c30
        rw [if_neg (show ¬ (false = true) by decide)] at H
        obtain rfl := Option.some.inj H
        have hcz35_0 := zc0 BK270
        have hcz35_1 := zc1 BK270
        have hcz35_2 := zc2 BK270
        have hcz35_3 := zc3 BK270
        have hcz35_4 := zc4 BK270
        have hcz35_5 := zc5 BK270
        have hcz35_6 := zc6 BK270
        have hfz35_0 := blk_frozen BK270.out 0
        have hfz35_1 := blk_frozen BK270.out 1
        have hfz35_2 := blk_frozen BK270.out 2
        have hfz35_3 := blk_frozen BK270.out 3
        have hfz35_4 := blk_frozen BK270.out 4
        have hfz35_5 := blk_frozen BK270.out 5
        have hfz35_6 := blk_frozen BK270.out 6
        go_wp2_with (first | ((with_reducible refine gate_callee (f := 29) rfl ?_); refine zc (some 63) Try.func29 #[.int .i64 a0_2] ?_; (with_reducible refine (impl_isByte.calls a0_2 false _ A29.out).mono ?_); rintro e w' ⟨rfl, ⟨nd, rfl⟩⟩; refine ⟨_, rfl, ?_⟩))
        go_ret
        exact ⟨ze _, zb _⟩
      ·rw [if_neg c28] at H
       have c28b0 : (a0_1 == 2) = false := beq_eq_false_iff_ne.mpr c28
       have c28b1 : (a0_1 != 2) = true := bne_iff_ne.mpr c28
       obtain rfl := Option.some.inj H
       have hcz36_0 := zc0 BK270
       have hcz36_1 := zc1 BK270
       have hcz36_2 := zc2 BK270
       have hcz36_3 := zc3 BK270
       have hcz36_4 := zc4 BK270
       have hcz36_5 := zc5 BK270
       have hcz36_6 := zc6 BK270
       have hfz36_0 := blk_frozen BK270.out 0
       have hfz36_1 := blk_frozen BK270.out 1
       have hfz36_2 := blk_frozen BK270.out 2
       have hfz36_3 := blk_frozen BK270.out 3
       have hfz36_4 := blk_frozen BK270.out 4
       have hfz36_5 := blk_frozen BK270.out 5
       have hfz36_6 := blk_frozen BK270.out 6
       go_wp2
       go_ret
       exact ⟨ze _, zb _⟩

end Go.Proofs.Ytmgbdbamfljjnaa.PFnExactBusWrite
