/- What the Go functions that the law FnExactBusRead reaches compute, function by function, and that Go comes to just that. -/
import Derived.Test.YtmgbdbamfljjnaaPFnExactBusReadx0
import Derived.Test.YtmgbdbamfljjnaaPFnExactBusReadx4
import Derived.Test.YtmgbdbamfljjnaaPFnExactBusReadx6
namespace Go.Proofs.Ytmgbdbamfljjnaa.PFnExactBusRead
open Go.RowKit Go.Proofs.YtmgbdbamfljjnaaW.PrintWords Go.Proofs.YtmgbdbamfljjnaaW.PrintLast Go.Proofs.YtmgbdbamfljjnaaW.PrintMore
attribute [local go_sem] max2_int min2_int max_two min_two max_three min_three max_four min_four   -- for this text's walks alone
set_option linter.unusedVariables false
set_option linter.unusedSimpArgs false

/-! ### impl_Cart_ramPlace: function 60 -/
def impl_Cart_ramPlace.j0 : Nat → Int → Bool → ByteArray → Int → Int → ByteArray → Int → Bool → Int → Option (Int)
  | 0, _, _, _, _, _, _, _, _, _ => none
  | k + 1, x1, x13, x212000, x212001, x212002, x212003, x212004, x212005, x212006 => if x13 = true then (some (-1)) else (if x212001 = 1 then (if x212006 = 0 then (some (wrap64 ((wrap64 ((0 * 64) + x1)) - 40960))) else (some (wrap64 ((wrap64 ((wrap64 (x212004 * 64)) + x1)) - 40960)))) else (some (wrap64 ((wrap64 ((wrap64 (x212004 * 64)) + x1)) - 40960))))
def impl_Cart_ramPlace.f (k : Nat) (a0_0 : ByteArray) (a0_1 : Int) (a0_2 : Int) (a0_3 : ByteArray) (a0_4 : Int) (a0_5 : Bool) (a0_6 : Int) (a1 : Int) : Option (Int) := if a0_5 = true then ((impl_within.f a1 40960 41023).bind fun t212 => (impl_Cart_ramPlace.j0 k a1 (!t212) a0_0 a0_1 a0_2 a0_3 a0_4 a0_5 a0_6)) else (impl_Cart_ramPlace.j0 k a1 true a0_0 a0_1 a0_2 a0_3 a0_4 a0_5 a0_6)
theorem impl_Cart_ramPlace.mono_l : ∀ k, (∀ y0 y1 y2 y3 y4 y5 y6 y7 y8, LeO (impl_Cart_ramPlace.j0 k y0 y1 y2 y3 y4 y5 y6 y7 y8) (impl_Cart_ramPlace.j0 (k + 1) y0 y1 y2 y3 y4 y5 y6 y7 y8))
  | 0 => fun _ _ _ _ _ _ _ _ _ r h => by simp [impl_Cart_ramPlace.j0] at h
  | k + 1 => by
    have ih0 := impl_Cart_ramPlace.mono_l k
    · intro y0 y1 y2 y3 y4 y5 y6 y7 y8
      unfold impl_Cart_ramPlace.j0
      repeat' first
      | (with_reducible exact ih0 _ _ _ _ _ _ _ _ _)
      | (with_reducible exact LeO.refl _)
      | (with_reducible exact LeO.none _)
      | (with_reducible refine LeO.ite ?_ ?_)
      | (with_reducible refine LeO.bind ?_ (fun _ => ?_))
      | exact ih0 _ _ _ _ _ _ _ _ _
      | exact LeO.none _
      | refine LeO.ite ?_ ?_
      | refine LeO.bind ?_ (fun _ => ?_)
theorem impl_Cart_ramPlace.mono : ∀ a0 a1 a2 a3 a4 a5 a6 a7 k, LeO (impl_Cart_ramPlace.f k a0 a1 a2 a3 a4 a5 a6 a7) (impl_Cart_ramPlace.f (k + 1) a0 a1 a2 a3 a4 a5 a6 a7) := by
  intro a0 a1 a2 a3 a4 a5 a6 a7 k
  have ih0 := impl_Cart_ramPlace.mono_l k
  unfold impl_Cart_ramPlace.f
  repeat' first
      | (with_reducible exact ih0 _ _ _ _ _ _ _ _ _)
      | (with_reducible exact LeO.refl _)
      | (with_reducible exact LeO.none _)
      | (with_reducible refine LeO.ite ?_ ?_)
      | (with_reducible refine LeO.bind ?_ (fun _ => ?_))
      | exact ih0 _ _ _ _ _ _ _ _ _
      | exact LeO.none _
      | refine LeO.ite ?_ ?_
      | refine LeO.bind ?_ (fun _ => ?_)
set_option maxHeartbeats 8000000 in
set_option maxRecDepth 100000 in
theorem impl_Cart_ramPlace.calls (k : Nat) (a0_0 : ByteArray) (a0_1 : Int) (a0_2 : Int) (a0_3 : ByteArray) (a0_4 : Int) (a0_5 : Bool) (a0_6 : Int) (a1 : Int) (r : Int) (w : World) (h : impl_Cart_ramPlace.f k a0_0 a0_1 a0_2 a0_3 a0_4 a0_5 a0_6 a1 = some r) :
    Calls Try.prog 60 #[.agg #[.string a0_0, .int .i64 a0_1, .int .i64 a0_2, .string a0_3, .int .i64 a0_4, .bool a0_5, .int .i64 a0_6], .int .i64 a1] w fun e w' => e = .returned (.int .i64 r) ∧ Below w.heap.size w w' := by
  have hu32 := Try.underlying32
  have HB := Aside0.mk (Below.refl w.heap.size w)
  have H : (if a0_5 = true then ((impl_within.f a1 40960 41023).bind fun t212 => (impl_Cart_ramPlace.j0 k a1 (!t212) a0_0 a0_1 a0_2 a0_3 a0_4 a0_5 a0_6)) else (impl_Cart_ramPlace.j0 k a1 true a0_0 a0_1 a0_2 a0_3 a0_4 a0_5 a0_6)) = some r := h
  clear h
  have HC3 := Aside0.mk H
  clear H
  go_enter Try.func60, Try.ntmps60
  go_upto_region 1 with (first | ((with_reducible refine gate_dst (N := 2) rfl ?_); refine box_event ?hg (N := 2) ?hd (cs := #[.string a0_0, .int .i64 a0_1, .int .i64 a0_2, .string a0_3, .int .i64 a0_4, .bool a0_5, .int .i64 a0_6]) (t := 32) ?hr ?_; (case hd => rfl); (case hg => rfl); (case hr => first | (go_simp; done) | (go_simp; rfl)); intro gb211 hg w4 hbox hb; have n0_ := Aside0.mk (below_step (by repeat (first | (with_reducible first | exact HB.out | apply below_alloc | apply pw_below_drewN | apply below_drew1) | exact HB.out)) hb); have n1_ := Aside0.mk (hbox); have n2_ := Aside0.mk ((by rw [hg]; exact (below_size (by repeat (first | (with_reducible first | exact HB.out | apply below_alloc | apply pw_below_drewN | apply below_drew1) | exact HB.out))) : w.heap.size ≤ gb211)); have n3_ := Aside0.mk ((by rw [hg]; exact (below_size (by repeat (first | (with_reducible first | exact HB.out | apply below_alloc | apply pw_below_drewN | apply below_drew1) | exact HB.out))) : w.heap.size ≤ gb211)); clear HB; have HB := n0_; have BK211 := n1_; have GW211 := n2_; have GE211 := n3_; clear n0_ n1_ n2_ n3_; clear hb hbox hg))
  (try simp only [Act.put, List.setIfInBounds_toArray, List.set_cons_zero, List.set_cons_succ])
  go_cut [13] (fun v13 wc => ∃ (kq : Nat) (x13_2 : Bool), v13 = .bool x13_2 ∧ Aside0 (impl_Cart_ramPlace.j0 kq a1 x13_2 a0_0 a0_1 a0_2 a0_3 a0_4 a0_5 a0_6 = some r) ∧ Aside0 (kq ≤ k) ∧ Aside0 (wc.heap[gb211]? = some (.cells #[.string a0_0, .int .i64 a0_1, .int .i64 a0_2, .string a0_3, .int .i64 a0_4, .bool a0_5, .int .i64 a0_6] 32 (0, 0))) ∧ Aside0 (Below w.heap.size w wc))
  case first =>
    have H := HC3.out
    clear HC3
    by_cases c5 : a0_5 = true
    · subst c5
      have H1 : ((impl_within.f a1 40960 41023).bind fun t212 => (impl_Cart_ramPlace.j0 k a1 (!t212) a0_0 a0_1 a0_2 a0_3 a0_4 true a0_6)) = some r := by rw [if_pos rfl] at H; exact H
      clear H
      have H := H1
      clear H1
      replace H := Option.bind_eq_some_iff.mp H
      obtain ⟨t212, A60, H⟩ := H
      replace H : (impl_Cart_ramPlace.j0 k a1 (!t212) a0_0 a0_1 a0_2 a0_3 a0_4 true a0_6) = some r := H
      have A6 := Aside0.mk A60
      clear A60
      have H' := Aside0.mk H
      clear H
      have hcz7_0 : w4.cell? ⟨gb211, 0, none⟩ = some (.string a0_0) := (blk_cell BK211.out 0).trans rfl
      have hcz7_1 : w4.cell? ⟨gb211, 1, none⟩ = some (.int .i64 a0_1) := (blk_cell BK211.out 1).trans rfl
      have hcz7_2 : w4.cell? ⟨gb211, 2, none⟩ = some (.int .i64 a0_2) := (blk_cell BK211.out 2).trans rfl
      have hcz7_3 : w4.cell? ⟨gb211, 3, none⟩ = some (.string a0_3) := (blk_cell BK211.out 3).trans rfl
      have hcz7_4 : w4.cell? ⟨gb211, 4, none⟩ = some (.int .i64 a0_4) := (blk_cell BK211.out 4).trans rfl
      have hcz7_5 : w4.cell? ⟨gb211, 5, none⟩ = some (.bool true) := (blk_cell BK211.out 5).trans rfl
      have hcz7_6 : w4.cell? ⟨gb211, 6, none⟩ = some (.int .i64 a0_6) := (blk_cell BK211.out 6).trans rfl
      have hfz7_0 := blk_frozen BK211.out 0
      have hfz7_1 := blk_frozen BK211.out 1
      have hfz7_2 := blk_frozen BK211.out 2
      have hfz7_3 := blk_frozen BK211.out 3
      have hfz7_4 := blk_frozen BK211.out 4
      have hfz7_5 := blk_frozen BK211.out 5
      have hfz7_6 := blk_frozen BK211.out 6
      go_wp2_with (first | (go_at_call 34; (with_reducible refine (impl_within.calls a1 40960 41023 t212 _ A6.out).mono ?_); rintro e w' ⟨rfl, ⟨nd, rfl⟩⟩))
      go_meet
      case rel => exact ⟨_, (!t212), (by first | rfl | (simp; done) | (simp [*]; done)), H', ⟨by first | omega | exact Nat.le_refl _⟩, ⟨by (with_reducible repeat (first | refine blk_drewN ?_ _ | refine blk_drew ?_ | refine blk_alloc ?_ _)); exact BK211.out⟩, ⟨by repeat (first | (with_reducible first | exact HB.out | apply below_alloc | apply pw_below_drewN | apply below_drew1 | refine below_set ?_ GE211.out) | exact HB.out)⟩⟩
    · replace c5 := Bool.eq_false_iff.mpr c5
      subst c5
      have H1 : (impl_Cart_ramPlace.j0 k a1 true a0_0 a0_1 a0_2 a0_3 a0_4 false a0_6) = some r := by rw [if_neg (show ¬ (false = true) by decide)] at H; exact H
      clear H
      have H := H1
      clear H1
      have H' := Aside0.mk H
      clear H
      have hcz8_0 : w4.cell? ⟨gb211, 0, none⟩ = some (.string a0_0) := (blk_cell BK211.out 0).trans rfl
      have hcz8_1 : w4.cell? ⟨gb211, 1, none⟩ = some (.int .i64 a0_1) := (blk_cell BK211.out 1).trans rfl
      have hcz8_2 : w4.cell? ⟨gb211, 2, none⟩ = some (.int .i64 a0_2) := (blk_cell BK211.out 2).trans rfl
      have hcz8_3 : w4.cell? ⟨gb211, 3, none⟩ = some (.string a0_3) := (blk_cell BK211.out 3).trans rfl
      have hcz8_4 : w4.cell? ⟨gb211, 4, none⟩ = some (.int .i64 a0_4) := (blk_cell BK211.out 4).trans rfl
      have hcz8_5 : w4.cell? ⟨gb211, 5, none⟩ = some (.bool false) := (blk_cell BK211.out 5).trans rfl
      have hcz8_6 : w4.cell? ⟨gb211, 6, none⟩ = some (.int .i64 a0_6) := (blk_cell BK211.out 6).trans rfl
      have hfz8_0 := blk_frozen BK211.out 0
      have hfz8_1 := blk_frozen BK211.out 1
      have hfz8_2 := blk_frozen BK211.out 2
      have hfz8_3 := blk_frozen BK211.out 3
      have hfz8_4 := blk_frozen BK211.out 4
      have hfz8_5 := blk_frozen BK211.out 5
      have hfz8_6 := blk_frozen BK211.out 6
      go_wp2
      go_meet
      case rel => exact ⟨_, (true), (by first | rfl | (simp; done) | (simp [*]; done)), H', ⟨by first | omega | exact Nat.le_refl _⟩, ⟨by (with_reducible repeat (first | refine blk_drewN ?_ _ | refine blk_drew ?_ | refine blk_alloc ?_ _)); exact BK211.out⟩, ⟨by repeat (first | (with_reducible first | exact HB.out | apply below_alloc | apply pw_below_drewN | apply below_drew1 | refine below_set ?_ GE211.out) | exact HB.out)⟩⟩
  case rest =>
    clear HC3
    try clear p2
    try clear c5
    try clear c6
    try clear hcz7_0
    try clear hcz7_1
    try clear hcz7_2
    try clear hcz7_3
    try clear hcz7_4
    try clear hcz7_5
    try clear hcz7_6
    try clear hcz8_0
    try clear hcz8_1
    try clear hcz8_2
    try clear hcz8_3
    try clear hcz8_4
    try clear hcz8_5
    try clear hcz8_6
    try clear hfz7_0
    try clear hfz7_1
    try clear hfz7_2
    try clear hfz7_3
    try clear hfz7_4
    try clear hfz7_5
    try clear hfz7_6
    try clear hfz8_0
    try clear hfz8_1
    try clear hfz8_2
    try clear hfz8_3
    try clear hfz8_4
    try clear hfz8_5
    try clear hfz8_6
    obtain ⟨kq, x13_2, rfl, HA, HJ2, BK211, HB⟩ := hcut
    cases kq with
    | zero => exact absurd HA.out (by simp [impl_Cart_ramPlace.j0])
    | succ kj2 =>
      have H := HA.out
      clear HA
      simp only [impl_Cart_ramPlace.j0] at H
      by_cases c9 : x13_2 = true
      · subst c9
        have H1 : (some (-1)) = some r := by rw [if_pos rfl] at H; exact H
        clear H
        have H := H1
        clear H1
        obtain rfl := Option.some.inj H
        go_wp2
        go_ret
        exact ⟨by first | rfl | (simp [errW_none, errW_some] <;> rfl) | (simp [*, errW_none, errW_some] <;> rfl), by repeat (first | (with_reducible first | exact HB.out | apply below_alloc | apply pw_below_drewN | apply below_drew1 | refine below_set ?_ GE211.out) | exact HB.out)⟩
      · replace c9 := Bool.eq_false_iff.mpr c9
        subst c9
        have H1 : (if a0_1 = 1 then (if a0_6 = 0 then (some (wrap64 ((wrap64 ((0 * 64) + a1)) - 40960))) else (some (wrap64 ((wrap64 ((wrap64 (a0_4 * 64)) + a1)) - 40960)))) else (some (wrap64 ((wrap64 ((wrap64 (a0_4 * 64)) + a1)) - 40960)))) = some r := by rw [if_neg (show ¬ (false = true) by decide)] at H; exact H
        clear H
        have H := H1
        clear H1
        by_cases c10 : a0_1 = 1
        · rw [if_pos c10] at H
          have c10b0 : (a0_1 == 1) = true := beq_iff_eq.mpr c10
          have c10b1 : (a0_1 != 1) = false := bne_eq_false_iff_eq.mpr c10
          clear c10
          by_cases c11 : a0_6 = 0
          · rw [if_pos c11] at H
            have c11b0 : (a0_6 == 0) = true := beq_iff_eq.mpr c11
            have c11b1 : (a0_6 != 0) = false := bne_eq_false_iff_eq.mpr c11
            clear c11
            obtain rfl := Option.some.inj H
            have hcz12_0 : wc.cell? ⟨gb211, 0, none⟩ = some (.string a0_0) := (blk_cell BK211.out 0).trans rfl
            have hcz12_1 : wc.cell? ⟨gb211, 1, none⟩ = some (.int .i64 a0_1) := (blk_cell BK211.out 1).trans rfl
            have hcz12_2 : wc.cell? ⟨gb211, 2, none⟩ = some (.int .i64 a0_2) := (blk_cell BK211.out 2).trans rfl
            have hcz12_3 : wc.cell? ⟨gb211, 3, none⟩ = some (.string a0_3) := (blk_cell BK211.out 3).trans rfl
            have hcz12_4 : wc.cell? ⟨gb211, 4, none⟩ = some (.int .i64 a0_4) := (blk_cell BK211.out 4).trans rfl
            have hcz12_5 : wc.cell? ⟨gb211, 5, none⟩ = some (.bool a0_5) := (blk_cell BK211.out 5).trans rfl
            have hcz12_6 : wc.cell? ⟨gb211, 6, none⟩ = some (.int .i64 a0_6) := (blk_cell BK211.out 6).trans rfl
            have hfz12_0 := blk_frozen BK211.out 0
            have hfz12_1 := blk_frozen BK211.out 1
            have hfz12_2 := blk_frozen BK211.out 2
            have hfz12_3 := blk_frozen BK211.out 3
            have hfz12_4 := blk_frozen BK211.out 4
            have hfz12_5 := blk_frozen BK211.out 5
            have hfz12_6 := blk_frozen BK211.out 6
            go_wp2
            go_ret
            exact ⟨by first | rfl | (simp [errW_none, errW_some] <;> rfl) | (simp [*, errW_none, errW_some] <;> rfl), by repeat (first | (with_reducible first | exact HB.out | apply below_alloc | apply pw_below_drewN | apply below_drew1 | refine below_set ?_ GE211.out) | exact HB.out)⟩
          · rw [if_neg c11] at H
            have c11b0 : (a0_6 == 0) = false := beq_eq_false_iff_ne.mpr c11
            have c11b1 : (a0_6 != 0) = true := bne_iff_ne.mpr c11
            obtain rfl := Option.some.inj H
            have hcz13_0 : wc.cell? ⟨gb211, 0, none⟩ = some (.string a0_0) := (blk_cell BK211.out 0).trans rfl
            have hcz13_1 : wc.cell? ⟨gb211, 1, none⟩ = some (.int .i64 a0_1) := (blk_cell BK211.out 1).trans rfl
            have hcz13_2 : wc.cell? ⟨gb211, 2, none⟩ = some (.int .i64 a0_2) := (blk_cell BK211.out 2).trans rfl
            have hcz13_3 : wc.cell? ⟨gb211, 3, none⟩ = some (.string a0_3) := (blk_cell BK211.out 3).trans rfl
            have hcz13_4 : wc.cell? ⟨gb211, 4, none⟩ = some (.int .i64 a0_4) := (blk_cell BK211.out 4).trans rfl
            have hcz13_5 : wc.cell? ⟨gb211, 5, none⟩ = some (.bool a0_5) := (blk_cell BK211.out 5).trans rfl
            have hcz13_6 : wc.cell? ⟨gb211, 6, none⟩ = some (.int .i64 a0_6) := (blk_cell BK211.out 6).trans rfl
            have hfz13_0 := blk_frozen BK211.out 0
            have hfz13_1 := blk_frozen BK211.out 1
            have hfz13_2 := blk_frozen BK211.out 2
            have hfz13_3 := blk_frozen BK211.out 3
            have hfz13_4 := blk_frozen BK211.out 4
            have hfz13_5 := blk_frozen BK211.out 5
            have hfz13_6 := blk_frozen BK211.out 6
            go_wp2
            go_ret
            exact ⟨by first | rfl | (simp [errW_none, errW_some] <;> rfl) | (simp [*, errW_none, errW_some] <;> rfl), by repeat (first | (with_reducible first | exact HB.out | apply below_alloc | apply pw_below_drewN | apply below_drew1 | refine below_set ?_ GE211.out) | exact HB.out)⟩
        · rw [if_neg c10] at H
          have c10b0 : (a0_1 == 1) = false := beq_eq_false_iff_ne.mpr c10
          have c10b1 : (a0_1 != 1) = true := bne_iff_ne.mpr c10
          obtain rfl := Option.some.inj H
          have hcz14_0 : wc.cell? ⟨gb211, 0, none⟩ = some (.string a0_0) := (blk_cell BK211.out 0).trans rfl
          have hcz14_1 : wc.cell? ⟨gb211, 1, none⟩ = some (.int .i64 a0_1) := (blk_cell BK211.out 1).trans rfl
          have hcz14_2 : wc.cell? ⟨gb211, 2, none⟩ = some (.int .i64 a0_2) := (blk_cell BK211.out 2).trans rfl
          have hcz14_3 : wc.cell? ⟨gb211, 3, none⟩ = some (.string a0_3) := (blk_cell BK211.out 3).trans rfl
          have hcz14_4 : wc.cell? ⟨gb211, 4, none⟩ = some (.int .i64 a0_4) := (blk_cell BK211.out 4).trans rfl
          have hcz14_5 : wc.cell? ⟨gb211, 5, none⟩ = some (.bool a0_5) := (blk_cell BK211.out 5).trans rfl
          have hcz14_6 : wc.cell? ⟨gb211, 6, none⟩ = some (.int .i64 a0_6) := (blk_cell BK211.out 6).trans rfl
          have hfz14_0 := blk_frozen BK211.out 0
          have hfz14_1 := blk_frozen BK211.out 1
          have hfz14_2 := blk_frozen BK211.out 2
          have hfz14_3 := blk_frozen BK211.out 3
          have hfz14_4 := blk_frozen BK211.out 4
          have hfz14_5 := blk_frozen BK211.out 5
          have hfz14_6 := blk_frozen BK211.out 6
          go_wp2
          go_ret
          exact ⟨by first | rfl | (simp [errW_none, errW_some] <;> rfl) | (simp [*, errW_none, errW_some] <;> rfl), by repeat (first | (with_reducible first | exact HB.out | apply below_alloc | apply pw_below_drewN | apply below_drew1 | refine below_set ?_ GE211.out) | exact HB.out)⟩

/-! ### impl_Cart_mapped: function 61 -/
def impl_Cart_mapped.f (a0_0 : ByteArray) (a0_1 : Int) (a0_2 : Int) (a0_3 : ByteArray) (a0_4 : Int) (a0_5 : Bool) (a0_6 : Int) : Option (Int) := if (wrap64 ((a0_0.size : Int) / 256)) = 0 then (none) else (some (Int.tmod a0_2 (wrap64 ((a0_0.size : Int) / 256))))
open Go.Proofs.Ytmgbdbamfljjnaa.Aid in
set_option maxHeartbeats 8000000 in
set_option maxRecDepth 100000 in
theorem impl_Cart_mapped.calls (a0_0 : ByteArray) (a0_1 : Int) (a0_2 : Int) (a0_3 : ByteArray) (a0_4 : Int) (a0_5 : Bool) (a0_6 : Int) (r : Int) (w : World) (h : impl_Cart_mapped.f a0_0 a0_1 a0_2 a0_3 a0_4 a0_5 a0_6 = some r) :
    Calls Try.prog 61 #[.agg #[.string a0_0, .int .i64 a0_1, .int .i64 a0_2, .string a0_3, .int .i64 a0_4, .bool a0_5, .int .i64 a0_6]] w fun e w' => e = .returned (.int .i64 r) ∧ Below w.heap.size w w' := by
  have hu32 := Try.underlying32
  have HB := Aside0.mk (Below.refl w.heap.size w)
  have H : (if (wrap64 ((a0_0.size : Int) / 256)) = 0 then (none) else (some (Int.tmod a0_2 (wrap64 ((a0_0.size : Int) / 256))))) = some r := h
  clear h
  by_cases c2 : (wrap64 ((a0_0.size : Int) / 256)) = 0
  · rw [if_pos c2] at H
    exact absurd H (by simp)
  · rw [if_neg c2] at H
    have c2b0 : ((wrap64 ((a0_0.size : Int) / 256)) == 0) = false := beq_eq_false_iff_ne.mpr c2
    have c2b1 : ((wrap64 ((a0_0.size : Int) / 256)) != 0) = true := bne_iff_ne.mpr c2
    obtain rfl := Option.some.inj H
    go_enter Try.func61, Try.ntmps61
    go_wp2_with (first | ((with_reducible refine gate_dst (N := 1) rfl ?_); refine box_event ?hg (N := 1) ?hd (cs := #[.string a0_0, .int .i64 a0_1, .int .i64 a0_2, .string a0_3, .int .i64 a0_4, .bool a0_5, .int .i64 a0_6]) (t := 32) ?hr ?_; (case hd => rfl); (case hg => rfl); (case hr => first | (go_simp; done) | (go_simp; rfl)); intro gb213 hg w3 hbox hb; have n0_ := Aside0.mk (below_step (by repeat (first | (with_reducible first | exact HB.out | apply below_alloc | apply pw_below_drewN | apply below_drew1) | exact HB.out)) hb); have n1_ := Aside0.mk (hbox); have n2_ := Aside0.mk ((by rw [hg]; exact (below_size (by repeat (first | (with_reducible first | exact HB.out | apply below_alloc | apply pw_below_drewN | apply below_drew1) | exact HB.out))) : w.heap.size ≤ gb213)); have n3_ := Aside0.mk ((by rw [hg]; exact (below_size (by repeat (first | (with_reducible first | exact HB.out | apply below_alloc | apply pw_below_drewN | apply below_drew1) | exact HB.out))) : w.heap.size ≤ gb213)); clear HB; have HB := n0_; have BK213 := n1_; have GW213 := n2_; have GE213 := n3_; clear n0_ n1_ n2_ n3_; clear hb hbox hg; have hZ4_ := cells_all BK213.out; simp only [allCells, Nat.zero_add, Nat.reduceAdd] at hZ4_; obtain ⟨hcz4_0, hfz4_0, hcz4_1, hfz4_1, hcz4_2, hfz4_2, hcz4_3, hfz4_3, hcz4_4, hfz4_4, hcz4_5, hfz4_5, hcz4_6, hfz4_6, _⟩ := hZ4_))
    go_ret
    exact ⟨by first | rfl | (simp [errW_none, errW_some] <;> rfl) | (simp [*, errW_none, errW_some] <;> rfl), by repeat (first | (with_reducible first | exact HB.out | apply below_alloc | apply pw_below_drewN | apply below_drew1 | refine below_set ?_ GE213.out) | exact HB.out)⟩

/-! ### impl_Cart_read: function 52 -/
def impl_Cart_read.f (k : Nat) (a0_0 : ByteArray) (a0_1 : Int) (a0_2 : Int) (a0_3 : ByteArray) (a0_4 : Int) (a0_5 : Bool) (a0_6 : Int) (a1 : Int) : Option (Int) := (impl_Cart_ramPlace.f k a0_0 a0_1 a0_2 a0_3 a0_4 a0_5 a0_6 a1).bind fun t215 => (if a1 < 256 then (if 0 ≤ a1 then (if a1 < (a0_0.size : Int) then (some (wrap64 (bt a0_0 a1))) else (none)) else (none)) else (if a1 < 512 then ((impl_Cart_mapped.f a0_0 a0_1 a0_2 a0_3 a0_4 a0_5 a0_6).bind fun t216 => (if 0 ≤ (wrap64 ((wrap64 ((wrap64 (t216 * 256)) + a1)) - 256)) then (if (wrap64 ((wrap64 ((wrap64 (t216 * 256)) + a1)) - 256)) < (a0_0.size : Int) then (some (wrap64 (bt a0_0 (wrap64 ((wrap64 ((wrap64 (t216 * 256)) + a1)) - 256))))) else (none)) else (none))) else (if t215 ≥ 0 then (if 0 ≤ t215 then (if t215 < (a0_3.size : Int) then (some (wrap64 (bt a0_3 t215))) else (none)) else (none)) else (some 255))))
theorem impl_Cart_read.mono : ∀ a0 a1 a2 a3 a4 a5 a6 a7 k, LeO (impl_Cart_read.f k a0 a1 a2 a3 a4 a5 a6 a7) (impl_Cart_read.f (k + 1) a0 a1 a2 a3 a4 a5 a6 a7) := by
  intro a0 a1 a2 a3 a4 a5 a6 a7 k
  unfold impl_Cart_read.f
  repeat' first
      | (with_reducible exact impl_Cart_ramPlace.mono _ _ _ _ _ _ _ _ _)
      | (with_reducible exact LeO.refl _)
      | (with_reducible exact LeO.none _)
      | (with_reducible refine LeO.ite ?_ ?_)
      | (with_reducible refine LeO.bind ?_ (fun _ => ?_))
      | exact impl_Cart_ramPlace.mono _ _ _ _ _ _ _ _ _
      | exact LeO.none _
      | refine LeO.ite ?_ ?_
      | refine LeO.bind ?_ (fun _ => ?_)
def impl_Cart_read.T5 : Bool × List (List Nat × List Nat) := (true, [([], []), ([0], [0]), ([], []), ([2], [2]), ([3], [3]), ([], []), ([4, 5], [4, 5]), ([6], [6]), ([1, 7], [1, 7]), ([8], [8]), ([9, 3, 0, 1, 2, 3, 4, 5, 6, 7, 8, 9], [9])])
def impl_Cart_read.B5 : List Nat := [0, 1, 0, 4, 12, 0, 60, 124, 255, 511, 1023]
theorem impl_Cart_read.tab5 : rtab .any (opsOf Try.f52 5) = impl_Cart_read.T5 := by kernel_rfl
theorem impl_Cart_read.bits5 : waitsOk impl_Cart_read.T5.2 impl_Cart_read.B5 = true := by kernel_rfl
open Go.Proofs.Ytmgbdbamfljjnaa.Aid in
set_option maxHeartbeats 8000000 in
set_option maxRecDepth 100000 in
theorem impl_Cart_read.calls (k : Nat) (a0_0 : ByteArray) (a0_1 : Int) (a0_2 : Int) (a0_3 : ByteArray) (a0_4 : Int) (a0_5 : Bool) (a0_6 : Int) (a1 : Int) (r : Int) (w : World) (h : impl_Cart_read.f k a0_0 a0_1 a0_2 a0_3 a0_4 a0_5 a0_6 a1 = some r) :
    Calls Try.prog 52 #[.agg #[.string a0_0, .int .i64 a0_1, .int .i64 a0_2, .string a0_3, .int .i64 a0_4, .bool a0_5, .int .i64 a0_6], .int .i64 a1] w fun e w' => e = .returned (.int .i64 r) ∧ Below w.heap.size w w' := by
  have hu32 := Try.underlying32
  have HB := Aside0.mk (Below.refl w.heap.size w)
  have H : ((impl_Cart_ramPlace.f k a0_0 a0_1 a0_2 a0_3 a0_4 a0_5 a0_6 a1).bind fun t215 => (if a1 < 256 then (if 0 ≤ a1 then (if a1 < (a0_0.size : Int) then (some (wrap64 (bt a0_0 a1))) else (none)) else (none)) else (if a1 < 512 then ((impl_Cart_mapped.f a0_0 a0_1 a0_2 a0_3 a0_4 a0_5 a0_6).bind fun t216 => (if 0 ≤ (wrap64 ((wrap64 ((wrap64 (t216 * 256)) + a1)) - 256)) then (if (wrap64 ((wrap64 ((wrap64 (t216 * 256)) + a1)) - 256)) < (a0_0.size : Int) then (some (wrap64 (bt a0_0 (wrap64 ((wrap64 ((wrap64 (t216 * 256)) + a1)) - 256))))) else (none)) else (none))) else (if t215 ≥ 0 then (if 0 ≤ t215 then (if t215 < (a0_3.size : Int) then (some (wrap64 (bt a0_3 t215))) else (none)) else (none)) else (some 255))))) = some r := h
  clear h
  replace H := Option.bind_eq_some_iff.mp H
  obtain ⟨t215, A30, H⟩ := H
  replace H : (if a1 < 256 then (if 0 ≤ a1 then (if a1 < (a0_0.size : Int) then (some (wrap64 (bt a0_0 a1))) else (none)) else (none)) else (if a1 < 512 then ((impl_Cart_mapped.f a0_0 a0_1 a0_2 a0_3 a0_4 a0_5 a0_6).bind fun t216 => (if 0 ≤ (wrap64 ((wrap64 ((wrap64 (t216 * 256)) + a1)) - 256)) then (if (wrap64 ((wrap64 ((wrap64 (t216 * 256)) + a1)) - 256)) < (a0_0.size : Int) then (some (wrap64 (bt a0_0 (wrap64 ((wrap64 ((wrap64 (t216 * 256)) + a1)) - 256))))) else (none)) else (none))) else (if t215 ≥ 0 then (if 0 ≤ t215 then (if t215 < (a0_3.size : Int) then (some (wrap64 (bt a0_3 t215))) else (none)) else (none)) else (some 255)))) = some r := H
  have A3 := Aside0.mk A30
  clear A30
  by_cases c4 : a1 < 256
  · rw [if_pos c4] at H
    have c4b0 : decide (a1 < 256) = true := decide_eq_true c4
    clear c4
    by_cases c5 : 0 ≤ a1
    · rw [if_pos c5] at H
      have c5b0 : decide (0 ≤ a1) = true := decide_eq_true c5
      clear c5
      by_cases c6 : a1 < (a0_0.size : Int)
      · rw [if_pos c6] at H
        have c6b0 : decide (a1 < (a0_0.size : Int)) = true := decide_eq_true c6
        clear c6
        obtain rfl := Option.some.inj H
        go_enter Try.func52, Try.ntmps52
        go_wp2_with (first | ((with_reducible refine gate_dst (N := 2) rfl ?_); refine box_event ?hg (N := 2) ?hd (cs := #[.string a0_0, .int .i64 a0_1, .int .i64 a0_2, .string a0_3, .int .i64 a0_4, .bool a0_5, .int .i64 a0_6]) (t := 32) ?hr ?_; (case hd => rfl); (case hg => rfl); (case hr => first | (go_simp; done) | (go_simp; rfl)); intro gb214 hg w8 hbox hb; have n0_ := Aside0.mk (below_step (by repeat (first | (with_reducible first | exact HB.out | apply below_alloc | apply pw_below_drewN | apply below_drew1) | exact HB.out)) hb); have n1_ := Aside0.mk (hbox); have n2_ := Aside0.mk ((by rw [hg]; exact (below_size (by repeat (first | (with_reducible first | exact HB.out | apply below_alloc | apply pw_below_drewN | apply below_drew1) | exact HB.out))) : w.heap.size ≤ gb214)); have n3_ := Aside0.mk ((by rw [hg]; exact (below_size (by repeat (first | (with_reducible first | exact HB.out | apply below_alloc | apply pw_below_drewN | apply below_drew1) | exact HB.out))) : w.heap.size ≤ gb214)); clear HB; have HB := n0_; have BK214 := n1_; have GW214 := n2_; have GE214 := n3_; clear n0_ n1_ n2_ n3_; clear hb hbox hg; have hZ9_ := cells_all BK214.out; simp only [allCells, Nat.zero_add, Nat.reduceAdd] at hZ9_; obtain ⟨hcz9_0, hfz9_0, hcz9_1, hfz9_1, hcz9_2, hfz9_2, hcz9_3, hfz9_3, hcz9_4, hfz9_4, hcz9_5, hfz9_5, hcz9_6, hfz9_6, _⟩ := hZ9_) | ((with_reducible refine gate_callee (f := 60) rfl ?_); refine goesL_ (some 8) rfl rfl Try.func60 (by kernel_rfl) rfl #[.agg #[.string a0_0, .int .i64 a0_1, .int .i64 a0_2, .string a0_3, .int .i64 a0_4, .bool a0_5, .int .i64 a0_6], .int .i64 a1] rfl (by (try simp only [List.map_toArray, List.map_cons, List.map_nil]); first | done | rfl | (simp only [List.length_drop, List.length_take]; rfl)) ?_; (with_reducible refine (impl_Cart_ramPlace.calls k a0_0 a0_1 a0_2 a0_3 a0_4 a0_5 a0_6 a1 t215 _ A3.out).mono ?_); rintro e w10 ⟨rfl, hb⟩; refine ⟨_, rfl, ?_⟩; have n0_ := Aside0.mk (blk_below (g := gb214) (o := .cells #[.string a0_0, .int .i64 a0_1, .int .i64 a0_2, .string a0_3, .int .i64 a0_4, .bool a0_5, .int .i64 a0_6] 32 (0, 0)) (by (with_reducible repeat (first | refine blk_drewN ?_ _ | refine blk_drew ?_ | refine blk_alloc ?_ _)); exact BK214.out) hb); have n1_ := Aside0.mk (below_step (by repeat (first | (with_reducible first | exact HB.out | apply below_alloc | apply pw_below_drewN | apply below_drew1 | refine below_set ?_ GE214.out) | exact HB.out)) hb); clear BK214; clear HB; have BK214 := n0_; have HB := n1_; clear n0_ n1_; (try clear hb); (try clear hb2); (try clear hk); (try clear hi); have hZ11_ := cells_all BK214.out; simp only [allCells, Nat.zero_add, Nat.reduceAdd] at hZ11_; obtain ⟨hcz11_0, hfz11_0, hcz11_1, hfz11_1, hcz11_2, hfz11_2, hcz11_3, hfz11_3, hcz11_4, hfz11_4, hcz11_5, hfz11_5, hcz11_6, hfz11_6, _⟩ := hZ11_; have p7 : 0 ≤ (a1 : Int) := of_decide_eq_true (by first | (with_reducible assumption) | assumption); have q7 : a1 < (a0_0.size : Int) := of_decide_eq_true (by first | (with_reducible assumption) | assumption); have hx7 := bt_at a0_0 a1; replace p7 := eq_true p7; replace q7 := eq_true q7))
        go_ret
        exact ⟨by first | rfl | (simp [errW_none, errW_some] <;> rfl) | (simp [*, errW_none, errW_some] <;> rfl), by repeat (first | (with_reducible first | exact HB.out | apply below_alloc | apply pw_below_drewN | apply below_drew1 | refine below_set ?_ GE214.out) | exact HB.out)⟩
      · rw [if_neg c6] at H
        exact absurd H (by simp)
    · rw [if_neg c5] at H
      exact absurd H (by simp)
  · rw [if_neg c4] at H
    have c4b0 : decide (a1 < 256) = false := decide_eq_false c4
    clear c4
    by_cases c12 : a1 < 512
    · rw [if_pos c12] at H
      have c12b0 : decide (a1 < 512) = true := decide_eq_true c12
      clear c12
      replace H := Option.bind_eq_some_iff.mp H
      obtain ⟨t216, A130, H⟩ := H
      replace H : (if 0 ≤ (wrap64 ((wrap64 ((wrap64 (t216 * 256)) + a1)) - 256)) then (if (wrap64 ((wrap64 ((wrap64 (t216 * 256)) + a1)) - 256)) < (a0_0.size : Int) then (some (wrap64 (bt a0_0 (wrap64 ((wrap64 ((wrap64 (t216 * 256)) + a1)) - 256))))) else (none)) else (none)) = some r := H
      have A13 := Aside0.mk A130
      clear A130
      obtain ⟨ji14, hji14⟩ : ∃ j_ : Int, (wrap64 ((wrap64 ((wrap64 (t216 * 256)) + a1)) - 256)) = j_ := ⟨_, rfl⟩
      replace H : (if 0 ≤ (ji14) then (if (ji14) < (a0_0.size : Int) then (some (wrap64 (bt a0_0 (ji14)))) else (none)) else (none)) = some r := by first | (rw [hji14] at H; exact H) | (simp only [hji14] at H ⊢; exact H)
      (try rw [hji14] at A3)
      (try rw [hji14] at A13)
      have hji14w : (IntKind.i64.wrap ((wrap64 ((wrap64 (t216 * 256)) + a1)) - 256)) = ji14 := (i64_w _).trans hji14
      by_cases c15 : 0 ≤ (ji14)
      · rw [if_pos c15] at H
        have c15b0 : decide (0 ≤ (ji14)) = true := decide_eq_true c15
        clear c15
        by_cases c16 : (ji14) < (a0_0.size : Int)
        · rw [if_pos c16] at H
          have c16b0 : decide ((ji14) < (a0_0.size : Int)) = true := decide_eq_true c16
          clear c16
          obtain rfl := Option.some.inj H
          go_enter Try.func52, Try.ntmps52
          try go_wp2_with (first | ((with_reducible refine gate_dst (N := 2) rfl ?_); refine box_event ?hg (N := 2) ?hd (cs := #[.string a0_0, .int .i64 a0_1, .int .i64 a0_2, .string a0_3, .int .i64 a0_4, .bool a0_5, .int .i64 a0_6]) (t := 32) ?hr ?_; (case hd => rfl); (case hg => rfl); (case hr => first | (go_simp; done) | (go_simp; rfl)); intro gb214 hg w18 hbox hb; have n0_ := Aside0.mk (below_step (by repeat (first | (with_reducible first | exact HB.out | apply below_alloc | apply pw_below_drewN | apply below_drew1) | exact HB.out)) hb); have n1_ := Aside0.mk (hbox); have n2_ := Aside0.mk ((by rw [hg]; exact (below_size (by repeat (first | (with_reducible first | exact HB.out | apply below_alloc | apply pw_below_drewN | apply below_drew1) | exact HB.out))) : w.heap.size ≤ gb214)); have n3_ := Aside0.mk ((by rw [hg]; exact (below_size (by repeat (first | (with_reducible first | exact HB.out | apply below_alloc | apply pw_below_drewN | apply below_drew1) | exact HB.out))) : w.heap.size ≤ gb214)); clear HB; have HB := n0_; have BK214 := n1_; have GW214 := n2_; have GE214 := n3_; clear n0_ n1_ n2_ n3_; clear hb hbox hg; have hZ19_ := cells_all BK214.out; simp only [allCells, Nat.zero_add, Nat.reduceAdd] at hZ19_; obtain ⟨hcz19_0, hfz19_0, hcz19_1, hfz19_1, hcz19_2, hfz19_2, hcz19_3, hfz19_3, hcz19_4, hfz19_4, hcz19_5, hfz19_5, hcz19_6, hfz19_6, _⟩ := hZ19_) | ((with_reducible refine gate_callee (f := 60) rfl ?_); refine goesL_ (some 8) rfl rfl Try.func60 (by kernel_rfl) rfl #[.agg #[.string a0_0, .int .i64 a0_1, .int .i64 a0_2, .string a0_3, .int .i64 a0_4, .bool a0_5, .int .i64 a0_6], .int .i64 a1] rfl (by (try simp only [List.map_toArray, List.map_cons, List.map_nil]); first | done | rfl | (simp only [List.length_drop, List.length_take]; rfl)) ?_; (with_reducible refine (impl_Cart_ramPlace.calls k a0_0 a0_1 a0_2 a0_3 a0_4 a0_5 a0_6 a1 t215 _ A3.out).mono ?_); rintro e w20 ⟨rfl, hb⟩; refine ⟨_, rfl, ?_⟩; have n0_ := Aside0.mk (blk_below (g := gb214) (o := .cells #[.string a0_0, .int .i64 a0_1, .int .i64 a0_2, .string a0_3, .int .i64 a0_4, .bool a0_5, .int .i64 a0_6] 32 (0, 0)) (by (with_reducible repeat (first | refine blk_drewN ?_ _ | refine blk_drew ?_ | refine blk_alloc ?_ _)); exact BK214.out) hb); have n1_ := Aside0.mk (below_step (by repeat (first | (with_reducible first | exact HB.out | apply below_alloc | apply pw_below_drewN | apply below_drew1 | refine below_set ?_ GE214.out) | exact HB.out)) hb); clear BK214; clear HB; have BK214 := n0_; have HB := n1_; clear n0_ n1_; (try clear hb); (try clear hb2); (try clear hk); (try clear hi)))
          have n0_ := Aside0.mk (blk_drew BK214.out)
          have n1_ := Aside0.mk (below_drew1 HB.out)
          clear BK214
          clear HB
          have BK214 := n0_
          have HB := n1_
          clear n0_ n1_
          refine start_ (n := 11) (S := fun w' => w'.cell? ⟨gb214, 0, none⟩ = some (.string a0_0) ∧ w'.cell? ⟨gb214, 1, none⟩ = some (.int .i64 a0_1) ∧ w'.cell? ⟨gb214, 2, none⟩ = some (.int .i64 a0_2) ∧ w'.cell? ⟨gb214, 3, none⟩ = some (.string a0_3) ∧ w'.cell? ⟨gb214, 4, none⟩ = some (.int .i64 a0_4) ∧ w'.cell? ⟨gb214, 5, none⟩ = some (.bool a0_5) ∧ w'.cell? ⟨gb214, 6, none⟩ = some (.int .i64 a0_6)) (ds := []) #[false, false, false, false, false, false, false, false, false, false, false] (by kernel_rfl) rfl rfl ⟨(blk_cell BK214.out 0).trans rfl, (blk_cell BK214.out 1).trans rfl, (blk_cell BK214.out 2).trans rfl, (blk_cell BK214.out 3).trans rfl, (blk_cell BK214.out 4).trans rfl, (blk_cell BK214.out 5).trans rfl, (blk_cell BK214.out 6).trans rfl⟩ (fun hHeld => ?_); refine with_tabW impl_Cart_read.tab5 impl_Cart_read.bits5 (fun HT_ HW_ => ?_)
          generalize w20.drew = w21 at BK214 HB hHeld ⊢
          refine pure_ (i := 0) (N := some 20) (v := ?_) (a' := ?_) #[true, false, false, false, false, false, false, false, false, false, false] rfl rfl (any_of HT_.out (by kernel_rfl)) (fun _ _ _ h => h) (Or.inl ⟨by rfl, ?_⟩) ?_ ?_
          rotate_left
          · intro w'
            go_simp
            with_reducible rfl
          rotate_left
          · simp only [Act.put, List.setIfInBounds_toArray, List.set_cons_zero, List.set_cons_succ, i64_w, i32_w]
            rfl
          refine pure_ (i := 5) (N := some 25) (v := ?_) (a' := ?_) #[true, false, false, false, false, true, false, false, false, false, false] rfl rfl (any_of HT_.out (by kernel_rfl)) (fun _ _ _ h => h) (Or.inl ⟨by rfl, ?_⟩) ?_ ?_
          rotate_left
          · intro w'
            go_simp
            with_reducible rfl
          rotate_left
          · simp only [Act.put, List.setIfInBounds_toArray, List.set_cons_zero, List.set_cons_succ, i64_w, i32_w]
            rfl
          refine take_ (i := 1) (N := some 21) (v := ?_) (a' := ?_) #[true, true, false, false, false, true, false, false, false, false, false] rfl rfl (take_ofW HT_.out HW_.out (by kernel_rfl)) (fun _ _ _ h => h) (Or.inl ⟨by rfl, ?_⟩) hHeld ?_ ?_
          rotate_left
          · rintro w' ⟨s0, s1, s2, s3, s4, s5, s6⟩
            go_simp
            with_reducible rfl
          rotate_left
          · simp only [Act.put, List.setIfInBounds_toArray, List.set_cons_zero, List.set_cons_succ, i64_w, i32_w]
            rfl
          refine take_ (i := 2) (N := some 22) (v := ?_) (a' := ?_) #[true, true, true, false, false, true, false, false, false, false, false] rfl rfl (take_ofW HT_.out HW_.out (by kernel_rfl)) (fun _ _ _ h => h) (Or.inl ⟨by rfl, ?_⟩) hHeld ?_ ?_
          rotate_left
          · rintro w' ⟨s0, s1, s2, s3, s4, s5, s6⟩
            go_simp
            with_reducible rfl
          rotate_left
          · simp only [Act.put, List.setIfInBounds_toArray, List.set_cons_zero, List.set_cons_succ, i64_w, i32_w]
            rfl
          refine one_ (i := 3) (N := some 23) #[true, true, true, true, false, true, false, false, false, false, false] rfl rfl (one_of HT_.out (by kernel_rfl)) (by decide) (fun K hK => ?_)
          refine goes_ Try.func61 (by kernel_rfl) rfl #[.agg #[.string a0_0, .int .i64 a0_1, .int .i64 a0_2, .string a0_3, .int .i64 a0_4, .bool a0_5, .int .i64 a0_6]] (by rfl) rfl rfl (by (try simp only [List.map_toArray, List.map_cons, List.map_nil]); first | done | rfl | (simp only [List.length_drop, List.length_take]; rfl)) ?_
          with_reducible refine (impl_Cart_mapped.calls a0_0 a0_1 a0_2 a0_3 a0_4 a0_5 a0_6 t216 _ A13.out).mono ?_
          rintro e w22 ⟨rfl, hb⟩
          refine ⟨_, rfl, ?_⟩
          have n0_ := Aside0.mk (blk_below (g := gb214) (o := .cells #[.string a0_0, .int .i64 a0_1, .int .i64 a0_2, .string a0_3, .int .i64 a0_4, .bool a0_5, .int .i64 a0_6] 32 (0, 0)) (by (with_reducible repeat (first | refine blk_drewN ?_ _ | refine blk_drew ?_ | refine blk_alloc ?_ _)); exact BK214.out) hb)
          have n1_ := Aside0.mk (below_step (by repeat (first | (with_reducible first | exact HB.out | apply below_alloc | apply pw_below_drewN | apply below_drew1 | refine below_set ?_ GE214.out) | exact HB.out)) hb)
          clear BK214
          clear HB
          have BK214 := n0_
          have HB := n1_
          clear n0_ n1_
          (try clear hb)
          (try clear hb2)
          (try clear hk)
          (try clear hi)
          have p17 : 0 ≤ ((ji14) : Int) := of_decide_eq_true (by first | (with_reducible assumption) | assumption)
          have q17 : (ji14) < (a0_0.size : Int) := of_decide_eq_true (by first | (with_reducible assumption) | assumption)
          have hx17 := bt_at a0_0 (ji14)
          replace p17 := eq_true p17
          replace q17 := eq_true q17
          refine hK.out _ _ ⟨(blk_cell BK214.out 0).trans rfl, (blk_cell BK214.out 1).trans rfl, (blk_cell BK214.out 2).trans rfl, (blk_cell BK214.out 3).trans rfl, (blk_cell BK214.out 4).trans rfl, (blk_cell BK214.out 5).trans rfl, (blk_cell BK214.out 6).trans rfl⟩ (fun hHeld => ?_)
          clear hK K
          refine norm_ (a' := ?_) ?_ ?_
          rotate_left
          · show Act.put _ (some 23) _ = _
            simp only [Act.put, List.setIfInBounds_toArray, List.set_cons_zero, List.set_cons_succ, i64_w, i32_w]
            rfl
          refine pure_ (i := 4) (N := some 24) (v := ?_) (a' := ?_) #[true, true, true, true, true, true, false, false, false, false, false] rfl rfl (any_of HT_.out (by kernel_rfl)) (fun _ _ _ h => h) (Or.inl ⟨by rfl, ?_⟩) ?_ ?_
          rotate_left
          · intro w'
            go_simp
            with_reducible rfl
          rotate_left
          · simp only [Act.put, List.setIfInBounds_toArray, List.set_cons_zero, List.set_cons_succ, i64_w, i32_w]
            rfl
          refine pure_ (i := 6) (N := some 26) (v := ?_) (a' := ?_) #[true, true, true, true, true, true, true, false, false, false, false] rfl rfl (any_of HT_.out (by kernel_rfl)) (fun _ _ _ h => h) (Or.inl ⟨by rfl, ?_⟩) ?_ ?_
          rotate_left
          · intro w'
            go_simp
            with_reducible rfl
          rotate_left
          · simp only [Act.put, List.setIfInBounds_toArray, List.set_cons_zero, List.set_cons_succ, i64_w, i32_w]
            rfl
          refine pure_ (i := 7) (N := some 27) (v := ?_) (a' := ?_) #[true, true, true, true, true, true, true, true, false, false, false] rfl rfl (any_of HT_.out (by kernel_rfl)) (fun _ _ _ h => h) (Or.inl ⟨by rfl, ?_⟩) ?_ ?_
          rotate_left
          · intro w'
            go_simp
            with_reducible rfl
          rotate_left
          · simp only [Act.put, List.setIfInBounds_toArray, List.set_cons_zero, List.set_cons_succ, i64_w, i32_w]
            rfl
          refine take_ (i := 8) (N := some 28) (v := ?_) (a' := ?_) #[true, true, true, true, true, true, true, true, true, false, false] rfl rfl (take_ofW HT_.out HW_.out (by kernel_rfl)) (fun _ _ _ h => h) (Or.inl ⟨by rfl, ?_⟩) hHeld ?_ ?_
          rotate_left
          · rintro w' ⟨s0, s1, s2, s3, s4, s5, s6⟩
            go_simp
            with_reducible rfl
          rotate_left
          · simp only [Act.put, List.setIfInBounds_toArray, List.set_cons_zero, List.set_cons_succ, i64_w, i32_w]
            rfl
          refine pure_ (i := 9) (N := some 29) (v := ?_) (a' := ?_) #[true, true, true, true, true, true, true, true, true, true, false] rfl rfl (any_of HT_.out (by kernel_rfl)) (fun _ _ _ h => h) (Or.inl ⟨by rfl, ?_⟩) ?_ ?_
          rotate_left
          · intro w'
            go_simp
            with_reducible rfl
          rotate_left
          · simp only [Act.put, List.setIfInBounds_toArray, List.set_cons_zero, List.set_cons_succ, i64_w, i32_w]
            rfl
          refine pure_ (i := 10) (N := some 4) (v := ?_) (a' := ?_) #[true, true, true, true, true, true, true, true, true, true, true] rfl rfl (any_of HT_.out (by kernel_rfl)) (fun _ _ _ h => h) (Or.inl ⟨by rfl, ?_⟩) ?_ ?_
          rotate_left
          · intro w'
            go_simp
            with_reducible rfl
          rotate_left
          · simp only [Act.put, List.setIfInBounds_toArray, List.set_cons_zero, List.set_cons_succ, i64_w, i32_w]
            rfl
          refine done_ (done_of HT_.out (by kernel_rfl)) ?_
          try go_wp2
          go_ret
          exact ⟨by first | rfl | (simp [errW_none, errW_some] <;> rfl) | (simp only [← hji14]; first | rfl | (simp [errW_none, errW_some] <;> rfl)) | (simp [*, errW_none, errW_some] <;> rfl), by repeat (first | (with_reducible first | exact HB.out | apply below_alloc | apply pw_below_drewN | apply below_drew1 | refine below_set ?_ GE214.out) | exact HB.out)⟩
        · rw [if_neg c16] at H
          exact absurd H (by simp)
      · rw [if_neg c15] at H
        exact absurd H (by simp)
    · rw [if_neg c12] at H
      have c12b0 : decide (a1 < 512) = false := decide_eq_false c12
      clear c12
      by_cases c23 : t215 ≥ 0
      · rw [if_pos c23] at H
        have c23b0 : decide (0 ≤ t215) = true := decide_eq_true c23
        clear c23
        by_cases c24 : 0 ≤ t215
        · rw [if_pos c24] at H
          have c24b0 : decide (0 ≤ t215) = true := decide_eq_true c24
          clear c24
          by_cases c25 : t215 < (a0_3.size : Int)
          · rw [if_pos c25] at H
            have c25b0 : decide (t215 < (a0_3.size : Int)) = true := decide_eq_true c25
            clear c25
            obtain rfl := Option.some.inj H
            go_enter Try.func52, Try.ntmps52
            go_wp2_with (first | ((with_reducible refine gate_dst (N := 2) rfl ?_); refine box_event ?hg (N := 2) ?hd (cs := #[.string a0_0, .int .i64 a0_1, .int .i64 a0_2, .string a0_3, .int .i64 a0_4, .bool a0_5, .int .i64 a0_6]) (t := 32) ?hr ?_; (case hd => rfl); (case hg => rfl); (case hr => first | (go_simp; done) | (go_simp; rfl)); intro gb214 hg w27 hbox hb; have n0_ := Aside0.mk (below_step (by repeat (first | (with_reducible first | exact HB.out | apply below_alloc | apply pw_below_drewN | apply below_drew1) | exact HB.out)) hb); have n1_ := Aside0.mk (hbox); have n2_ := Aside0.mk ((by rw [hg]; exact (below_size (by repeat (first | (with_reducible first | exact HB.out | apply below_alloc | apply pw_below_drewN | apply below_drew1) | exact HB.out))) : w.heap.size ≤ gb214)); have n3_ := Aside0.mk ((by rw [hg]; exact (below_size (by repeat (first | (with_reducible first | exact HB.out | apply below_alloc | apply pw_below_drewN | apply below_drew1) | exact HB.out))) : w.heap.size ≤ gb214)); clear HB; have HB := n0_; have BK214 := n1_; have GW214 := n2_; have GE214 := n3_; clear n0_ n1_ n2_ n3_; clear hb hbox hg; have hZ28_ := cells_all BK214.out; simp only [allCells, Nat.zero_add, Nat.reduceAdd] at hZ28_; obtain ⟨hcz28_0, hfz28_0, hcz28_1, hfz28_1, hcz28_2, hfz28_2, hcz28_3, hfz28_3, hcz28_4, hfz28_4, hcz28_5, hfz28_5, hcz28_6, hfz28_6, _⟩ := hZ28_) | ((with_reducible refine gate_callee (f := 60) rfl ?_); refine goesL_ (some 8) rfl rfl Try.func60 (by kernel_rfl) rfl #[.agg #[.string a0_0, .int .i64 a0_1, .int .i64 a0_2, .string a0_3, .int .i64 a0_4, .bool a0_5, .int .i64 a0_6], .int .i64 a1] rfl (by (try simp only [List.map_toArray, List.map_cons, List.map_nil]); first | done | rfl | (simp only [List.length_drop, List.length_take]; rfl)) ?_; (with_reducible refine (impl_Cart_ramPlace.calls k a0_0 a0_1 a0_2 a0_3 a0_4 a0_5 a0_6 a1 t215 _ A3.out).mono ?_); rintro e w29 ⟨rfl, hb⟩; refine ⟨_, rfl, ?_⟩; have n0_ := Aside0.mk (blk_below (g := gb214) (o := .cells #[.string a0_0, .int .i64 a0_1, .int .i64 a0_2, .string a0_3, .int .i64 a0_4, .bool a0_5, .int .i64 a0_6] 32 (0, 0)) (by (with_reducible repeat (first | refine blk_drewN ?_ _ | refine blk_drew ?_ | refine blk_alloc ?_ _)); exact BK214.out) hb); have n1_ := Aside0.mk (below_step (by repeat (first | (with_reducible first | exact HB.out | apply below_alloc | apply pw_below_drewN | apply below_drew1 | refine below_set ?_ GE214.out) | exact HB.out)) hb); clear BK214; clear HB; have BK214 := n0_; have HB := n1_; clear n0_ n1_; (try clear hb); (try clear hb2); (try clear hk); (try clear hi); have hZ30_ := cells_all BK214.out; simp only [allCells, Nat.zero_add, Nat.reduceAdd] at hZ30_; obtain ⟨hcz30_0, hfz30_0, hcz30_1, hfz30_1, hcz30_2, hfz30_2, hcz30_3, hfz30_3, hcz30_4, hfz30_4, hcz30_5, hfz30_5, hcz30_6, hfz30_6, _⟩ := hZ30_; have p26 : 0 ≤ (t215 : Int) := of_decide_eq_true (by first | (with_reducible assumption) | assumption); have q26 : t215 < (a0_3.size : Int) := of_decide_eq_true (by first | (with_reducible assumption) | assumption); have hx26 := bt_at a0_3 t215; replace p26 := eq_true p26; replace q26 := eq_true q26))
            go_ret
            exact ⟨by first | rfl | (simp [errW_none, errW_some] <;> rfl) | (simp [*, errW_none, errW_some] <;> rfl), by repeat (first | (with_reducible first | exact HB.out | apply below_alloc | apply pw_below_drewN | apply below_drew1 | refine below_set ?_ GE214.out) | exact HB.out)⟩
          · rw [if_neg c25] at H
            exact absurd H (by simp)
        · rw [if_neg c24] at H
          exact absurd H (by simp)
      · rw [if_neg c23] at H
        have c23b0 : decide (0 ≤ t215) = false := decide_eq_false c23
        clear c23
        obtain rfl := Option.some.inj H
        go_enter Try.func52, Try.ntmps52
        go_wp2_with (first | ((with_reducible refine gate_dst (N := 2) rfl ?_); refine box_event ?hg (N := 2) ?hd (cs := #[.string a0_0, .int .i64 a0_1, .int .i64 a0_2, .string a0_3, .int .i64 a0_4, .bool a0_5, .int .i64 a0_6]) (t := 32) ?hr ?_; (case hd => rfl); (case hg => rfl); (case hr => first | (go_simp; done) | (go_simp; rfl)); intro gb214 hg w31 hbox hb; have n0_ := Aside0.mk (below_step (by repeat (first | (with_reducible first | exact HB.out | apply below_alloc | apply pw_below_drewN | apply below_drew1) | exact HB.out)) hb); have n1_ := Aside0.mk (hbox); have n2_ := Aside0.mk ((by rw [hg]; exact (below_size (by repeat (first | (with_reducible first | exact HB.out | apply below_alloc | apply pw_below_drewN | apply below_drew1) | exact HB.out))) : w.heap.size ≤ gb214)); have n3_ := Aside0.mk ((by rw [hg]; exact (below_size (by repeat (first | (with_reducible first | exact HB.out | apply below_alloc | apply pw_below_drewN | apply below_drew1) | exact HB.out))) : w.heap.size ≤ gb214)); clear HB; have HB := n0_; have BK214 := n1_; have GW214 := n2_; have GE214 := n3_; clear n0_ n1_ n2_ n3_; clear hb hbox hg; have hZ32_ := cells_all BK214.out; simp only [allCells, Nat.zero_add, Nat.reduceAdd] at hZ32_; obtain ⟨hcz32_0, hfz32_0, hcz32_1, hfz32_1, hcz32_2, hfz32_2, hcz32_3, hfz32_3, hcz32_4, hfz32_4, hcz32_5, hfz32_5, hcz32_6, hfz32_6, _⟩ := hZ32_) | ((with_reducible refine gate_callee (f := 60) rfl ?_); refine goesL_ (some 8) rfl rfl Try.func60 (by kernel_rfl) rfl #[.agg #[.string a0_0, .int .i64 a0_1, .int .i64 a0_2, .string a0_3, .int .i64 a0_4, .bool a0_5, .int .i64 a0_6], .int .i64 a1] rfl (by (try simp only [List.map_toArray, List.map_cons, List.map_nil]); first | done | rfl | (simp only [List.length_drop, List.length_take]; rfl)) ?_; (with_reducible refine (impl_Cart_ramPlace.calls k a0_0 a0_1 a0_2 a0_3 a0_4 a0_5 a0_6 a1 t215 _ A3.out).mono ?_); rintro e w33 ⟨rfl, hb⟩; refine ⟨_, rfl, ?_⟩; have n0_ := Aside0.mk (blk_below (g := gb214) (o := .cells #[.string a0_0, .int .i64 a0_1, .int .i64 a0_2, .string a0_3, .int .i64 a0_4, .bool a0_5, .int .i64 a0_6] 32 (0, 0)) (by (with_reducible repeat (first | refine blk_drewN ?_ _ | refine blk_drew ?_ | refine blk_alloc ?_ _)); exact BK214.out) hb); have n1_ := Aside0.mk (below_step (by repeat (first | (with_reducible first | exact HB.out | apply below_alloc | apply pw_below_drewN | apply below_drew1 | refine below_set ?_ GE214.out) | exact HB.out)) hb); clear BK214; clear HB; have BK214 := n0_; have HB := n1_; clear n0_ n1_; (try clear hb); (try clear hb2); (try clear hk); (try clear hi)))
        go_ret
        exact ⟨by first | rfl | (simp [errW_none, errW_some] <;> rfl) | (simp [*, errW_none, errW_some] <;> rfl), by repeat (first | (with_reducible first | exact HB.out | apply below_alloc | apply pw_below_drewN | apply below_drew1 | refine below_set ?_ GE214.out) | exact HB.out)⟩

/-! ### impl_BusRead: function 13 -/
def impl_BusRead.readF (k : Nat) (x0 x1 x2 x3 x4 x5 x6 x7 sp pc : Int) (ime hlt : Bool) (rom : ByteArray) (kind bank : Int) (ram : ByteArray) (rb : Int) (on : Bool) (mode : Int) (wk hi : ByteArray) (ad : Int) : Option Int := (impl_within.f (Go.bits .and .i64 ad 65535) 49152 49407).bind fun t => if t = true then (if 0 ≤ wrap64 ((Go.bits .and .i64 ad 65535) - 49152) then (if wrap64 ((Go.bits .and .i64 ad 65535) - 49152) < (wk.size : Int) then some (wrap64 (bt wk (wrap64 ((Go.bits .and .i64 ad 65535) - 49152)))) else none) else none) else ((impl_within.f (Go.bits .and .i64 ad 65535) 65408 65534).bind fun u => if u = true then (if 0 ≤ wrap64 ((Go.bits .and .i64 ad 65535) - 65408) then (if wrap64 ((Go.bits .and .i64 ad 65535) - 65408) < (hi.size : Int) then some (wrap64 (bt hi (wrap64 ((Go.bits .and .i64 ad 65535) - 65408)))) else none) else none) else impl_Cart_read.f k rom kind bank ram rb on mode (Go.bits .and .i64 ad 65535))
theorem impl_BusRead.readF_mono : ∀ x0 x1 x2 x3 x4 x5 x6 x7 sp pc ime hlt rom kind bank ram rb on mode wk hi ad k, LeO (impl_BusRead.readF k x0 x1 x2 x3 x4 x5 x6 x7 sp pc ime hlt rom kind bank ram rb on mode wk hi ad) (impl_BusRead.readF (k + 1) x0 x1 x2 x3 x4 x5 x6 x7 sp pc ime hlt rom kind bank ram rb on mode wk hi ad) := by
  intro x0 x1 x2 x3 x4 x5 x6 x7 sp pc ime hlt rom kind bank ram rb on mode wk hi ad k
  unfold impl_BusRead.readF
  exact LeO.bind (LeO.refl _) (fun _ => LeO.ite (LeO.refl _) (LeO.bind (LeO.refl _) (fun _ => LeO.ite (LeO.refl _) (impl_Cart_read.mono _ _ _ _ _ _ _ _ _))))
open Go.Proofs.Ytmgbdbamfljjnaa.Aid in
set_option maxHeartbeats 4000000 in
set_option maxRecDepth 100000 in
theorem impl_BusRead.read (k : Nat) (g : Nat) (x0 x1 x2 x3 x4 x5 x6 x7 sp pc : Int) (ime hlt : Bool) (rom : ByteArray) (kind bank : Int) (ram : ByteArray) (rb : Int) (on : Bool) (mode : Int) (wk hi : ByteArray) (A0 : Option Addr) (c0 : Nat) (out : List Int) (cyc : Int) (ad r : Int) (w : World) (hb : Aside0 (w.heap[g]? = some (.cells #[.int .i64 x0, .int .i64 x1, .int .i64 x2, .int .i64 x3, .int .i64 x4, .int .i64 x5, .int .i64 x6, .int .i64 x7, .int .i64 sp, .int .i64 pc, .bool ime, .bool hlt, .string rom, .int .i64 kind, .int .i64 bank, .string ram, .int .i64 rb, .bool on, .int .i64 mode, .string wk, .string hi, .slice A0 out.length c0, .int .i64 cyc] 34 (0, 0)))) (h : impl_BusRead.readF k x0 x1 x2 x3 x4 x5 x6 x7 sp pc ime hlt rom kind bank ram rb on mode wk hi ad = some r) :
    Calls Try.prog 39 #[.pointer (some ⟨g, 0, none⟩), .int .i64 ad] w fun e w' => e = .returned (.int .i64 r) ∧ Below w.heap.size w w' := by
  have hum := Try.underlying34
  have huc := Try.underlying32
  have HB := Aside0.mk (Below.refl w.heap.size w)
  unfold impl_BusRead.readF at h
  obtain ⟨t, A10, h⟩ := Option.bind_eq_some_iff.mp h
  have A1 := Aside0.mk A10
  clear A10
  by_cases c : t = true
  · subst c
    rw [if_pos rfl] at h
    obtain ⟨j, hj⟩ : ∃ j_ : Int, wrap64 ((Go.bits .and .i64 ad 65535) - 49152) = j_ := ⟨_, rfl⟩
    rw [hj] at h
    have hjw : IntKind.i64.wrap ((Go.bits .and .i64 ad 65535) - 49152) = j := (i64_w _).trans hj
    by_cases c1 : 0 ≤ j
    · rw [if_pos c1] at h
      by_cases c2 : j < (wk.size : Int)
      · rw [if_pos c2] at h
        obtain rfl := Option.some.inj h
        have c1b : decide (0 ≤ j) = true := decide_eq_true c1
        have c2b : decide (j < (wk.size : Int)) = true := decide_eq_true c2
        clear h
        have hx := bt_at wk j
        replace c1 := eq_true c1
        replace c2 := eq_true c2
        have q := (blk_cell hb.out 19).trans (show _ = some (.string wk) from rfl)
        have qf := blk_frozen hb.out 19
        go_enter Try.func39, Try.ntmps39
        go_wp2_with (first | ((with_reducible refine gate_callee (f := 34) rfl ?_); refine goesL_ (some 9) rfl rfl Try.func34 (by kernel_rfl) rfl #[.int .i64 (Go.bits .and .i64 ad 65535), .int .i64 49152, .int .i64 49407] rfl (by (try simp only [List.map_toArray, List.map_cons, List.map_nil]); first | done | rfl) ?_; (with_reducible refine (impl_within.calls (Go.bits .and .i64 ad 65535) 49152 49407 true _ A1.out).mono ?_); rintro e_ w_ ⟨rfl, ⟨nd, rfl⟩⟩; refine ⟨_, rfl, ?_⟩))
        go_ret
        exact ⟨by first | rfl | (simp only [← hj]; rfl) | (simp [*]; done), by repeat (first | exact HB.out | apply below_alloc | apply pw_below_drewN | apply below_drew1)⟩
      · rw [if_neg c2] at h
        cases h
    · rw [if_neg c1] at h
      cases h
  · obtain rfl : t = false := by simpa using c
    rw [if_neg (by decide)] at h
    clear c
    obtain ⟨u, A20, h⟩ := Option.bind_eq_some_iff.mp h
    have A2 := Aside0.mk A20
    clear A20
    by_cases c : u = true
    · subst c
      rw [if_pos rfl] at h
      obtain ⟨j, hj⟩ : ∃ j_ : Int, wrap64 ((Go.bits .and .i64 ad 65535) - 65408) = j_ := ⟨_, rfl⟩
      rw [hj] at h
      have hjw : IntKind.i64.wrap ((Go.bits .and .i64 ad 65535) - 65408) = j := (i64_w _).trans hj
      by_cases c1 : 0 ≤ j
      · rw [if_pos c1] at h
        by_cases c2 : j < (hi.size : Int)
        · rw [if_pos c2] at h
          obtain rfl := Option.some.inj h
          have c1b : decide (0 ≤ j) = true := decide_eq_true c1
          have c2b : decide (j < (hi.size : Int)) = true := decide_eq_true c2
          clear h
          have hx := bt_at hi j
          replace c1 := eq_true c1
          replace c2 := eq_true c2
          have q := (blk_cell hb.out 20).trans (show _ = some (.string hi) from rfl)
          have qf := blk_frozen hb.out 20
          go_enter Try.func39, Try.ntmps39
          go_wp2_with (first | ((with_reducible refine gate_callee (f := 34) rfl ?_); refine goesL_ (some 9) rfl rfl Try.func34 (by kernel_rfl) rfl #[.int .i64 (Go.bits .and .i64 ad 65535), .int .i64 49152, .int .i64 49407] rfl (by (try simp only [List.map_toArray, List.map_cons, List.map_nil]); first | done | rfl) ?_; (with_reducible refine (impl_within.calls (Go.bits .and .i64 ad 65535) 49152 49407 false _ A1.out).mono ?_); rintro e_ w_ ⟨rfl, ⟨nd, rfl⟩⟩; refine ⟨_, rfl, ?_⟩) | ((with_reducible refine gate_callee (f := 34) rfl ?_); refine goesL_ (some 20) rfl rfl Try.func34 (by kernel_rfl) rfl #[.int .i64 (Go.bits .and .i64 ad 65535), .int .i64 65408, .int .i64 65534] rfl (by (try simp only [List.map_toArray, List.map_cons, List.map_nil]); first | done | rfl) ?_; (with_reducible refine (impl_within.calls (Go.bits .and .i64 ad 65535) 65408 65534 true _ A2.out).mono ?_); rintro e_ w_ ⟨rfl, ⟨nd, rfl⟩⟩; refine ⟨_, rfl, ?_⟩))
          go_ret
          exact ⟨by first | rfl | (simp only [← hj]; rfl) | (simp [*]; done), by repeat (first | exact HB.out | apply below_alloc | apply pw_below_drewN | apply below_drew1)⟩
        · rw [if_neg c2] at h
          cases h
      · rw [if_neg c1] at h
        cases h
    · obtain rfl : u = false := by simpa using c
      rw [if_neg (by decide)] at h
      clear c
      have H := Aside0.mk h
      clear h
      go_enter Try.func39, Try.ntmps39
      go_wp2_with (first | ((with_reducible refine gate_callee (f := 34) rfl ?_); refine goesL_ (some 9) rfl rfl Try.func34 (by kernel_rfl) rfl #[.int .i64 (Go.bits .and .i64 ad 65535), .int .i64 49152, .int .i64 49407] rfl (by (try simp only [List.map_toArray, List.map_cons, List.map_nil]); first | done | rfl) ?_; (with_reducible refine (impl_within.calls (Go.bits .and .i64 ad 65535) 49152 49407 false _ A1.out).mono ?_); rintro e_ w_ ⟨rfl, ⟨nd, rfl⟩⟩; refine ⟨_, rfl, ?_⟩) | ((with_reducible refine gate_callee (f := 34) rfl ?_); refine goesL_ (some 20) rfl rfl Try.func34 (by kernel_rfl) rfl #[.int .i64 (Go.bits .and .i64 ad 65535), .int .i64 65408, .int .i64 65534] rfl (by (try simp only [List.map_toArray, List.map_cons, List.map_nil]); first | done | rfl) ?_; (with_reducible refine (impl_within.calls (Go.bits .and .i64 ad 65535) 65408 65534 false _ A2.out).mono ?_); rintro e_ w_ ⟨rfl, ⟨nd, rfl⟩⟩; refine ⟨_, rfl, ?_⟩) | ((with_reducible refine gate_dst (N := 32) rfl ?_); refine load_blk ?hg (ty := 32) (p := 31) ?ho (b := g) (off := 12) (T := 34) (arr := #[.int .i64 x0, .int .i64 x1, .int .i64 x2, .int .i64 x3, .int .i64 x4, .int .i64 x5, .int .i64 x6, .int .i64 x7, .int .i64 sp, .int .i64 pc, .bool ime, .bool hlt, .string rom, .int .i64 kind, .int .i64 bank, .string ram, .int .i64 rb, .bool on, .int .i64 mode, .string wk, .string hi, .slice A0 out.length c0, .int .i64 cyc]) (fr := (0, 0)) ?hb [.string rom, .int .i64 kind, .int .i64 bank, .string ram, .int .i64 rb, .bool on, .int .i64 mode] ?hx ?hc huc rfl ?hi ?_; (case hg => rfl); (case ho => rfl); (case hb => (with_reducible repeat (first | refine blk_drewN ?_ _ | refine blk_drew ?_ | refine blk_alloc ?_ _)); exact hb.out); (case hx => rfl); (case hc => rfl); (case hi => kernel_rfl); simp only [Act.put, List.setIfInBounds_toArray, List.set_cons_zero, List.set_cons_succ, Option.elim]) | ((with_reducible refine gate_callee (f := 52) rfl ?_); refine goesL_ (some 34) rfl rfl Try.func52 (by kernel_rfl) rfl #[.agg #[.string rom, .int .i64 kind, .int .i64 bank, .string ram, .int .i64 rb, .bool on, .int .i64 mode], .int .i64 (Go.bits .and .i64 ad 65535)] rfl (by (try simp only [List.map_toArray, List.map_cons, List.map_nil]); first | done | rfl) ?_; (with_reducible refine (impl_Cart_read.calls k rom kind bank ram rb on mode (Go.bits .and .i64 ad 65535) r _ H.out).mono ?_); rintro e_ w_ ⟨rfl, hb_⟩; have HN := Aside0.mk (below_step (by repeat (first | exact HB.out | apply below_alloc | apply pw_below_drewN | apply below_drew1)) hb_); clear HB; have HB := HN; clear HN; refine ⟨_, rfl, ?_⟩))
      go_ret
      exact ⟨rfl, by repeat (first | exact HB.out | apply below_alloc | apply pw_below_drewN | apply below_drew1)⟩
def impl_BusRead.f (k : Nat) (x0 x1 x2 x3 x4 x5 x6 x7 sp pc : Int) (ime hlt : Bool) (rom : ByteArray) (kind bank : Int) (ram : ByteArray) (rb : Int) (on : Bool) (mode : Int) (wk hi : ByteArray) (out : List Int) (cyc : Int) (ad : Int) : Option Int := (impl_MachineOk.f k x0 x1 x2 x3 x4 x5 x6 x7 sp pc ime hlt rom kind bank ram rb on mode wk hi out cyc).bind fun t => if t = true then ((impl_isWord.f ad).bind fun u => if u = true then impl_BusRead.readF k x0 x1 x2 x3 x4 x5 x6 x7 sp pc ime hlt rom kind bank ram rb on mode wk hi ad else some (-1)) else some (-1)
theorem impl_BusRead.mono : ∀ x0 x1 x2 x3 x4 x5 x6 x7 sp pc ime hlt rom kind bank ram rb on mode wk hi out cyc ad k, LeO (impl_BusRead.f k x0 x1 x2 x3 x4 x5 x6 x7 sp pc ime hlt rom kind bank ram rb on mode wk hi out cyc ad) (impl_BusRead.f (k + 1) x0 x1 x2 x3 x4 x5 x6 x7 sp pc ime hlt rom kind bank ram rb on mode wk hi out cyc ad) := by
  intro x0 x1 x2 x3 x4 x5 x6 x7 sp pc ime hlt rom kind bank ram rb on mode wk hi out cyc ad k
  unfold impl_BusRead.f
  exact LeO.bind (impl_MachineOk.mono _ _ _ _ _ _ _ _ _ _ _ _ _ _ _ _ _ _ _ _ _ _ _  _) (fun _ => LeO.ite (LeO.bind (LeO.refl _) (fun _ => LeO.ite (impl_BusRead.readF_mono x0 x1 x2 x3 x4 x5 x6 x7 sp pc ime hlt rom kind bank ram rb on mode wk hi ad k) (LeO.refl _))) (LeO.refl _))
open Go.Proofs.Ytmgbdbamfljjnaa.Aid in
set_option maxHeartbeats 4000000 in
set_option maxRecDepth 100000 in
theorem impl_BusRead.calls (k : Nat) (x0 x1 x2 x3 x4 x5 x6 x7 sp pc : Int) (ime hlt : Bool) (rom : ByteArray) (kind bank : Int) (ram : ByteArray) (rb : Int) (on : Bool) (mode : Int) (wk hi : ByteArray) (A0 : Option Addr) (c0 : Nat) (out : List Int) (cyc : Int) (ad : Int) (r : Int) (w : World) (hr : Kd.C (Kd.int .i64) w A0 out.length out) (hc : out.length ≤ c0) (h : impl_BusRead.f k x0 x1 x2 x3 x4 x5 x6 x7 sp pc ime hlt rom kind bank ram rb on mode wk hi out cyc ad = some r) :
    Calls Try.prog 13 #[.agg #[.int .i64 x0, .int .i64 x1, .int .i64 x2, .int .i64 x3, .int .i64 x4, .int .i64 x5, .int .i64 x6, .int .i64 x7, .int .i64 sp, .int .i64 pc, .bool ime, .bool hlt, .string rom, .int .i64 kind, .int .i64 bank, .string ram, .int .i64 rb, .bool on, .int .i64 mode, .string wk, .string hi, .slice A0 out.length c0, .int .i64 cyc], .int .i64 ad] w fun e w' => e = .returned (.int .i64 r) ∧ Below w.heap.size w w' := by
  have hum := Try.underlying34
  have HR := Aside0.mk hr
  have HC := Aside0.mk hc
  clear hr hc
  have HB := Aside0.mk (Below.refl w.heap.size w)
  unfold impl_BusRead.f at h
  obtain ⟨t, A10, h⟩ := Option.bind_eq_some_iff.mp h
  have A1 := Aside0.mk A10
  clear A10
  by_cases c : t = true
  · subst c
    rw [if_pos rfl] at h
    obtain ⟨u, A20, h⟩ := Option.bind_eq_some_iff.mp h
    have A2 := Aside0.mk A20
    clear A20
    by_cases c : u = true
    · subst c
      rw [if_pos rfl] at h
      have H := Aside0.mk h
      clear h
      go_enter Try.func13, Try.ntmps13
      go_wp2_with (first | ((with_reducible refine gate_dst (N := 2) rfl ?_); refine box_event ?hg (N := 2) ?hd (cs := #[.int .i64 x0, .int .i64 x1, .int .i64 x2, .int .i64 x3, .int .i64 x4, .int .i64 x5, .int .i64 x6, .int .i64 x7, .int .i64 sp, .int .i64 pc, .bool ime, .bool hlt, .string rom, .int .i64 kind, .int .i64 bank, .string ram, .int .i64 rb, .bool on, .int .i64 mode, .string wk, .string hi, .slice A0 out.length c0, .int .i64 cyc]) (t := 34) ?hr ?_; (case hd => rfl); (case hg => rfl); (case hr => first | (go_simp; done) | (go_simp; rfl)); intro g hg w1_ hbox hb_; have HN := Aside0.mk (below_step (by repeat (first | exact HB.out | apply below_alloc | apply pw_below_drewN | apply below_drew1)) hb_); clear HB; have HB := HN; clear HN; have BK := Aside0.mk hbox; clear hb_ hbox hg) | ((with_reducible refine gate_dst (N := 5) rfl ?_); refine load_blk ?hg (ty := 34) (p := 2) ?ho (b := g) (off := 0) (T := 34) (arr := #[.int .i64 x0, .int .i64 x1, .int .i64 x2, .int .i64 x3, .int .i64 x4, .int .i64 x5, .int .i64 x6, .int .i64 x7, .int .i64 sp, .int .i64 pc, .bool ime, .bool hlt, .string rom, .int .i64 kind, .int .i64 bank, .string ram, .int .i64 rb, .bool on, .int .i64 mode, .string wk, .string hi, .slice A0 out.length c0, .int .i64 cyc]) (fr := (0, 0)) ?hb [.int .i64 x0, .int .i64 x1, .int .i64 x2, .int .i64 x3, .int .i64 x4, .int .i64 x5, .int .i64 x6, .int .i64 x7, .int .i64 sp, .int .i64 pc, .bool ime, .bool hlt, .string rom, .int .i64 kind, .int .i64 bank, .string ram, .int .i64 rb, .bool on, .int .i64 mode, .string wk, .string hi, .slice A0 out.length c0, .int .i64 cyc] ?hx ?hc hum rfl ?hi ?_; (case hg => rfl); (case ho => rfl); (case hb => (with_reducible repeat (first | refine blk_drewN ?_ _ | refine blk_drew ?_ | refine blk_alloc ?_ _)); exact BK.out); (case hx => rfl); (case hc => rfl); (case hi => kernel_rfl); simp only [Act.put, List.setIfInBounds_toArray, List.set_cons_zero, List.set_cons_succ, Option.elim]) | ((with_reducible refine gate_callee (f := 10) rfl ?_); refine goesL_ (some 6) rfl rfl Try.func10 (by kernel_rfl) rfl #[.agg #[.int .i64 x0, .int .i64 x1, .int .i64 x2, .int .i64 x3, .int .i64 x4, .int .i64 x5, .int .i64 x6, .int .i64 x7, .int .i64 sp, .int .i64 pc, .bool ime, .bool hlt, .string rom, .int .i64 kind, .int .i64 bank, .string ram, .int .i64 rb, .bool on, .int .i64 mode, .string wk, .string hi, .slice A0 out.length c0, .int .i64 cyc]] rfl (by (try simp only [List.map_toArray, List.map_cons, List.map_nil]); first | done | rfl) ?_; (with_reducible refine (impl_MachineOk.calls k x0 x1 x2 x3 x4 x5 x6 x7 sp pc ime hlt rom kind bank ram rb on mode wk hi A0 c0 out cyc true _ (Kd.C_below HR.out (by repeat (first | exact HB.out | apply below_alloc | apply pw_below_drewN | apply below_drew1))) HC.out A1.out).mono ?_); rintro e_ w_ ⟨rfl, hb_⟩; have BN := Aside0.mk (blk_below (by (with_reducible repeat (first | refine blk_drewN ?_ _ | refine blk_drew ?_ | refine blk_alloc ?_ _)); exact BK.out) hb_); clear BK; have BK := BN; clear BN; have HN := Aside0.mk (below_step (by repeat (first | exact HB.out | apply below_alloc | apply pw_below_drewN | apply below_drew1)) hb_); clear HB; have HB := HN; clear HN; clear hb_; refine ⟨_, rfl, ?_⟩) | (go_at_call 32; (with_reducible refine (impl_isWord.calls ad true _ A2.out).mono ?_); rintro e_ w_ ⟨rfl, ⟨nd, rfl⟩⟩) | ((with_reducible refine gate_callee (f := 39) rfl ?_); refine goesL_ (some 14) rfl rfl Try.func39 (by kernel_rfl) rfl #[.pointer (some ⟨g, 0, none⟩), .int .i64 ad] rfl (by (try simp only [List.map_toArray, List.map_cons, List.map_nil]); first | done | rfl) ?_; (with_reducible refine (impl_BusRead.read k g x0 x1 x2 x3 x4 x5 x6 x7 sp pc ime hlt rom kind bank ram rb on mode wk hi A0 c0 out cyc ad r _ ⟨by (with_reducible repeat (first | refine blk_drewN ?_ _ | refine blk_drew ?_ | refine blk_alloc ?_ _)); exact BK.out⟩ H.out).mono ?_); rintro e_ w_ ⟨rfl, hb_⟩; have HN := Aside0.mk (below_step (by repeat (first | exact HB.out | apply below_alloc | apply pw_below_drewN | apply below_drew1)) hb_); clear HB; have HB := HN; clear HN; refine ⟨_, rfl, ?_⟩))
      go_ret
      exact ⟨rfl, by repeat (first | exact HB.out | apply below_alloc | apply pw_below_drewN | apply below_drew1)⟩
    · obtain rfl : u = false := by simpa using c
      rw [if_neg (by decide)] at h
      clear c
      obtain rfl := Option.some.inj h
      clear h
      go_enter Try.func13, Try.ntmps13
      go_wp2_with (first | ((with_reducible refine gate_dst (N := 2) rfl ?_); refine box_event ?hg (N := 2) ?hd (cs := #[.int .i64 x0, .int .i64 x1, .int .i64 x2, .int .i64 x3, .int .i64 x4, .int .i64 x5, .int .i64 x6, .int .i64 x7, .int .i64 sp, .int .i64 pc, .bool ime, .bool hlt, .string rom, .int .i64 kind, .int .i64 bank, .string ram, .int .i64 rb, .bool on, .int .i64 mode, .string wk, .string hi, .slice A0 out.length c0, .int .i64 cyc]) (t := 34) ?hr ?_; (case hd => rfl); (case hg => rfl); (case hr => first | (go_simp; done) | (go_simp; rfl)); intro g hg w1_ hbox hb_; have HN := Aside0.mk (below_step (by repeat (first | exact HB.out | apply below_alloc | apply pw_below_drewN | apply below_drew1)) hb_); clear HB; have HB := HN; clear HN; have BK := Aside0.mk hbox; clear hb_ hbox hg) | ((with_reducible refine gate_dst (N := 5) rfl ?_); refine load_blk ?hg (ty := 34) (p := 2) ?ho (b := g) (off := 0) (T := 34) (arr := #[.int .i64 x0, .int .i64 x1, .int .i64 x2, .int .i64 x3, .int .i64 x4, .int .i64 x5, .int .i64 x6, .int .i64 x7, .int .i64 sp, .int .i64 pc, .bool ime, .bool hlt, .string rom, .int .i64 kind, .int .i64 bank, .string ram, .int .i64 rb, .bool on, .int .i64 mode, .string wk, .string hi, .slice A0 out.length c0, .int .i64 cyc]) (fr := (0, 0)) ?hb [.int .i64 x0, .int .i64 x1, .int .i64 x2, .int .i64 x3, .int .i64 x4, .int .i64 x5, .int .i64 x6, .int .i64 x7, .int .i64 sp, .int .i64 pc, .bool ime, .bool hlt, .string rom, .int .i64 kind, .int .i64 bank, .string ram, .int .i64 rb, .bool on, .int .i64 mode, .string wk, .string hi, .slice A0 out.length c0, .int .i64 cyc] ?hx ?hc hum rfl ?hi ?_; (case hg => rfl); (case ho => rfl); (case hb => (with_reducible repeat (first | refine blk_drewN ?_ _ | refine blk_drew ?_ | refine blk_alloc ?_ _)); exact BK.out); (case hx => rfl); (case hc => rfl); (case hi => kernel_rfl); simp only [Act.put, List.setIfInBounds_toArray, List.set_cons_zero, List.set_cons_succ, Option.elim]) | ((with_reducible refine gate_callee (f := 10) rfl ?_); refine goesL_ (some 6) rfl rfl Try.func10 (by kernel_rfl) rfl #[.agg #[.int .i64 x0, .int .i64 x1, .int .i64 x2, .int .i64 x3, .int .i64 x4, .int .i64 x5, .int .i64 x6, .int .i64 x7, .int .i64 sp, .int .i64 pc, .bool ime, .bool hlt, .string rom, .int .i64 kind, .int .i64 bank, .string ram, .int .i64 rb, .bool on, .int .i64 mode, .string wk, .string hi, .slice A0 out.length c0, .int .i64 cyc]] rfl (by (try simp only [List.map_toArray, List.map_cons, List.map_nil]); first | done | rfl) ?_; (with_reducible refine (impl_MachineOk.calls k x0 x1 x2 x3 x4 x5 x6 x7 sp pc ime hlt rom kind bank ram rb on mode wk hi A0 c0 out cyc true _ (Kd.C_below HR.out (by repeat (first | exact HB.out | apply below_alloc | apply pw_below_drewN | apply below_drew1))) HC.out A1.out).mono ?_); rintro e_ w_ ⟨rfl, hb_⟩; have BN := Aside0.mk (blk_below (by (with_reducible repeat (first | refine blk_drewN ?_ _ | refine blk_drew ?_ | refine blk_alloc ?_ _)); exact BK.out) hb_); clear BK; have BK := BN; clear BN; have HN := Aside0.mk (below_step (by repeat (first | exact HB.out | apply below_alloc | apply pw_below_drewN | apply below_drew1)) hb_); clear HB; have HB := HN; clear HN; clear hb_; refine ⟨_, rfl, ?_⟩) | (go_at_call 32; (with_reducible refine (impl_isWord.calls ad false _ A2.out).mono ?_); rintro e_ w_ ⟨rfl, ⟨nd, rfl⟩⟩))
      go_ret
      exact ⟨rfl, by repeat (first | exact HB.out | apply below_alloc | apply pw_below_drewN | apply below_drew1)⟩
  · obtain rfl : t = false := by simpa using c
    rw [if_neg (by decide)] at h
    clear c
    obtain rfl := Option.some.inj h
    clear h
    go_enter Try.func13, Try.ntmps13
    go_wp2_with (first | ((with_reducible refine gate_dst (N := 2) rfl ?_); refine box_event ?hg (N := 2) ?hd (cs := #[.int .i64 x0, .int .i64 x1, .int .i64 x2, .int .i64 x3, .int .i64 x4, .int .i64 x5, .int .i64 x6, .int .i64 x7, .int .i64 sp, .int .i64 pc, .bool ime, .bool hlt, .string rom, .int .i64 kind, .int .i64 bank, .string ram, .int .i64 rb, .bool on, .int .i64 mode, .string wk, .string hi, .slice A0 out.length c0, .int .i64 cyc]) (t := 34) ?hr ?_; (case hd => rfl); (case hg => rfl); (case hr => first | (go_simp; done) | (go_simp; rfl)); intro g hg w1_ hbox hb_; have HN := Aside0.mk (below_step (by repeat (first | exact HB.out | apply below_alloc | apply pw_below_drewN | apply below_drew1)) hb_); clear HB; have HB := HN; clear HN; have BK := Aside0.mk hbox; clear hb_ hbox hg) | ((with_reducible refine gate_dst (N := 5) rfl ?_); refine load_blk ?hg (ty := 34) (p := 2) ?ho (b := g) (off := 0) (T := 34) (arr := #[.int .i64 x0, .int .i64 x1, .int .i64 x2, .int .i64 x3, .int .i64 x4, .int .i64 x5, .int .i64 x6, .int .i64 x7, .int .i64 sp, .int .i64 pc, .bool ime, .bool hlt, .string rom, .int .i64 kind, .int .i64 bank, .string ram, .int .i64 rb, .bool on, .int .i64 mode, .string wk, .string hi, .slice A0 out.length c0, .int .i64 cyc]) (fr := (0, 0)) ?hb [.int .i64 x0, .int .i64 x1, .int .i64 x2, .int .i64 x3, .int .i64 x4, .int .i64 x5, .int .i64 x6, .int .i64 x7, .int .i64 sp, .int .i64 pc, .bool ime, .bool hlt, .string rom, .int .i64 kind, .int .i64 bank, .string ram, .int .i64 rb, .bool on, .int .i64 mode, .string wk, .string hi, .slice A0 out.length c0, .int .i64 cyc] ?hx ?hc hum rfl ?hi ?_; (case hg => rfl); (case ho => rfl); (case hb => (with_reducible repeat (first | refine blk_drewN ?_ _ | refine blk_drew ?_ | refine blk_alloc ?_ _)); exact BK.out); (case hx => rfl); (case hc => rfl); (case hi => kernel_rfl); simp only [Act.put, List.setIfInBounds_toArray, List.set_cons_zero, List.set_cons_succ, Option.elim]) | ((with_reducible refine gate_callee (f := 10) rfl ?_); refine goesL_ (some 6) rfl rfl Try.func10 (by kernel_rfl) rfl #[.agg #[.int .i64 x0, .int .i64 x1, .int .i64 x2, .int .i64 x3, .int .i64 x4, .int .i64 x5, .int .i64 x6, .int .i64 x7, .int .i64 sp, .int .i64 pc, .bool ime, .bool hlt, .string rom, .int .i64 kind, .int .i64 bank, .string ram, .int .i64 rb, .bool on, .int .i64 mode, .string wk, .string hi, .slice A0 out.length c0, .int .i64 cyc]] rfl (by (try simp only [List.map_toArray, List.map_cons, List.map_nil]); first | done | rfl) ?_; (with_reducible refine (impl_MachineOk.calls k x0 x1 x2 x3 x4 x5 x6 x7 sp pc ime hlt rom kind bank ram rb on mode wk hi A0 c0 out cyc false _ (Kd.C_below HR.out (by repeat (first | exact HB.out | apply below_alloc | apply pw_below_drewN | apply below_drew1))) HC.out A1.out).mono ?_); rintro e_ w_ ⟨rfl, hb_⟩; have BN := Aside0.mk (blk_below (by (with_reducible repeat (first | refine blk_drewN ?_ _ | refine blk_drew ?_ | refine blk_alloc ?_ _)); exact BK.out) hb_); clear BK; have BK := BN; clear BN; have HN := Aside0.mk (below_step (by repeat (first | exact HB.out | apply below_alloc | apply pw_below_drewN | apply below_drew1)) hb_); clear HB; have HB := HN; clear HN; clear hb_; refine ⟨_, rfl, ?_⟩))
    go_ret
    exact ⟨rfl, by repeat (first | exact HB.out | apply below_alloc | apply pw_below_drewN | apply below_drew1)⟩

end Go.Proofs.Ytmgbdbamfljjnaa.PFnExactBusRead
