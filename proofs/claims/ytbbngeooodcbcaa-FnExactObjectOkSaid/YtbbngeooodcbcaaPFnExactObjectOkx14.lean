/- What the Go functions that the law FnExactObjectOk reaches compute, function by function, and that Go comes to just that. -/
import Derived.Test.YtbbngeooodcbcaaPFnExactObjectOkx0
import Derived.Test.YtbbngeooodcbcaaAidZ
import Derived.Test.YtbbngeooodcbcaaPFnExactObjectOkx13
namespace Go.Proofs.Ytbbngeooodcbcaa.PFnExactObjectOk
open Go.RowKit Go.Proofs.Ytbbngeooodcbcaa.Z Go.Proofs.YtbbngeooodcbcaaW.PrintWords Go.Proofs.YtbbngeooodcbcaaW.PrintLast Go.Proofs.YtbbngeooodcbcaaW.PrintMore
attribute [local go_sem] max2_int min2_int max_two min_two max_three min_three max_four min_four   -- for this text's walks alone
set_option linter.unusedVariables false
set_option linter.unusedSimpArgs false

/-! ### laws_eqSectionS: function 26 -/
def laws_eqSectionS.l0 : Nat → List (S43) → List (S43) → Int → Option (Bool)
  | 0, _, _, _ => none
  | k + 1, x0, x1, x5 => if x5 < (x0.length : Int) then (if 0 ≤ x5 then (if x5 < (x1.length : Int) then ((laws_eqSection.f k ((rd_T43 x0 x5).f0) ((rd_T43 x0 x5).f1) ((rd_T43 x0 x5).f2) ((rd_T43 x0 x5).f3) ((rd_T43 x0 x5).f4) ((rd_T43 x0 x5).f5) ((rd_T43 x1 x5).f0) ((rd_T43 x1 x5).f1) ((rd_T43 x1 x5).f2) ((rd_T43 x1 x5).f3) ((rd_T43 x1 x5).f4) ((rd_T43 x1 x5).f5)).bind fun t307 => (if t307 = true then (laws_eqSectionS.l0 k x0 x1 (wrap64 (x5 + 1))) else (some false))) else (none)) else (none)) else (some true)
def laws_eqSectionS.f (k : Nat) (l0 : List (S43)) (l1 : List (S43)) : Option (Bool) := if (l0.length : Int) = (l1.length : Int) then (laws_eqSectionS.l0 k l0 l1 0) else (some false)
theorem laws_eqSectionS.mono_l : ∀ k, (∀ y0 y1 y2, LeO (laws_eqSectionS.l0 k y0 y1 y2) (laws_eqSectionS.l0 (k + 1) y0 y1 y2))
  | 0 => fun _ _ _ r h => by simp [laws_eqSectionS.l0] at h
  | k + 1 => by
    have ih0 := laws_eqSectionS.mono_l k
    · intro y0 y1 y2
      unfold laws_eqSectionS.l0
      repeat' first
      | (with_reducible exact ih0 _ _ _)
      | (with_reducible exact laws_eqSection.mono _ _ _ _ _ _ _ _ _ _ _ _ _)
      | (with_reducible exact LeO.refl _)
      | (with_reducible exact LeO.none _)
      | (with_reducible refine LeO.ite ?_ ?_)
      | (with_reducible refine LeO.bind ?_ (fun _ => ?_))
      | exact ih0 _ _ _
      | exact laws_eqSection.mono _ _ _ _ _ _ _ _ _ _ _ _ _
      | exact LeO.none _
      | refine LeO.ite ?_ ?_
      | refine LeO.bind ?_ (fun _ => ?_)
theorem laws_eqSectionS.mono : ∀ a0 a1 k, LeO (laws_eqSectionS.f k a0 a1) (laws_eqSectionS.f (k + 1) a0 a1) := by
  intro a0 a1 k
  have ih0 := laws_eqSectionS.mono_l k
  unfold laws_eqSectionS.f
  repeat' first
      | (with_reducible exact ih0 _ _ _)
      | (with_reducible exact laws_eqSection.mono _ _ _ _ _ _ _ _ _ _ _ _ _)
      | (with_reducible exact LeO.refl _)
      | (with_reducible exact LeO.none _)
      | (with_reducible refine LeO.ite ?_ ?_)
      | (with_reducible refine LeO.bind ?_ (fun _ => ?_))
      | exact ih0 _ _ _
      | exact laws_eqSection.mono _ _ _ _ _ _ _ _ _ _ _ _ _
      | exact LeO.none _
      | refine LeO.ite ?_ ?_
      | refine LeO.bind ?_ (fun _ => ?_)
def laws_eqSectionS.T6 : Bool × List (List Nat × List Nat) := (true, [([], []), ([], []), ([0, 1], [0, 1]), ([2], [2]), ([], []), ([], []), ([4, 5], [4, 5]), ([6], [6]), ([3, 7], [3, 7]), ([8], [8])])
def laws_eqSectionS.B6 : List Nat := [0, 0, 3, 7, 0, 0, 48, 112, 255, 511]
theorem laws_eqSectionS.tab6 : rtab .any (opsOf Try.f26 6) = laws_eqSectionS.T6 := by kernel_rfl
theorem laws_eqSectionS.bits6 : waitsOk laws_eqSectionS.T6.2 laws_eqSectionS.B6 = true := by kernel_rfl
set_option maxHeartbeats 8000000 in
set_option maxRecDepth 100000 in
theorem laws_eqSectionS.calls (k : Nat) (A0 : Option Addr) (c0 : Nat) (l0 : List (S43)) (A1 : Option Addr) (c1 : Nat) (l1 : List (S43)) (r : Bool) (w : World) (hr0 : Kd.C k43 w A0 l0.length l0) (hc0 : l0.length ≤ c0) (hr1 : Kd.C k43 w A1 l1.length l1) (hc1 : l1.length ≤ c1) (h : laws_eqSectionS.f k l0 l1 = some r) :
 Calls Try.prog 26 #[.slice A0 l0.length c0, .slice A1 l1.length c1] w fun e w' => e = .returned (.bool r) ∧ Below w.heap.size w w' := by
 have hu43 := Try.underlying43
 have HR0 := Aside0.mk hr0
 have HC0 := Aside0.mk hc0
 clear hr0 hc0
 have HR1 := Aside0.mk hr1
 have HC1 := Aside0.mk hc1
 clear hr1 hc1
 have HB := Aside0.mk (Below.refl w.heap.size w)
 have H : (if (l0.length : Int) = (l1.length : Int) then (laws_eqSectionS.l0 k l0 l1 0) else (some false)) = some r := h
 clear h
 by_cases c3 : (l0.length : Int) = (l1.length : Int)
 ·rw [if_pos c3] at H
  have c3b0 : ((l0.length : Int) == (l1.length : Int)) = true := beq_iff_eq.mpr c3
  have c3b1 : ((l0.length : Int) != (l1.length : Int)) = false := bne_eq_false_iff_eq.mpr c3
  have c3b2 : (l0.length == l1.length) = true := by first | simpa using c3 | (simp at c3 ⊢; omega)
  clear c3
  have H' := Aside0.mk H
  clear H
  go_enter Try.func26, Try.ntmps26
  go_wp2
  go_loopg [5] k (fun kq v5 w' => ∃ (x5_1 : Int), v5 = .int .i64 x5_1 ∧ Aside0 (laws_eqSectionS.l0 kq l0 l1 x5_1 = some r) ∧ Aside0 (kq ≤ k) ∧ Aside0 (Below w.heap.size w w'))
  case atStart => exact ⟨(0), (zE _), H', ⟨Nat.le_refl _⟩, ⟨zb _⟩⟩
  case round =>
   clear H'
   try clear c1
   try clear c2
   try clear p2
   try clear c3
   try clear c3b0
   try clear c3b1
   try clear c3b2
   obtain ⟨x5_1, rfl, HA, HK1, HB⟩ := hrel
   cases gk with
   | zero => exact absurd HA.out (by simp [laws_eqSectionS.l0])
   | succ k1 =>
    have H := HA.out
    clear HA
    simp only [laws_eqSectionS.l0] at H
    by_cases c4 : x5_1 < (l0.length : Int)
    ·rw [if_pos c4] at H
     have c4b0 : decide (x5_1 < (l0.length : Int)) = true := decide_eq_true c4
     clear c4
     by_cases c5 : 0 ≤ x5_1
     ·rw [if_pos c5] at H
      have c5b0 : decide (0 ≤ x5_1) = true := decide_eq_true c5
      clear c5
      by_cases c6 : x5_1 < (l1.length : Int)
      ·rw [if_pos c6] at H
       have c6b0 : decide (x5_1 < (l1.length : Int)) = true := decide_eq_true c6
       clear c6
       obtain ⟨t307, A70, H⟩ := Option.bind_eq_some_iff.mp H
       have A7 := Aside0.mk A70
       clear A70
       by_cases c8 : t307 = true
       ·subst c8
        rw [if_pos rfl] at H
        have H' := Aside0.mk H
        clear H
        try go_wp2
        have n0_ := Aside0.mk (below_drew1 HB.out)
        clear HB
        have HB := n0_
        clear n0_
        have p305 : 0 ≤ (x5_1 : Int) := of_decide_eq_true (za _)
        have q305 : x5_1 < (l0.length : Int) := of_decide_eq_true (za _)
        obtain ⟨ad305, A305_5, c305_5, e305, hx305_0, hx305_1, hx305_2, hx305_3, hx305_4, hx305_5, hl305_5, hi305_5⟩ := at_T43 HR0.out x5_1 p305 q305
        have hw305_5 := hx305_5
        have hw305_4 := hx305_4
        have hw305_3 := hx305_3
        have hw305_2 := hx305_2
        have hw305_1 := hx305_1
        have hw305_0 := hx305_0
        cases e305
        replace hx305_0 := (HB.out.cell (World.block_lt_of_cell? w _ hx305_0)).trans hx305_0
        replace hx305_1 := (HB.out.cell (World.block_lt_of_cell? w _ hx305_1)).trans hx305_1
        replace hx305_2 := (HB.out.cell (World.block_lt_of_cell? w _ hx305_2)).trans hx305_2
        replace hx305_3 := (HB.out.cell (World.block_lt_of_cell? w _ hx305_3)).trans hx305_3
        replace hx305_4 := (HB.out.cell (World.block_lt_of_cell? w _ hx305_4)).trans hx305_4
        replace hx305_5 := (HB.out.cell (World.block_lt_of_cell? w _ hx305_5)).trans hx305_5
        have HR305_5 := Aside0.mk hi305_5
        have HC305_5 := Aside0.mk hl305_5
        clear hi305_5 hl305_5
        replace p305 := eq_true p305
        replace q305 := eq_true q305
        have p306 : 0 ≤ (x5_1 : Int) := of_decide_eq_true (za _)
        have q306 : x5_1 < (l1.length : Int) := of_decide_eq_true (za _)
        obtain ⟨ad306, A306_5, c306_5, e306, hx306_0, hx306_1, hx306_2, hx306_3, hx306_4, hx306_5, hl306_5, hi306_5⟩ := at_T43 HR1.out x5_1 p306 q306
        have hw306_5 := hx306_5
        have hw306_4 := hx306_4
        have hw306_3 := hx306_3
        have hw306_2 := hx306_2
        have hw306_1 := hx306_1
        have hw306_0 := hx306_0
        cases e306
        replace hx306_0 := (HB.out.cell (World.block_lt_of_cell? w _ hx306_0)).trans hx306_0
        replace hx306_1 := (HB.out.cell (World.block_lt_of_cell? w _ hx306_1)).trans hx306_1
        replace hx306_2 := (HB.out.cell (World.block_lt_of_cell? w _ hx306_2)).trans hx306_2
        replace hx306_3 := (HB.out.cell (World.block_lt_of_cell? w _ hx306_3)).trans hx306_3
        replace hx306_4 := (HB.out.cell (World.block_lt_of_cell? w _ hx306_4)).trans hx306_4
        replace hx306_5 := (HB.out.cell (World.block_lt_of_cell? w _ hx306_5)).trans hx306_5
        have HR306_5 := Aside0.mk hi306_5
        have HC306_5 := Aside0.mk hl306_5
        clear hi306_5 hl306_5
        replace p306 := eq_true p306
        replace q306 := eq_true q306
        refine start_ (n := 10) (S := fun w' => w'.cell? (ad305.add ((x5_1).toNat * 6)) = some (.string ((rd_T43 l0 x5_1).f0)) ∧ w'.cell? ⟨(ad305.add ((x5_1).toNat * 6)).block, (ad305.add ((x5_1).toNat * 6)).off + 1, none⟩ = some (.int .i64 ((rd_T43 l0 x5_1).f1)) ∧ w'.cell? ⟨(ad305.add ((x5_1).toNat * 6)).block, (ad305.add ((x5_1).toNat * 6)).off + 2, none⟩ = some (.int .i64 ((rd_T43 l0 x5_1).f2)) ∧ w'.cell? ⟨(ad305.add ((x5_1).toNat * 6)).block, (ad305.add ((x5_1).toNat * 6)).off + 3, none⟩ = some (.int .i64 ((rd_T43 l0 x5_1).f3)) ∧ w'.cell? ⟨(ad305.add ((x5_1).toNat * 6)).block, (ad305.add ((x5_1).toNat * 6)).off + 4, none⟩ = some (.string ((rd_T43 l0 x5_1).f4)) ∧ w'.cell? ⟨(ad305.add ((x5_1).toNat * 6)).block, (ad305.add ((x5_1).toNat * 6)).off + 5, none⟩ = some (.slice A305_5 ((rd_T43 l0 x5_1).f5).length c305_5) ∧ w'.cell? (ad306.add ((x5_1).toNat * 6)) = some (.string ((rd_T43 l1 x5_1).f0)) ∧ w'.cell? ⟨(ad306.add ((x5_1).toNat * 6)).block, (ad306.add ((x5_1).toNat * 6)).off + 1, none⟩ = some (.int .i64 ((rd_T43 l1 x5_1).f1)) ∧ w'.cell? ⟨(ad306.add ((x5_1).toNat * 6)).block, (ad306.add ((x5_1).toNat * 6)).off + 2, none⟩ = some (.int .i64 ((rd_T43 l1 x5_1).f2)) ∧ w'.cell? ⟨(ad306.add ((x5_1).toNat * 6)).block, (ad306.add ((x5_1).toNat * 6)).off + 3, none⟩ = some (.int .i64 ((rd_T43 l1 x5_1).f3)) ∧ w'.cell? ⟨(ad306.add ((x5_1).toNat * 6)).block, (ad306.add ((x5_1).toNat * 6)).off + 4, none⟩ = some (.string ((rd_T43 l1 x5_1).f4)) ∧ w'.cell? ⟨(ad306.add ((x5_1).toNat * 6)).block, (ad306.add ((x5_1).toNat * 6)).off + 5, none⟩ = some (.slice A306_5 ((rd_T43 l1 x5_1).f5).length c306_5)) (ds := []) (zm 10 0) (by kernel_rfl) rfl rfl ⟨((HB.out.cell (World.block_lt_of_cell? w _ hw305_0)).trans hw305_0), ((HB.out.cell (World.block_lt_of_cell? w _ hw305_1)).trans hw305_1), ((HB.out.cell (World.block_lt_of_cell? w _ hw305_2)).trans hw305_2), ((HB.out.cell (World.block_lt_of_cell? w _ hw305_3)).trans hw305_3), ((HB.out.cell (World.block_lt_of_cell? w _ hw305_4)).trans hw305_4), ((HB.out.cell (World.block_lt_of_cell? w _ hw305_5)).trans hw305_5), ((HB.out.cell (World.block_lt_of_cell? w _ hw306_0)).trans hw306_0), ((HB.out.cell (World.block_lt_of_cell? w _ hw306_1)).trans hw306_1), ((HB.out.cell (World.block_lt_of_cell? w _ hw306_2)).trans hw306_2), ((HB.out.cell (World.block_lt_of_cell? w _ hw306_3)).trans hw306_3), ((HB.out.cell (World.block_lt_of_cell? w _ hw306_4)).trans hw306_4), ((HB.out.cell (World.block_lt_of_cell? w _ hw306_5)).trans hw306_5)⟩ (fun hHeld => ?_); refine with_tabW laws_eqSectionS.tab6 laws_eqSectionS.bits6 (fun HT_ HW_ => ?_)
        generalize wr.drew = w9 at HB HR305_5 HR306_5 hx305_0 hx305_1 hx305_2 hx305_3 hx305_4 hx305_5 hx306_0 hx306_1 hx306_2 hx306_3 hx306_4 hx306_5 hHeld ⊢
        refine zp 0 17 (zm 10 1) ?_
        refine zp 1 18 (zm 10 3) ?_
        refine zp 2 19 (zm 10 7) ?_
        refine zp 4 21 (zm 10 23) ?_
        refine zp 5 22 (zm 10 55) ?_
        refine zp 6 23 (zm 10 119) ?_
        refine take_ (i := 3) (N := some 20) (v := ?_) (a' := ?_) (zm 10 127) rfl rfl (take_ofW HT_.out HW_.out (by kernel_rfl)) (fun _ _ _ h => h) (Or.inl ⟨by rfl, ?_⟩) hHeld ?_ ?_
        rotate_left
        ·rintro w' ⟨s0, s1, s2, s3, s4, s5, s6, s7, s8, s9, s10, s11⟩
         go_simp
         with_reducible rfl
        rotate_left
        ·simp only [Act.put, List.setIfInBounds_toArray, List.set_cons_zero, List.set_cons_succ, i64_w, i32_w]
         rfl
        refine take_ (i := 7) (N := some 24) (v := ?_) (a' := ?_) (zm 10 255) rfl rfl (take_ofW HT_.out HW_.out (by kernel_rfl)) (fun _ _ _ h => h) (Or.inl ⟨by rfl, ?_⟩) hHeld ?_ ?_
        rotate_left
        ·rintro w' ⟨s0, s1, s2, s3, s4, s5, s6, s7, s8, s9, s10, s11⟩
         go_simp
         with_reducible rfl
        rotate_left
        ·simp only [Act.put, List.setIfInBounds_toArray, List.set_cons_zero, List.set_cons_succ, i64_w, i32_w]
         rfl
        refine one_ (i := 8) (N := some 25) (zm 10 511) rfl rfl (one_of HT_.out (by kernel_rfl)) (by decide) (fun K hK => ?_)
        refine zi Try.func50 #[.agg #[.string ((rd_T43 l0 x5_1).f0), .int .i64 ((rd_T43 l0 x5_1).f1), .int .i64 ((rd_T43 l0 x5_1).f2), .int .i64 ((rd_T43 l0 x5_1).f3), .string ((rd_T43 l0 x5_1).f4), .slice A305_5 ((rd_T43 l0 x5_1).f5).length c305_5], .agg #[.string ((rd_T43 l1 x5_1).f0), .int .i64 ((rd_T43 l1 x5_1).f1), .int .i64 ((rd_T43 l1 x5_1).f2), .int .i64 ((rd_T43 l1 x5_1).f3), .string ((rd_T43 l1 x5_1).f4), .slice A306_5 ((rd_T43 l1 x5_1).f5).length c306_5]] ?_
        with_reducible refine (laws_eqSection.calls k1 ((rd_T43 l0 x5_1).f0) ((rd_T43 l0 x5_1).f1) ((rd_T43 l0 x5_1).f2) ((rd_T43 l0 x5_1).f3) ((rd_T43 l0 x5_1).f4) _ _ ((rd_T43 l0 x5_1).f5) ((rd_T43 l1 x5_1).f0) ((rd_T43 l1 x5_1).f1) ((rd_T43 l1 x5_1).f2) ((rd_T43 l1 x5_1).f3) ((rd_T43 l1 x5_1).f4) _ _ ((rd_T43 l1 x5_1).f5) true _ ?side1 ?side2 ?side3 ?side4 A7.out).mono ?_
        (case side1 => repeat (first | exact (Kd.C_below HR305_5.out HB.out) | (with_reducible refine Kd.C_alloc ?_ _) | (with_reducible refine Kd.C_drewN ?_ _) | (with_reducible refine Kd.C_drew ?_)))
        (case side2 => exact HC305_5.out)
        (case side3 => repeat (first | exact (Kd.C_below HR306_5.out HB.out) | (with_reducible refine Kd.C_alloc ?_ _) | (with_reducible refine Kd.C_drewN ?_ _) | (with_reducible refine Kd.C_drew ?_)))
        (case side4 => exact HC306_5.out)
        rintro e w10 ⟨rfl, hb⟩
        refine ⟨_, rfl, ?_⟩
        have n0_ := zt w hb
        clear HB
        have HB := n0_
        clear n0_
        (try clear hb)
        (try clear hb2)
        (try clear hk)
        (try clear hi)
        refine hK.out _ _ ⟨((HB.out.cell (World.block_lt_of_cell? w _ hw305_0)).trans hw305_0), ((HB.out.cell (World.block_lt_of_cell? w _ hw305_1)).trans hw305_1), ((HB.out.cell (World.block_lt_of_cell? w _ hw305_2)).trans hw305_2), ((HB.out.cell (World.block_lt_of_cell? w _ hw305_3)).trans hw305_3), ((HB.out.cell (World.block_lt_of_cell? w _ hw305_4)).trans hw305_4), ((HB.out.cell (World.block_lt_of_cell? w _ hw305_5)).trans hw305_5), ((HB.out.cell (World.block_lt_of_cell? w _ hw306_0)).trans hw306_0), ((HB.out.cell (World.block_lt_of_cell? w _ hw306_1)).trans hw306_1), ((HB.out.cell (World.block_lt_of_cell? w _ hw306_2)).trans hw306_2), ((HB.out.cell (World.block_lt_of_cell? w _ hw306_3)).trans hw306_3), ((HB.out.cell (World.block_lt_of_cell? w _ hw306_4)).trans hw306_4), ((HB.out.cell (World.block_lt_of_cell? w _ hw306_5)).trans hw306_5)⟩ (fun hHeld => ?_)
        clear hK K
        refine zq ?_
        refine zp 9 26 (zm 10 1023) ?_
        refine done_ (done_of HT_.out (by kernel_rfl)) ?_
        try go_wp2
        go_roundg k1
        case measure => have := HK1.out; omega
        case rel => exact ⟨(wrap64 (x5_1 + 1)), (zE _), H', ⟨by have := HK1.out; omega⟩, ⟨zb _⟩⟩
       ·replace c8 := Bool.eq_false_iff.mpr c8
        subst c8
        rw [if_neg (show ¬ (false = true) by decide)] at H
        obtain rfl := Option.some.inj H
        try go_wp2
        have n0_ := Aside0.mk (below_drew1 HB.out)
        clear HB
        have HB := n0_
        clear n0_
        have p305 : 0 ≤ (x5_1 : Int) := of_decide_eq_true (za _)
        have q305 : x5_1 < (l0.length : Int) := of_decide_eq_true (za _)
        obtain ⟨ad305, A305_5, c305_5, e305, hx305_0, hx305_1, hx305_2, hx305_3, hx305_4, hx305_5, hl305_5, hi305_5⟩ := at_T43 HR0.out x5_1 p305 q305
        have hw305_5 := hx305_5
        have hw305_4 := hx305_4
        have hw305_3 := hx305_3
        have hw305_2 := hx305_2
        have hw305_1 := hx305_1
        have hw305_0 := hx305_0
        cases e305
        replace hx305_0 := (HB.out.cell (World.block_lt_of_cell? w _ hx305_0)).trans hx305_0
        replace hx305_1 := (HB.out.cell (World.block_lt_of_cell? w _ hx305_1)).trans hx305_1
        replace hx305_2 := (HB.out.cell (World.block_lt_of_cell? w _ hx305_2)).trans hx305_2
        replace hx305_3 := (HB.out.cell (World.block_lt_of_cell? w _ hx305_3)).trans hx305_3
        replace hx305_4 := (HB.out.cell (World.block_lt_of_cell? w _ hx305_4)).trans hx305_4
        replace hx305_5 := (HB.out.cell (World.block_lt_of_cell? w _ hx305_5)).trans hx305_5
        have HR305_5 := Aside0.mk hi305_5
        have HC305_5 := Aside0.mk hl305_5
        clear hi305_5 hl305_5
        replace p305 := eq_true p305
        replace q305 := eq_true q305
        have p306 : 0 ≤ (x5_1 : Int) := of_decide_eq_true (za _)
        have q306 : x5_1 < (l1.length : Int) := of_decide_eq_true (za _)
        obtain ⟨ad306, A306_5, c306_5, e306, hx306_0, hx306_1, hx306_2, hx306_3, hx306_4, hx306_5, hl306_5, hi306_5⟩ := at_T43 HR1.out x5_1 p306 q306
        have hw306_5 := hx306_5
        have hw306_4 := hx306_4
        have hw306_3 := hx306_3
        have hw306_2 := hx306_2
        have hw306_1 := hx306_1
        have hw306_0 := hx306_0
        cases e306
        replace hx306_0 := (HB.out.cell (World.block_lt_of_cell? w _ hx306_0)).trans hx306_0
        replace hx306_1 := (HB.out.cell (World.block_lt_of_cell? w _ hx306_1)).trans hx306_1
        replace hx306_2 := (HB.out.cell (World.block_lt_of_cell? w _ hx306_2)).trans hx306_2
        replace hx306_3 := (HB.out.cell (World.block_lt_of_cell? w _ hx306_3)).trans hx306_3
        replace hx306_4 := (HB.out.cell (World.block_lt_of_cell? w _ hx306_4)).trans hx306_4
        replace hx306_5 := (HB.out.cell (World.block_lt_of_cell? w _ hx306_5)).trans hx306_5
        have HR306_5 := Aside0.mk hi306_5
        have HC306_5 := Aside0.mk hl306_5
        clear hi306_5 hl306_5
        replace p306 := eq_true p306
        replace q306 := eq_true q306
        refine start_ (n := 10) (S := fun w' => w'.cell? (ad305.add ((x5_1).toNat * 6)) = some (.string ((rd_T43 l0 x5_1).f0)) ∧ w'.cell? ⟨(ad305.add ((x5_1).toNat * 6)).block, (ad305.add ((x5_1).toNat * 6)).off + 1, none⟩ = some (.int .i64 ((rd_T43 l0 x5_1).f1)) ∧ w'.cell? ⟨(ad305.add ((x5_1).toNat * 6)).block, (ad305.add ((x5_1).toNat * 6)).off + 2, none⟩ = some (.int .i64 ((rd_T43 l0 x5_1).f2)) ∧ w'.cell? ⟨(ad305.add ((x5_1).toNat * 6)).block, (ad305.add ((x5_1).toNat * 6)).off + 3, none⟩ = some (.int .i64 ((rd_T43 l0 x5_1).f3)) ∧ w'.cell? ⟨(ad305.add ((x5_1).toNat * 6)).block, (ad305.add ((x5_1).toNat * 6)).off + 4, none⟩ = some (.string ((rd_T43 l0 x5_1).f4)) ∧ w'.cell? ⟨(ad305.add ((x5_1).toNat * 6)).block, (ad305.add ((x5_1).toNat * 6)).off + 5, none⟩ = some (.slice A305_5 ((rd_T43 l0 x5_1).f5).length c305_5) ∧ w'.cell? (ad306.add ((x5_1).toNat * 6)) = some (.string ((rd_T43 l1 x5_1).f0)) ∧ w'.cell? ⟨(ad306.add ((x5_1).toNat * 6)).block, (ad306.add ((x5_1).toNat * 6)).off + 1, none⟩ = some (.int .i64 ((rd_T43 l1 x5_1).f1)) ∧ w'.cell? ⟨(ad306.add ((x5_1).toNat * 6)).block, (ad306.add ((x5_1).toNat * 6)).off + 2, none⟩ = some (.int .i64 ((rd_T43 l1 x5_1).f2)) ∧ w'.cell? ⟨(ad306.add ((x5_1).toNat * 6)).block, (ad306.add ((x5_1).toNat * 6)).off + 3, none⟩ = some (.int .i64 ((rd_T43 l1 x5_1).f3)) ∧ w'.cell? ⟨(ad306.add ((x5_1).toNat * 6)).block, (ad306.add ((x5_1).toNat * 6)).off + 4, none⟩ = some (.string ((rd_T43 l1 x5_1).f4)) ∧ w'.cell? ⟨(ad306.add ((x5_1).toNat * 6)).block, (ad306.add ((x5_1).toNat * 6)).off + 5, none⟩ = some (.slice A306_5 ((rd_T43 l1 x5_1).f5).length c306_5)) (ds := []) (zm 10 0) (by kernel_rfl) rfl rfl ⟨((HB.out.cell (World.block_lt_of_cell? w _ hw305_0)).trans hw305_0), ((HB.out.cell (World.block_lt_of_cell? w _ hw305_1)).trans hw305_1), ((HB.out.cell (World.block_lt_of_cell? w _ hw305_2)).trans hw305_2), ((HB.out.cell (World.block_lt_of_cell? w _ hw305_3)).trans hw305_3), ((HB.out.cell (World.block_lt_of_cell? w _ hw305_4)).trans hw305_4), ((HB.out.cell (World.block_lt_of_cell? w _ hw305_5)).trans hw305_5), ((HB.out.cell (World.block_lt_of_cell? w _ hw306_0)).trans hw306_0), ((HB.out.cell (World.block_lt_of_cell? w _ hw306_1)).trans hw306_1), ((HB.out.cell (World.block_lt_of_cell? w _ hw306_2)).trans hw306_2), ((HB.out.cell (World.block_lt_of_cell? w _ hw306_3)).trans hw306_3), ((HB.out.cell (World.block_lt_of_cell? w _ hw306_4)).trans hw306_4), ((HB.out.cell (World.block_lt_of_cell? w _ hw306_5)).trans hw306_5)⟩ (fun hHeld => ?_); refine with_tabW laws_eqSectionS.tab6 laws_eqSectionS.bits6 (fun HT_ HW_ => ?_)
        generalize wr.drew = w11 at HB HR305_5 HR306_5 hx305_0 hx305_1 hx305_2 hx305_3 hx305_4 hx305_5 hx306_0 hx306_1 hx306_2 hx306_3 hx306_4 hx306_5 hHeld ⊢
        refine zp 0 17 (zm 10 1) ?_
        refine zp 1 18 (zm 10 3) ?_
        refine zp 2 19 (zm 10 7) ?_
        refine zp 4 21 (zm 10 23) ?_
        refine zp 5 22 (zm 10 55) ?_
        refine zp 6 23 (zm 10 119) ?_
        refine take_ (i := 3) (N := some 20) (v := ?_) (a' := ?_) (zm 10 127) rfl rfl (take_ofW HT_.out HW_.out (by kernel_rfl)) (fun _ _ _ h => h) (Or.inl ⟨by rfl, ?_⟩) hHeld ?_ ?_
        rotate_left
        ·rintro w' ⟨s0, s1, s2, s3, s4, s5, s6, s7, s8, s9, s10, s11⟩
         go_simp
         with_reducible rfl
        rotate_left
        ·simp only [Act.put, List.setIfInBounds_toArray, List.set_cons_zero, List.set_cons_succ, i64_w, i32_w]
         rfl
        refine take_ (i := 7) (N := some 24) (v := ?_) (a' := ?_) (zm 10 255) rfl rfl (take_ofW HT_.out HW_.out (by kernel_rfl)) (fun _ _ _ h => h) (Or.inl ⟨by rfl, ?_⟩) hHeld ?_ ?_
        rotate_left
        ·rintro w' ⟨s0, s1, s2, s3, s4, s5, s6, s7, s8, s9, s10, s11⟩
         go_simp
         with_reducible rfl
        rotate_left
        ·simp only [Act.put, List.setIfInBounds_toArray, List.set_cons_zero, List.set_cons_succ, i64_w, i32_w]
         rfl
        refine one_ (i := 8) (N := some 25) (zm 10 511) rfl rfl (one_of HT_.out (by kernel_rfl)) (by decide) (fun K hK => ?_)
        refine zi Try.func50 #[.agg #[.string ((rd_T43 l0 x5_1).f0), .int .i64 ((rd_T43 l0 x5_1).f1), .int .i64 ((rd_T43 l0 x5_1).f2), .int .i64 ((rd_T43 l0 x5_1).f3), .string ((rd_T43 l0 x5_1).f4), .slice A305_5 ((rd_T43 l0 x5_1).f5).length c305_5], .agg #[.string ((rd_T43 l1 x5_1).f0), .int .i64 ((rd_T43 l1 x5_1).f1), .int .i64 ((rd_T43 l1 x5_1).f2), .int .i64 ((rd_T43 l1 x5_1).f3), .string ((rd_T43 l1 x5_1).f4), .slice A306_5 ((rd_T43 l1 x5_1).f5).length c306_5]] ?_
        with_reducible refine (laws_eqSection.calls k1 ((rd_T43 l0 x5_1).f0) ((rd_T43 l0 x5_1).f1) ((rd_T43 l0 x5_1).f2) ((rd_T43 l0 x5_1).f3) ((rd_T43 l0 x5_1).f4) _ _ ((rd_T43 l0 x5_1).f5) ((rd_T43 l1 x5_1).f0) ((rd_T43 l1 x5_1).f1) ((rd_T43 l1 x5_1).f2) ((rd_T43 l1 x5_1).f3) ((rd_T43 l1 x5_1).f4) _ _ ((rd_T43 l1 x5_1).f5) false _ ?side1 ?side2 ?side3 ?side4 A7.out).mono ?_
        (case side1 => repeat (first | exact (Kd.C_below HR305_5.out HB.out) | (with_reducible refine Kd.C_alloc ?_ _) | (with_reducible refine Kd.C_drewN ?_ _) | (with_reducible refine Kd.C_drew ?_)))
        (case side2 => exact HC305_5.out)
        (case side3 => repeat (first | exact (Kd.C_below HR306_5.out HB.out) | (with_reducible refine Kd.C_alloc ?_ _) | (with_reducible refine Kd.C_drewN ?_ _) | (with_reducible refine Kd.C_drew ?_)))
        (case side4 => exact HC306_5.out)
        rintro e w12 ⟨rfl, hb⟩
        refine ⟨_, rfl, ?_⟩
        have n0_ := zt w hb
        clear HB
        have HB := n0_
        clear n0_
        (try clear hb)
        (try clear hb2)
        (try clear hk)
        (try clear hi)
        refine hK.out _ _ ⟨((HB.out.cell (World.block_lt_of_cell? w _ hw305_0)).trans hw305_0), ((HB.out.cell (World.block_lt_of_cell? w _ hw305_1)).trans hw305_1), ((HB.out.cell (World.block_lt_of_cell? w _ hw305_2)).trans hw305_2), ((HB.out.cell (World.block_lt_of_cell? w _ hw305_3)).trans hw305_3), ((HB.out.cell (World.block_lt_of_cell? w _ hw305_4)).trans hw305_4), ((HB.out.cell (World.block_lt_of_cell? w _ hw305_5)).trans hw305_5), ((HB.out.cell (World.block_lt_of_cell? w _ hw306_0)).trans hw306_0), ((HB.out.cell (World.block_lt_of_cell? w _ hw306_1)).trans hw306_1), ((HB.out.cell (World.block_lt_of_cell? w _ hw306_2)).trans hw306_2), ((HB.out.cell (World.block_lt_of_cell? w _ hw306_3)).trans hw306_3), ((HB.out.cell (World.block_lt_of_cell? w _ hw306_4)).trans hw306_4), ((HB.out.cell (World.block_lt_of_cell? w _ hw306_5)).trans hw306_5)⟩ (fun hHeld => ?_)
        clear hK K
        refine zq ?_
        refine zp 9 26 (zm 10 1023) ?_
        refine done_ (done_of HT_.out (by kernel_rfl)) ?_
        try go_wp2
        go_ret
        exact ⟨ze _, zb _⟩
      ·rw [if_neg c6] at H
       exact absurd H (by simp)
     ·rw [if_neg c5] at H
      exact absurd H (by simp)
    ·rw [if_neg c4] at H
     have c4b0 : decide (x5_1 < (l0.length : Int)) = false := decide_eq_false c4
     clear c4
     obtain rfl := Option.some.inj H
     go_wp2
     go_ret
     exact ⟨ze _, zb _⟩
 ·rw [if_neg c3] at H
  have c3b0 : ((l0.length : Int) == (l1.length : Int)) = false := beq_eq_false_iff_ne.mpr c3
  have c3b1 : ((l0.length : Int) != (l1.length : Int)) = true := bne_iff_ne.mpr c3
  have c3b2 : (l0.length == l1.length) = false := by first | simpa using c3 | (simp at c3 ⊢; omega)
  obtain rfl := Option.some.inj H
  go_enter Try.func26, Try.ntmps26
  go_wp2
  go_ret
  exact ⟨ze _, zb _⟩

/-! ### laws_eqOSym: function 51 -/
def laws_eqOSym.f (a0_0 : ByteArray) (a0_1 : Int) (a0_2 : Int) (a0_3 : Bool) (a1_0 : ByteArray) (a1_1 : Int) (a1_2 : Int) (a1_3 : Bool) : Option (Bool) := if a0_0.toList = a1_0.toList then (if a0_1 = a1_1 then (if a0_2 = a1_2 then (if (a0_3 != a1_3) = true then (some false) else (some true)) else (some false)) else (some false)) else (some false)
set_option maxHeartbeats 8000000 in
set_option maxRecDepth 100000 in
theorem laws_eqOSym.calls (a0_0 : ByteArray) (a0_1 : Int) (a0_2 : Int) (a0_3 : Bool) (a1_0 : ByteArray) (a1_1 : Int) (a1_2 : Int) (a1_3 : Bool) (r : Bool) (w : World) (h : laws_eqOSym.f a0_0 a0_1 a0_2 a0_3 a1_0 a1_1 a1_2 a1_3 = some r) :
 Calls Try.prog 51 #[.agg #[.string a0_0, .int .i64 a0_1, .int .i64 a0_2, .bool a0_3], .agg #[.string a1_0, .int .i64 a1_1, .int .i64 a1_2, .bool a1_3]] w fun e w' => e = .returned (.bool r) ∧ Below w.heap.size w w' := by
 have hu45 := Try.underlying45
 have HB := Aside0.mk (Below.refl w.heap.size w)
 have H : (if a0_0.toList = a1_0.toList then (if a0_1 = a1_1 then (if a0_2 = a1_2 then (if (a0_3 != a1_3) = true then (some false) else (some true)) else (some false)) else (some false)) else (some false)) = some r := h
 clear h
 by_cases c3 : a0_0.toList = a1_0.toList
 ·rw [if_pos c3] at H
  have c3b0 : (a0_0.toList == a1_0.toList) = true := beq_iff_eq.mpr c3
  have c3b1 : (a0_0.toList != a1_0.toList) = false := bne_eq_false_iff_eq.mpr c3
  clear c3
  by_cases c4 : a0_1 = a1_1
  ·rw [if_pos c4] at H
   have c4b0 : (a0_1 == a1_1) = true := beq_iff_eq.mpr c4
   have c4b1 : (a0_1 != a1_1) = false := bne_eq_false_iff_eq.mpr c4
   clear c4
   by_cases c5 : a0_2 = a1_2
   ·rw [if_pos c5] at H
    have c5b0 : (a0_2 == a1_2) = true := beq_iff_eq.mpr c5
    have c5b1 : (a0_2 != a1_2) = false := bne_eq_false_iff_eq.mpr c5
    clear c5
    by_cases c6 : (a0_3 != a1_3) = true
    ·rw [if_pos c6] at H
     have c6b0 : (a0_3 != a1_3) = true := c6
     (try (have c6b1 : decide (a0_3 = a1_3) = false := by simpa using c6))
     (try (have c6b2 : (a0_3 == a1_3) = false := by simpa using c6))
     (try (have c6b3 : ¬ (a0_3 = a1_3) := by simpa using c6))
     clear c6
     obtain rfl := Option.some.inj H
     go_enter Try.func51, Try.ntmps51
     go_wp2_with (first | ((with_reducible refine gate_dst (N := 2) rfl ?_); refine zbx 2 #[.string a0_0, .int .i64 a0_1, .int .i64 a0_2, .bool a0_3] 45 ?_; intro gb308 hg w7 hbox hb; have BK308 := Aside0.mk (hbox); have GW308 := zs w hg; have GE308 := GW308; replace HB := zt w hb; clear hb hbox hg) | ((with_reducible refine gate_dst (N := 3) rfl ?_); refine zbx 3 #[.string a1_0, .int .i64 a1_1, .int .i64 a1_2, .bool a1_3] 45 ?_; intro gb309 hg w8 hbox hb; have BK309 := Aside0.mk (hbox); have GW309 := zs w hg; have GE309 := GW309; have NB308_309 := zlt BK308 hg; have NB309_308 := zgt (zlt BK308 hg); replace BK308 := zk BK308 hb; replace HB := zt w hb; clear hb hbox hg; have hnb9 := NB308_309.out; have hnc9 := NB309_308.out; have hcz10_0 := zc0 BK308; have hcz10_1 := zc1 BK308; have hcz10_2 := zc2 BK308; have hcz10_3 := zc3 BK308; have hfz10_0 := blk_frozen BK308.out 0; have hfz10_1 := blk_frozen BK308.out 1; have hfz10_2 := blk_frozen BK308.out 2; have hfz10_3 := blk_frozen BK308.out 3; have hcz11_0 := zc0 BK309; have hcz11_1 := zc1 BK309; have hcz11_2 := zc2 BK309; have hcz11_3 := zc3 BK309; have hfz11_0 := blk_frozen BK309.out 0; have hfz11_1 := blk_frozen BK309.out 1; have hfz11_2 := blk_frozen BK309.out 2; have hfz11_3 := blk_frozen BK309.out 3))
     go_ret
     exact ⟨ze _, zb _⟩
    ·rw [if_neg c6] at H
     have c6b0 : (a0_3 != a1_3) = false := by simpa using c6
     (try (have c6b1 : decide (a0_3 = a1_3) = true := by simpa using c6))
     (try (have c6b2 : (a0_3 == a1_3) = true := by simpa using c6))
     clear c6
     obtain rfl := Option.some.inj H
     go_enter Try.func51, Try.ntmps51
     go_wp2_with (first | ((with_reducible refine gate_dst (N := 2) rfl ?_); refine zbx 2 #[.string a0_0, .int .i64 a0_1, .int .i64 a0_2, .bool a0_3] 45 ?_; intro gb308 hg w12 hbox hb; have BK308 := Aside0.mk (hbox); have GW308 := zs w hg; have GE308 := GW308; replace HB := zt w hb; clear hb hbox hg) | ((with_reducible refine gate_dst (N := 3) rfl ?_); refine zbx 3 #[.string a1_0, .int .i64 a1_1, .int .i64 a1_2, .bool a1_3] 45 ?_; intro gb309 hg w13 hbox hb; have BK309 := Aside0.mk (hbox); have GW309 := zs w hg; have GE309 := GW309; have NB308_309 := zlt BK308 hg; have NB309_308 := zgt (zlt BK308 hg); replace BK308 := zk BK308 hb; replace HB := zt w hb; clear hb hbox hg; have hnb14 := NB308_309.out; have hnc14 := NB309_308.out; have hcz15_0 := zc0 BK308; have hcz15_1 := zc1 BK308; have hcz15_2 := zc2 BK308; have hcz15_3 := zc3 BK308; have hfz15_0 := blk_frozen BK308.out 0; have hfz15_1 := blk_frozen BK308.out 1; have hfz15_2 := blk_frozen BK308.out 2; have hfz15_3 := blk_frozen BK308.out 3; have hcz16_0 := zc0 BK309; have hcz16_1 := zc1 BK309; have hcz16_2 := zc2 BK309; have hcz16_3 := zc3 BK309; have hfz16_0 := blk_frozen BK309.out 0; have hfz16_1 := blk_frozen BK309.out 1; have hfz16_2 := blk_frozen BK309.out 2; have hfz16_3 := blk_frozen BK309.out 3))
     go_ret
     exact ⟨ze _, zb _⟩
   ·rw [if_neg c5] at H
    have c5b0 : (a0_2 == a1_2) = false := beq_eq_false_iff_ne.mpr c5
    have c5b1 : (a0_2 != a1_2) = true := bne_iff_ne.mpr c5
    obtain rfl := Option.some.inj H
    go_enter Try.func51, Try.ntmps51
    go_wp2_with (first | ((with_reducible refine gate_dst (N := 2) rfl ?_); refine zbx 2 #[.string a0_0, .int .i64 a0_1, .int .i64 a0_2, .bool a0_3] 45 ?_; intro gb308 hg w17 hbox hb; have BK308 := Aside0.mk (hbox); have GW308 := zs w hg; have GE308 := GW308; replace HB := zt w hb; clear hb hbox hg) | ((with_reducible refine gate_dst (N := 3) rfl ?_); refine zbx 3 #[.string a1_0, .int .i64 a1_1, .int .i64 a1_2, .bool a1_3] 45 ?_; intro gb309 hg w18 hbox hb; have BK309 := Aside0.mk (hbox); have GW309 := zs w hg; have GE309 := GW309; have NB308_309 := zlt BK308 hg; have NB309_308 := zgt (zlt BK308 hg); replace BK308 := zk BK308 hb; replace HB := zt w hb; clear hb hbox hg; have hnb19 := NB308_309.out; have hnc19 := NB309_308.out; have hcz20_0 := zc0 BK308; have hcz20_1 := zc1 BK308; have hcz20_2 := zc2 BK308; have hcz20_3 := zc3 BK308; have hfz20_0 := blk_frozen BK308.out 0; have hfz20_1 := blk_frozen BK308.out 1; have hfz20_2 := blk_frozen BK308.out 2; have hfz20_3 := blk_frozen BK308.out 3; have hcz21_0 := zc0 BK309; have hcz21_1 := zc1 BK309; have hcz21_2 := zc2 BK309; have hcz21_3 := zc3 BK309; have hfz21_0 := blk_frozen BK309.out 0; have hfz21_1 := blk_frozen BK309.out 1; have hfz21_2 := blk_frozen BK309.out 2; have hfz21_3 := blk_frozen BK309.out 3))
    go_ret
    exact ⟨ze _, zb _⟩
  ·rw [if_neg c4] at H
   have c4b0 : (a0_1 == a1_1) = false := beq_eq_false_iff_ne.mpr c4
   have c4b1 : (a0_1 != a1_1) = true := bne_iff_ne.mpr c4
   obtain rfl := Option.some.inj H
   go_enter Try.func51, Try.ntmps51
   go_wp2_with (first | ((with_reducible refine gate_dst (N := 2) rfl ?_); refine zbx 2 #[.string a0_0, .int .i64 a0_1, .int .i64 a0_2, .bool a0_3] 45 ?_; intro gb308 hg w22 hbox hb; have BK308 := Aside0.mk (hbox); have GW308 := zs w hg; have GE308 := GW308; replace HB := zt w hb; clear hb hbox hg) | ((with_reducible refine gate_dst (N := 3) rfl ?_); refine zbx 3 #[.string a1_0, .int .i64 a1_1, .int .i64 a1_2, .bool a1_3] 45 ?_; intro gb309 hg w23 hbox hb; have BK309 := Aside0.mk (hbox); have GW309 := zs w hg; have GE309 := GW309; have NB308_309 := zlt BK308 hg; have NB309_308 := zgt (zlt BK308 hg); replace BK308 := zk BK308 hb; replace HB := zt w hb; clear hb hbox hg; have hnb24 := NB308_309.out; have hnc24 := NB309_308.out; have hcz25_0 := zc0 BK308; have hcz25_1 := zc1 BK308; have hcz25_2 := zc2 BK308; have hcz25_3 := zc3 BK308; have hfz25_0 := blk_frozen BK308.out 0; have hfz25_1 := blk_frozen BK308.out 1; have hfz25_2 := blk_frozen BK308.out 2; have hfz25_3 := blk_frozen BK308.out 3; have hcz26_0 := zc0 BK309; have hcz26_1 := zc1 BK309; have hcz26_2 := zc2 BK309; have hcz26_3 := zc3 BK309; have hfz26_0 := blk_frozen BK309.out 0; have hfz26_1 := blk_frozen BK309.out 1; have hfz26_2 := blk_frozen BK309.out 2; have hfz26_3 := blk_frozen BK309.out 3))
   go_ret
   exact ⟨ze _, zb _⟩
 ·rw [if_neg c3] at H
  have c3b0 : (a0_0.toList == a1_0.toList) = false := beq_eq_false_iff_ne.mpr c3
  have c3b1 : (a0_0.toList != a1_0.toList) = true := bne_iff_ne.mpr c3
  obtain rfl := Option.some.inj H
  go_enter Try.func51, Try.ntmps51
  go_wp2_with (first | ((with_reducible refine gate_dst (N := 2) rfl ?_); refine zbx 2 #[.string a0_0, .int .i64 a0_1, .int .i64 a0_2, .bool a0_3] 45 ?_; intro gb308 hg w27 hbox hb; have BK308 := Aside0.mk (hbox); have GW308 := zs w hg; have GE308 := GW308; replace HB := zt w hb; clear hb hbox hg) | ((with_reducible refine gate_dst (N := 3) rfl ?_); refine zbx 3 #[.string a1_0, .int .i64 a1_1, .int .i64 a1_2, .bool a1_3] 45 ?_; intro gb309 hg w28 hbox hb; have BK309 := Aside0.mk (hbox); have GW309 := zs w hg; have GE309 := GW309; have NB308_309 := zlt BK308 hg; have NB309_308 := zgt (zlt BK308 hg); replace BK308 := zk BK308 hb; replace HB := zt w hb; clear hb hbox hg; have hnb29 := NB308_309.out; have hnc29 := NB309_308.out; have hcz30_0 := zc0 BK308; have hcz30_1 := zc1 BK308; have hcz30_2 := zc2 BK308; have hcz30_3 := zc3 BK308; have hfz30_0 := blk_frozen BK308.out 0; have hfz30_1 := blk_frozen BK308.out 1; have hfz30_2 := blk_frozen BK308.out 2; have hfz30_3 := blk_frozen BK308.out 3; have hcz31_0 := zc0 BK309; have hcz31_1 := zc1 BK309; have hcz31_2 := zc2 BK309; have hcz31_3 := zc3 BK309; have hfz31_0 := blk_frozen BK309.out 0; have hfz31_1 := blk_frozen BK309.out 1; have hfz31_2 := blk_frozen BK309.out 2; have hfz31_3 := blk_frozen BK309.out 3))
  go_ret
  exact ⟨ze _, zb _⟩

end Go.Proofs.Ytbbngeooodcbcaa.PFnExactObjectOk
