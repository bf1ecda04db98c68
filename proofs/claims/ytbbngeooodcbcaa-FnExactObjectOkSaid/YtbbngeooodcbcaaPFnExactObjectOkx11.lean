/- What the Go functions that the law FnExactObjectOk reaches compute, function by function, and that Go comes to just that. -/
import Derived.Test.YtbbngeooodcbcaaPFnExactObjectOkx0
import Derived.Test.YtbbngeooodcbcaaAidZ
import Derived.Test.YtbbngeooodcbcaaPFnExactObjectOkx7
import Derived.Test.YtbbngeooodcbcaaPFnExactObjectOkx10
namespace Go.Proofs.Ytbbngeooodcbcaa.PFnExactObjectOk
open Go.RowKit Go.Proofs.Ytbbngeooodcbcaa.Z Go.Proofs.YtbbngeooodcbcaaW.PrintWords Go.Proofs.YtbbngeooodcbcaaW.PrintLast Go.Proofs.YtbbngeooodcbcaaW.PrintMore
attribute [local go_sem] max2_int min2_int max_two min_two max_three min_three max_four min_four   -- for this text's walks alone
set_option linter.unusedVariables false
set_option linter.unusedSimpArgs false

/-! ### impl_ObjectOk: function 7 -/
mutual
def impl_ObjectOk.j0 : Nat → Bool → List (S43) → List (S45) → List (List (S74)) → Option (Bool)
  | 0, _, _, _, _ => none
  | k + 1, x20, x285000, x285001, x285002 => if x20 = true then (some false) else (impl_ObjectOk.l0 k x285001 (x285001.length : Int) 0 x285000 x285001 x285002)
def impl_ObjectOk.l0 : Nat → List (S45) → Int → Int → List (S43) → List (S45) → List (List (S74)) → Option (Bool)
  | 0, _, _, _, _, _, _ => none
  | k + 1, x22, x23, x24, x285000, x285001, x285002 => if x24 < x23 then (if 0 ≤ x24 then (if x24 < (x22.length : Int) then ((impl_isSymbol.f k x285000 x285001 x285002 ((rd_T45 x22 x24).f0) ((rd_T45 x22 x24).f1) ((rd_T45 x22 x24).f2) ((rd_T45 x22 x24).f3)).bind fun t287 => (if t287 = true then (if x24 > 0 then (if 0 ≤ (wrap64 (x24 - 1)) then (if (wrap64 (x24 - 1)) < (x285001.length : Int) then (if ((Op.bytesLess (((rd_T45 x285001 (wrap64 (x24 - 1))).f0).toList) (((rd_T45 x22 x24).f0).toList)) = true) then (impl_ObjectOk.l0 k x22 x23 (wrap64 (x24 + 1)) x285000 x285001 x285002) else (some false)) else (none)) else (none)) else (impl_ObjectOk.l0 k x22 x23 (wrap64 (x24 + 1)) x285000 x285001 x285002)) else (some false))) else (none)) else (none)) else ((impl_Section.f k x285000 ()).bind fun t289 => (if t289 = true then (some false) else ((impl_ENode.f k x285002 ()).bind fun t290 => (some (!t290)))))
end
def impl_ObjectOk.f (k : Nat) (l0_0 : List (S43)) (l0_1 : List (S45)) (l0_2 : List (List (S74))) : Option (Bool) := if (l0_0.length : Int) > 12 then (impl_ObjectOk.j0 k true l0_0 l0_1 l0_2) else (if (l0_1.length : Int) > 200 then (impl_ObjectOk.j0 k true l0_0 l0_1 l0_2) else (impl_ObjectOk.j0 k (decide ((l0_2.length : Int) > 12)) l0_0 l0_1 l0_2))
theorem impl_ObjectOk.mono_l : ∀ k, (∀ y0 y1 y2 y3, LeO (impl_ObjectOk.j0 k y0 y1 y2 y3) (impl_ObjectOk.j0 (k + 1) y0 y1 y2 y3)) ∧ (∀ y0 y1 y2 y3 y4 y5, LeO (impl_ObjectOk.l0 k y0 y1 y2 y3 y4 y5) (impl_ObjectOk.l0 (k + 1) y0 y1 y2 y3 y4 y5))
  | 0 => ⟨fun _ _ _ _ r h => by simp [impl_ObjectOk.j0] at h, fun _ _ _ _ _ _ r h => by simp [impl_ObjectOk.l0] at h⟩
  | k + 1 => by
    obtain ⟨ih0, ih1⟩ := impl_ObjectOk.mono_l k
    refine ⟨?_, ?_⟩
    · intro y0 y1 y2 y3
      unfold impl_ObjectOk.j0
      repeat' first
      | (with_reducible exact ih0 _ _ _ _)
      | (with_reducible exact ih1 _ _ _ _ _ _)
      | (with_reducible exact impl_ENode.mono _ _ _)
      | (with_reducible exact impl_Section.mono _ _ _)
      | (with_reducible exact impl_isSymbol.mono _ _ _ _ _ _ _ _)
      | (with_reducible exact LeO.refl _)
      | (with_reducible exact LeO.none _)
      | (with_reducible refine LeO.ite ?_ ?_)
      | (with_reducible refine LeO.bind ?_ (fun _ => ?_))
      | exact ih0 _ _ _ _
      | exact ih1 _ _ _ _ _ _
      | exact impl_ENode.mono _ _ _
      | exact impl_Section.mono _ _ _
      | exact impl_isSymbol.mono _ _ _ _ _ _ _ _
      | exact LeO.none _
      | refine LeO.ite ?_ ?_
      | refine LeO.bind ?_ (fun _ => ?_)
    · intro y0 y1 y2 y3 y4 y5
      unfold impl_ObjectOk.l0
      repeat' first
      | (with_reducible exact ih0 _ _ _ _)
      | (with_reducible exact ih1 _ _ _ _ _ _)
      | (with_reducible exact impl_ENode.mono _ _ _)
      | (with_reducible exact impl_Section.mono _ _ _)
      | (with_reducible exact impl_isSymbol.mono _ _ _ _ _ _ _ _)
      | (with_reducible exact LeO.refl _)
      | (with_reducible exact LeO.none _)
      | (with_reducible refine LeO.ite ?_ ?_)
      | (with_reducible refine LeO.bind ?_ (fun _ => ?_))
      | exact ih0 _ _ _ _
      | exact ih1 _ _ _ _ _ _
      | exact impl_ENode.mono _ _ _
      | exact impl_Section.mono _ _ _
      | exact impl_isSymbol.mono _ _ _ _ _ _ _ _
      | exact LeO.none _
      | refine LeO.ite ?_ ?_
      | refine LeO.bind ?_ (fun _ => ?_)
theorem impl_ObjectOk.mono : ∀ a0 a1 a2 k, LeO (impl_ObjectOk.f k a0 a1 a2) (impl_ObjectOk.f (k + 1) a0 a1 a2) := by
  intro a0 a1 a2 k
  obtain ⟨ih0, ih1⟩ := impl_ObjectOk.mono_l k
  unfold impl_ObjectOk.f
  repeat' first
      | (with_reducible exact ih0 _ _ _ _)
      | (with_reducible exact ih1 _ _ _ _ _ _)
      | (with_reducible exact impl_ENode.mono _ _ _)
      | (with_reducible exact impl_Section.mono _ _ _)
      | (with_reducible exact impl_isSymbol.mono _ _ _ _ _ _ _ _)
      | (with_reducible exact LeO.refl _)
      | (with_reducible exact LeO.none _)
      | (with_reducible refine LeO.ite ?_ ?_)
      | (with_reducible refine LeO.bind ?_ (fun _ => ?_))
      | exact ih0 _ _ _ _
      | exact ih1 _ _ _ _ _ _
      | exact impl_ENode.mono _ _ _
      | exact impl_Section.mono _ _ _
      | exact impl_isSymbol.mono _ _ _ _ _ _ _ _
      | exact LeO.none _
      | refine LeO.ite ?_ ?_
      | refine LeO.bind ?_ (fun _ => ?_)
def impl_ObjectOk.T6 : Bool × List (List Nat × List Nat) := (true, [([], []), ([], []), ([0, 1], [0, 1]), ([2], [2]), ([3, 2], [3]), ([4], [4]), ([5, 4], [4, 5]), ([6, 4, 4], [4, 6]), ([7], [7]), ([8, 7], [7, 8]), ([7], [7]), ([10, 7], [7, 10]), ([7], [7]), ([12, 7], [7, 12]), ([11, 13, 7], [7, 11, 13]), ([14, 7], [7, 14]), ([15, 7], [7, 15]), ([9, 16, 7], [7, 9, 16]), ([7, 17, 4], [4, 7, 17]), ([4, 18], [4, 18])])
def impl_ObjectOk.B6 : List Nat := [0, 0, 3, 7, 15, 31, 63, 127, 255, 511, 255, 1279, 255, 4351, 15615, 31999, 64767, 131071, 262143, 524287]
theorem impl_ObjectOk.tab6 : rtab .any (opsOf Try.f7 6) = impl_ObjectOk.T6 := by kernel_rfl
theorem impl_ObjectOk.bits6 : waitsOk impl_ObjectOk.T6.2 impl_ObjectOk.B6 = true := by kernel_rfl
set_option maxHeartbeats 8000000 in
set_option maxRecDepth 100000 in
theorem impl_ObjectOk.calls (k : Nat) (A0_0 : Option Addr) (c0_0 : Nat) (l0_0 : List (S43)) (A0_1 : Option Addr) (c0_1 : Nat) (l0_1 : List (S45)) (A0_2 : Option Addr) (c0_2 : Nat) (l0_2 : List (List (S74))) (r : Bool) (w : World) (hr0_0 : Kd.C k43 w A0_0 l0_0.length l0_0) (hc0_0 : l0_0.length ≤ c0_0) (hr0_1 : Kd.C k45 w A0_1 l0_1.length l0_1) (hc0_1 : l0_1.length ≤ c0_1) (hr0_2 : Kd.C (Kd.slice 74 k74) w A0_2 l0_2.length l0_2) (hc0_2 : l0_2.length ≤ c0_2) (h : impl_ObjectOk.f k l0_0 l0_1 l0_2 = some r) :
 Calls Try.prog 7 #[.agg #[.slice A0_0 l0_0.length c0_0, .slice A0_1 l0_1.length c0_1, .slice A0_2 l0_2.length c0_2]] w fun e w' => e = .returned (.bool r) ∧ Below w.heap.size w w' := by
 have hu33 := Try.underlying33
 have hu45 := Try.underlying45
 have HR0_0 := Aside0.mk hr0_0
 have HC0_0 := Aside0.mk hc0_0
 clear hr0_0 hc0_0
 have HR0_1 := Aside0.mk hr0_1
 have HC0_1 := Aside0.mk hc0_1
 clear hr0_1 hc0_1
 have HR0_2 := Aside0.mk hr0_2
 have HC0_2 := Aside0.mk hc0_2
 clear hr0_2 hc0_2
 have HB := Aside0.mk (Below.refl w.heap.size w)
 have H : (if (l0_0.length : Int) > 12 then (impl_ObjectOk.j0 k true l0_0 l0_1 l0_2) else (if (l0_1.length : Int) > 200 then (impl_ObjectOk.j0 k true l0_0 l0_1 l0_2) else (impl_ObjectOk.j0 k (decide ((l0_2.length : Int) > 12)) l0_0 l0_1 l0_2))) = some r := h
 clear h
 have HC2 := Aside0.mk H
 clear H
 go_enter Try.func7, Try.ntmps7
 go_upto_region 1 with (first | ((with_reducible refine gate_dst (N := 1) rfl ?_); (try (refine gate_guard (by rfl) ?_; dsimp only)); refine zbx 1 #[.slice A0_0 l0_0.length c0_0, .slice A0_1 l0_1.length c0_1, .slice A0_2 l0_2.length c0_2] 33 ?_; intro gb284 hg w3 hbox hb; have BK284 := Aside0.mk (hbox); have GW284 := zs w hg; have GE284 := GW284; replace HB := zt w hb; clear hb hbox hg))
 (try simp only [Act.put, List.setIfInBounds_toArray, List.set_cons_zero, List.set_cons_succ])
 go_cut [20] (fun v20 wc => ∃ (kq : Nat) (x20_1 : Bool), v20 = .bool x20_1 ∧ Aside0 (impl_ObjectOk.j0 kq x20_1 l0_0 l0_1 l0_2 = some r) ∧ Aside0 (kq ≤ k) ∧ Aside0 (wc.heap[gb284]? = some (.cells #[(.slice A0_0 l0_0.length c0_0), (.slice A0_1 l0_1.length c0_1), (.slice A0_2 l0_2.length c0_2)] 33 (0, 0))) ∧ Aside0 (Below w.heap.size w wc))
 case first =>
  have H := HC2.out
  clear HC2
  by_cases c4 : (l0_0.length : Int) > 12
  ·rw [if_pos c4] at H
   have c4b0 : decide (12 < (l0_0.length : Int)) = true := decide_eq_true c4
   have c4b1 : decide (12 < l0_0.length) = true := decide_eq_true (by omega)
   clear c4
   (first | rw [c4b0] | (simp only [i64_w, i32_w]; rw [c4b0]) | skip)
   have H' := Aside0.mk H
   clear H
   have hcz5_0 := zc0 BK284
   have hcz5_1 := zc1 BK284
   have hcz5_2 := zc2 BK284
   have hfz5_0 := blk_frozen BK284.out 0
   have hfz5_1 := blk_frozen BK284.out 1
   have hfz5_2 := blk_frozen BK284.out 2
   go_wp2
   go_meet
   case rel => exact ⟨_, (true), (zE _), H', ⟨by first | omega | exact Nat.le_refl _⟩, ⟨by (with_reducible repeat (first | refine blk_drewN ?_ _ | refine blk_drew ?_ | refine blk_alloc ?_ _)); exact BK284.out⟩, ⟨zb _⟩⟩
  ·rw [if_neg c4] at H
   have c4b0 : decide (12 < (l0_0.length : Int)) = false := decide_eq_false c4
   have c4b1 : decide (12 < l0_0.length) = false := decide_eq_false (by omega)
   clear c4
   (first | rw [c4b0] | (simp only [i64_w, i32_w]; rw [c4b0]) | skip)
   by_cases c6 : (l0_1.length : Int) > 200
   ·rw [if_pos c6] at H
    have c6b0 : decide (200 < (l0_1.length : Int)) = true := decide_eq_true c6
    have c6b1 : decide (200 < l0_1.length) = true := decide_eq_true (by omega)
    clear c6
    have H' := Aside0.mk H
    clear H
    have hcz7_0 := zc0 BK284
    have hcz7_1 := zc1 BK284
    have hcz7_2 := zc2 BK284
    have hfz7_0 := blk_frozen BK284.out 0
    have hfz7_1 := blk_frozen BK284.out 1
    have hfz7_2 := blk_frozen BK284.out 2
    go_wp2
    go_meet
    case rel => exact ⟨_, (true), (zE _), H', ⟨by first | omega | exact Nat.le_refl _⟩, ⟨by (with_reducible repeat (first | refine blk_drewN ?_ _ | refine blk_drew ?_ | refine blk_alloc ?_ _)); exact BK284.out⟩, ⟨zb _⟩⟩
   ·rw [if_neg c6] at H
    have c6b0 : decide (200 < (l0_1.length : Int)) = false := decide_eq_false c6
    have c6b1 : decide (200 < l0_1.length) = false := decide_eq_false (by omega)
    clear c6
    have H' := Aside0.mk H
    clear H
    have hcz8_0 := zc0 BK284
    have hcz8_1 := zc1 BK284
    have hcz8_2 := zc2 BK284
    have hfz8_0 := blk_frozen BK284.out 0
    have hfz8_1 := blk_frozen BK284.out 1
    have hfz8_2 := blk_frozen BK284.out 2
    go_wp2
    go_meet
    case rel => exact ⟨_, (decide ((l0_2.length : Int) > 12)), (zE _), H', ⟨by first | omega | exact Nat.le_refl _⟩, ⟨by (with_reducible repeat (first | refine blk_drewN ?_ _ | refine blk_drew ?_ | refine blk_alloc ?_ _)); exact BK284.out⟩, ⟨zb _⟩⟩
 case rest =>
  clear HC2
  try clear p2
  try clear c4
  try clear c4b0
  try clear c4b1
  try clear c6
  try clear c6b0
  try clear c6b1
  try clear c7
  try clear hcz5_0
  try clear hcz5_1
  try clear hcz5_2
  try clear hcz7_0
  try clear hcz7_1
  try clear hcz7_2
  try clear hcz8_0
  try clear hcz8_1
  try clear hcz8_2
  try clear hfz5_0
  try clear hfz5_1
  try clear hfz5_2
  try clear hfz7_0
  try clear hfz7_1
  try clear hfz7_2
  try clear hfz8_0
  try clear hfz8_1
  try clear hfz8_2
  obtain ⟨kq, x20_1, rfl, HA, HJ1, BK284, HB⟩ := hcut
  cases kq with
  | zero => exact absurd HA.out (by simp [impl_ObjectOk.j0])
  | succ kj1 =>
   have H := HA.out
   clear HA
   simp only [impl_ObjectOk.j0] at H
   by_cases c9 : x20_1 = true
   ·subst c9
    rw [if_pos rfl] at H
    obtain rfl := Option.some.inj H
    go_wp2
    go_ret
    exact ⟨ze _, zb _⟩
   ·replace c9 := Bool.eq_false_iff.mpr c9
    subst c9
    rw [if_neg (show ¬ (false = true) by decide)] at H
    have H' := Aside0.mk H
    clear H
    have hcz10_0 := zc0 BK284
    have hcz10_1 := zc1 BK284
    have hcz10_2 := zc2 BK284
    have hfz10_0 := blk_frozen BK284.out 0
    have hfz10_1 := blk_frozen BK284.out 1
    have hfz10_2 := blk_frozen BK284.out 2
    go_wp2
    go_loopg [24] kj1 (fun kq v24 w' => ∃ (x24_2 : Int), v24 = .int .i64 x24_2 ∧ Aside0 (impl_ObjectOk.l0 kq l0_1 (l0_1.length : Int) x24_2 l0_0 l0_1 l0_2 = some r) ∧ Aside0 (kq ≤ kj1) ∧ Aside0 (w'.heap[gb284]? = some (.cells #[(.slice A0_0 l0_0.length c0_0), (.slice A0_1 l0_1.length c0_1), (.slice A0_2 l0_2.length c0_2)] 33 (0, 0))) ∧ Aside0 (Below w.heap.size w w'))
    case atStart => exact ⟨(0), (zE _), H', ⟨Nat.le_refl _⟩, ⟨by (with_reducible repeat (first | refine blk_drewN ?_ _ | refine blk_drew ?_ | refine blk_alloc ?_ _)); exact BK284.out⟩, ⟨zb _⟩⟩
    case round =>
     clear H'
     try clear p2
     try clear c4
     try clear c4b0
     try clear c4b1
     try clear c6
     try clear c6b0
     try clear c6b1
     try clear c7
     try clear c9
     try clear hcz10_0
     try clear hcz10_1
     try clear hcz10_2
     try clear hcz5_0
     try clear hcz5_1
     try clear hcz5_2
     try clear hcz7_0
     try clear hcz7_1
     try clear hcz7_2
     try clear hcz8_0
     try clear hcz8_1
     try clear hcz8_2
     try clear hfz10_0
     try clear hfz10_1
     try clear hfz10_2
     try clear hfz5_0
     try clear hfz5_1
     try clear hfz5_2
     try clear hfz7_0
     try clear hfz7_1
     try clear hfz7_2
     try clear hfz8_0
     try clear hfz8_1
     try clear hfz8_2
     try clear p2
     obtain ⟨x24_2, rfl, HA, HK2, BK284, HB⟩ := hrel
     cases gk with
     | zero => exact absurd HA.out (by simp [impl_ObjectOk.l0])
     | succ k2 =>
      have H := HA.out
      clear HA
      simp only [impl_ObjectOk.l0] at H
      by_cases c11 : x24_2 < (l0_1.length : Int)
      ·rw [if_pos c11] at H
       have c11b0 : decide (x24_2 < (l0_1.length : Int)) = true := decide_eq_true c11
       clear c11
       by_cases c12 : 0 ≤ x24_2
       ·rw [if_pos c12] at H
        have c12b0 : decide (0 ≤ x24_2) = true := decide_eq_true c12
        clear c12
        by_cases c13 : x24_2 < (l0_1.length : Int)
        ·rw [if_pos c13] at H
         have c13b0 : decide (x24_2 < (l0_1.length : Int)) = true := decide_eq_true c13
         clear c13
         obtain ⟨t287, A140, H⟩ := Option.bind_eq_some_iff.mp H
         have A14 := Aside0.mk A140
         clear A140
         by_cases c15 : t287 = true
         ·subst c15
          rw [if_pos rfl] at H
          by_cases c16 : x24_2 > 0
          ·rw [if_pos c16] at H
           have c16b0 : decide (0 < x24_2) = true := decide_eq_true c16
           clear c16
           obtain ⟨ji17, hji17⟩ : ∃ j_ : Int, (wrap64 (x24_2 - 1)) = j_ := ⟨_, rfl⟩
           replace H : (if 0 ≤ (ji17) then (if (ji17) < (l0_1.length : Int) then (if ((Op.bytesLess (((rd_T45 l0_1 (ji17)).f0).toList) (((rd_T45 l0_1 x24_2).f0).toList)) = true) then (impl_ObjectOk.l0 k2 l0_1 (l0_1.length : Int) (wrap64 (x24_2 + 1)) l0_0 l0_1 l0_2) else (some false)) else (none)) else (none)) = some r := by first | (rw [hji17] at H; exact H) | (simp only [hji17] at H ⊢; exact H)
           (try rw [hji17] at A14)
           have hji17w : (IntKind.i64.wrap (x24_2 - 1)) = ji17 := (i64_w _).trans hji17
           by_cases c18 : 0 ≤ (ji17)
           ·rw [if_pos c18] at H
            have c18b0 : decide (0 ≤ (ji17)) = true := decide_eq_true c18
            clear c18
            by_cases c19 : (ji17) < (l0_1.length : Int)
            ·rw [if_pos c19] at H
             have c19b0 : decide ((ji17) < (l0_1.length : Int)) = true := decide_eq_true c19
             clear c19
             by_cases c20 : ((Op.bytesLess (((rd_T45 l0_1 (ji17)).f0).toList) (((rd_T45 l0_1 x24_2).f0).toList)) = true)
             ·rw [if_pos c20] at H
              have c20b0 : (Op.bytesLess (((rd_T45 l0_1 (ji17)).f0).toList) (((rd_T45 l0_1 x24_2).f0).toList)) = true := c20
              have hleq_ : ∀ W_ : World, (binOp BinOp.leq 9 (.string ((rd_T45 l0_1 x24_2).f0)) (.string ((rd_T45 l0_1 (ji17)).f0))).run Try.prog W_ = .ok (.bool (!true)) W_ := fun W_ => by rw [impl_isSymbol.leqS, c20b0]
              clear c20
              have H' := Aside0.mk H
              clear H
              have p285 : 0 ≤ (x24_2 : Int) := of_decide_eq_true (za _)
              have q285 : x24_2 < (l0_1.length : Int) := of_decide_eq_true (za _)
              obtain ⟨ad285, e285, hx285_0, hx285_1, hx285_2, hx285_3⟩ := at_T45 HR0_1.out x24_2 p285 q285
              cases e285
              replace hx285_0 := (HB.out.cell (World.block_lt_of_cell? w _ hx285_0)).trans hx285_0
              replace hx285_1 := (HB.out.cell (World.block_lt_of_cell? w _ hx285_1)).trans hx285_1
              replace hx285_2 := (HB.out.cell (World.block_lt_of_cell? w _ hx285_2)).trans hx285_2
              replace hx285_3 := (HB.out.cell (World.block_lt_of_cell? w _ hx285_3)).trans hx285_3
              replace p285 := eq_true p285
              replace q285 := eq_true q285
              try go_wp2_with (first | ((with_reducible refine gate_dst (N := 4) rfl ?_); (try (refine gate_guard (by rfl) ?_; dsimp only)); refine zbx 4 #[.string (⟨#[]⟩ : ByteArray), .int .i64 0, .int .i64 0, .bool false] 45 ?_; intro gb286 hg w21 hbox hb; have BK286 := Aside0.mk (hbox); have GW286 := zs w hg; have GE286 := GW286; have NB284_286 := zlt BK284 hg; have NB286_284 := zgt (zlt BK284 hg); replace BK284 := zk BK284 hb; replace HB := zt w hb; clear hb hbox hg; have hnb22 := NB286_284.out; have hnc22 := NB284_286.out; have hcz23_0 := zc0 BK286; have hcz23_1 := zc1 BK286; have hcz23_2 := zc2 BK286; have hcz23_3 := zc3 BK286; have hfz23_0 := blk_frozen BK286.out 0; have hfz23_1 := blk_frozen BK286.out 1; have hfz23_2 := blk_frozen BK286.out 2; have hfz23_3 := blk_frozen BK286.out 3))
              have n0_ : Aside0 (((((w21.setCell ⟨gb286, 0, none⟩ (.string ((rd_T45 l0_1 x24_2).f0))).setCell ⟨gb286, 1, none⟩ (.int .i64 ((rd_T45 l0_1 x24_2).f1))).setCell ⟨gb286, 2, none⟩ (.int .i64 ((rd_T45 l0_1 x24_2).f2))).setCell ⟨gb286, 3, none⟩ (.bool ((rd_T45 l0_1 x24_2).f3))).heap[gb284]? = some (.cells #[.slice A0_0 l0_0.length c0_0, .slice (some ad285) l0_1.length c0_1, .slice A0_2 l0_2.length c0_2] 33 (0, 0))) := ⟨by (with_reducible repeat (first | refine blk_drewN ?_ _ | refine blk_drew ?_ | refine blk_alloc ?_ _)); refine blk_far ?_ NB284_286.out _; (with_reducible repeat (first | refine blk_drewN ?_ _ | refine blk_drew ?_ | refine blk_alloc ?_ _)); refine blk_far ?_ NB284_286.out _; (with_reducible repeat (first | refine blk_drewN ?_ _ | refine blk_drew ?_ | refine blk_alloc ?_ _)); refine blk_far ?_ NB284_286.out _; (with_reducible repeat (first | refine blk_drewN ?_ _ | refine blk_drew ?_ | refine blk_alloc ?_ _)); refine blk_far ?_ NB284_286.out _; (with_reducible repeat (first | refine blk_drewN ?_ _ | refine blk_drew ?_ | refine blk_alloc ?_ _)); exact BK284.out⟩
              have n1_ : Aside0 (((((w21.setCell ⟨gb286, 0, none⟩ (.string ((rd_T45 l0_1 x24_2).f0))).setCell ⟨gb286, 1, none⟩ (.int .i64 ((rd_T45 l0_1 x24_2).f1))).setCell ⟨gb286, 2, none⟩ (.int .i64 ((rd_T45 l0_1 x24_2).f2))).setCell ⟨gb286, 3, none⟩ (.bool ((rd_T45 l0_1 x24_2).f3))).heap[gb286]? = some (.cells #[.string ((rd_T45 l0_1 x24_2).f0), .int .i64 ((rd_T45 l0_1 x24_2).f1), .int .i64 ((rd_T45 l0_1 x24_2).f2), .bool ((rd_T45 l0_1 x24_2).f3)] 45 (0, 0))) := ⟨by (with_reducible repeat (first | refine blk_drewN ?_ _ | refine blk_drew ?_ | refine blk_alloc ?_ _)); refine blk_put (cs := #[.string ((rd_T45 l0_1 x24_2).f0), .int .i64 ((rd_T45 l0_1 x24_2).f1), .int .i64 ((rd_T45 l0_1 x24_2).f2), .bool false]) ?_ 3 _ rfl; (with_reducible repeat (first | refine blk_drewN ?_ _ | refine blk_drew ?_ | refine blk_alloc ?_ _)); refine blk_put (cs := #[.string ((rd_T45 l0_1 x24_2).f0), .int .i64 ((rd_T45 l0_1 x24_2).f1), .int .i64 0, .bool false]) ?_ 2 _ rfl; (with_reducible repeat (first | refine blk_drewN ?_ _ | refine blk_drew ?_ | refine blk_alloc ?_ _)); refine blk_put (cs := #[.string ((rd_T45 l0_1 x24_2).f0), .int .i64 0, .int .i64 0, .bool false]) ?_ 1 _ rfl; (with_reducible repeat (first | refine blk_drewN ?_ _ | refine blk_drew ?_ | refine blk_alloc ?_ _)); refine blk_put (cs := #[.string (⟨#[]⟩ : ByteArray), .int .i64 0, .int .i64 0, .bool false]) ?_ 0 _ rfl; (with_reducible repeat (first | refine blk_drewN ?_ _ | refine blk_drew ?_ | refine blk_alloc ?_ _)); exact BK286.out⟩
              have n2_ : Aside0 (Below w.heap.size w ((((w21.setCell ⟨gb286, 0, none⟩ (.string ((rd_T45 l0_1 x24_2).f0))).setCell ⟨gb286, 1, none⟩ (.int .i64 ((rd_T45 l0_1 x24_2).f1))).setCell ⟨gb286, 2, none⟩ (.int .i64 ((rd_T45 l0_1 x24_2).f2))).setCell ⟨gb286, 3, none⟩ (.bool ((rd_T45 l0_1 x24_2).f3)))) := ⟨zb _⟩
              (try clear BK284)
              (try clear BK286)
              (try clear HB)
              generalize ((((w21.setCell ⟨gb286, 0, none⟩ (.string ((rd_T45 l0_1 x24_2).f0))).setCell ⟨gb286, 1, none⟩ (.int .i64 ((rd_T45 l0_1 x24_2).f1))).setCell ⟨gb286, 2, none⟩ (.int .i64 ((rd_T45 l0_1 x24_2).f2))).setCell ⟨gb286, 3, none⟩ (.bool ((rd_T45 l0_1 x24_2).f3))) = w24 at n0_ n1_ n2_ ⊢
              have BK284 := n0_
              have BK286 := n1_
              have HB := n2_
              clear n0_ n1_ n2_
              have n0_ := Aside0.mk (blk_drew BK284.out)
              have n1_ := Aside0.mk (blk_drew BK286.out)
              have n2_ := Aside0.mk (below_drew1 HB.out)
              clear BK284
              clear BK286
              clear HB
              have BK284 := n0_
              have BK286 := n1_
              have HB := n2_
              clear n0_ n1_ n2_
              have p288 : 0 ≤ ((ji17) : Int) := of_decide_eq_true (za _)
              have q288 : (ji17) < (l0_1.length : Int) := of_decide_eq_true (za _)
              obtain ⟨ad288, e288, hx288_0, hx288_1, hx288_2, hx288_3⟩ := at_T45 HR0_1.out (ji17) p288 q288
              have hw288_3 := hx288_3
              have hw288_2 := hx288_2
              have hw288_1 := hx288_1
              have hw288_0 := hx288_0
              obtain rfl : ad285 = ad288 := (by injection e288)
              replace hx288_0 := (HB.out.cell (World.block_lt_of_cell? w _ hx288_0)).trans hx288_0
              replace hx288_1 := (HB.out.cell (World.block_lt_of_cell? w _ hx288_1)).trans hx288_1
              replace hx288_2 := (HB.out.cell (World.block_lt_of_cell? w _ hx288_2)).trans hx288_2
              replace hx288_3 := (HB.out.cell (World.block_lt_of_cell? w _ hx288_3)).trans hx288_3
              replace p288 := eq_true p288
              replace q288 := eq_true q288
              refine start_ (n := 20) (S := fun w' => w'.cell? ⟨gb284, 0, none⟩ = some (.slice A0_0 l0_0.length c0_0) ∧ w'.cell? ⟨gb284, 1, none⟩ = some (.slice (some ad285) l0_1.length c0_1) ∧ w'.cell? ⟨gb284, 2, none⟩ = some (.slice A0_2 l0_2.length c0_2) ∧ w'.cell? ⟨gb286, 0, none⟩ = some (.string ((rd_T45 l0_1 x24_2).f0)) ∧ w'.cell? ⟨gb286, 1, none⟩ = some (.int .i64 ((rd_T45 l0_1 x24_2).f1)) ∧ w'.cell? ⟨gb286, 2, none⟩ = some (.int .i64 ((rd_T45 l0_1 x24_2).f2)) ∧ w'.cell? ⟨gb286, 3, none⟩ = some (.bool ((rd_T45 l0_1 x24_2).f3)) ∧ w'.cell? (ad285.add (((ji17)).toNat * 4)) = some (.string ((rd_T45 l0_1 (ji17)).f0)) ∧ w'.cell? ⟨(ad285.add (((ji17)).toNat * 4)).block, (ad285.add (((ji17)).toNat * 4)).off + 1, none⟩ = some (.int .i64 ((rd_T45 l0_1 (ji17)).f1)) ∧ w'.cell? ⟨(ad285.add (((ji17)).toNat * 4)).block, (ad285.add (((ji17)).toNat * 4)).off + 2, none⟩ = some (.int .i64 ((rd_T45 l0_1 (ji17)).f2)) ∧ w'.cell? ⟨(ad285.add (((ji17)).toNat * 4)).block, (ad285.add (((ji17)).toNat * 4)).off + 3, none⟩ = some (.bool ((rd_T45 l0_1 (ji17)).f3))) (ds := []) (zm 20 0) (by kernel_rfl) rfl rfl ⟨(blk_cell BK284.out 0).trans rfl, (blk_cell BK284.out 1).trans rfl, (blk_cell BK284.out 2).trans rfl, (blk_cell BK286.out 0).trans rfl, (blk_cell BK286.out 1).trans rfl, (blk_cell BK286.out 2).trans rfl, (blk_cell BK286.out 3).trans rfl, ((HB.out.cell (World.block_lt_of_cell? w _ hw288_0)).trans hw288_0), ((HB.out.cell (World.block_lt_of_cell? w _ hw288_1)).trans hw288_1), ((HB.out.cell (World.block_lt_of_cell? w _ hw288_2)).trans hw288_2), ((HB.out.cell (World.block_lt_of_cell? w _ hw288_3)).trans hw288_3)⟩ (fun hHeld => ?_); refine with_tabW impl_ObjectOk.tab6 impl_ObjectOk.bits6 (fun HT_ HW_ => ?_)
              generalize w24.drew = w25 at BK284 BK286 HB hx288_0 hx288_1 hx288_2 hx288_3 hHeld ⊢
              refine take_ (i := 0) (N := some 29) (v := ?_) (a' := ?_) (zm 20 1) rfl rfl (take_ofW HT_.out HW_.out (by kernel_rfl)) (fun _ _ _ h => h) (Or.inl ⟨by rfl, ?_⟩) hHeld ?_ ?_
              rotate_left
              ·rintro w' ⟨s0, s1, s2, s3, s4, s5, s6, s7, s8, s9, s10⟩
               go_simp
               with_reducible rfl
              rotate_left
              ·simp only [Act.put, List.setIfInBounds_toArray, List.set_cons_zero, List.set_cons_succ, i64_w, i32_w]
               rfl
              refine take_ (i := 1) (N := some 30) (v := ?_) (a' := ?_) (zm 20 3) rfl rfl (take_ofW HT_.out HW_.out (by kernel_rfl)) (fun _ _ _ h => h) (Or.inl ⟨by rfl, ?_⟩) hHeld ?_ ?_
              rotate_left
              ·rintro w' ⟨s0, s1, s2, s3, s4, s5, s6, s7, s8, s9, s10⟩
               go_simp
               with_reducible rfl
              rotate_left
              ·simp only [Act.put, List.setIfInBounds_toArray, List.set_cons_zero, List.set_cons_succ, i64_w, i32_w]
               rfl
              refine one_ (i := 2) (N := some 31) (zm 20 7) rfl rfl (one_of HT_.out (by kernel_rfl)) (by decide) (fun K hK => ?_)
              refine zi Try.func19 #[.agg #[.slice A0_0 l0_0.length c0_0, .slice (some ad285) l0_1.length c0_1, .slice A0_2 l0_2.length c0_2], .agg #[.string ((rd_T45 l0_1 x24_2).f0), .int .i64 ((rd_T45 l0_1 x24_2).f1), .int .i64 ((rd_T45 l0_1 x24_2).f2), .bool ((rd_T45 l0_1 x24_2).f3)]] ?_
              with_reducible refine (impl_isSymbol.calls k2 _ _ l0_0 _ _ l0_1 _ _ l0_2 ((rd_T45 l0_1 x24_2).f0) ((rd_T45 l0_1 x24_2).f1) ((rd_T45 l0_1 x24_2).f2) ((rd_T45 l0_1 x24_2).f3) true _ ?side1 ?side2 ?side3 ?side4 ?side5 ?side6 A14.out).mono ?_
              (case side1 => repeat (first | exact (Kd.C_below HR0_0.out HB.out) | (with_reducible refine Kd.C_alloc ?_ _) | (with_reducible refine Kd.C_drewN ?_ _) | (with_reducible refine Kd.C_drew ?_)))
              (case side2 => exact HC0_0.out)
              (case side3 => repeat (first | exact (Kd.C_below HR0_1.out HB.out) | (with_reducible refine Kd.C_alloc ?_ _) | (with_reducible refine Kd.C_drewN ?_ _) | (with_reducible refine Kd.C_drew ?_)))
              (case side4 => exact HC0_1.out)
              (case side5 => repeat (first | exact (Kd.C_below HR0_2.out HB.out) | (with_reducible refine Kd.C_alloc ?_ _) | (with_reducible refine Kd.C_drewN ?_ _) | (with_reducible refine Kd.C_drew ?_)))
              (case side6 => exact HC0_2.out)
              rintro e w26 ⟨rfl, hb⟩
              refine ⟨_, rfl, ?_⟩
              have n0_ := zk BK284 hb
              have n1_ := zk BK286 hb
              have n2_ := zt w hb
              clear BK284
              clear BK286
              clear HB
              have BK284 := n0_
              have BK286 := n1_
              have HB := n2_
              clear n0_ n1_ n2_
              (try clear hb)
              (try clear hb2)
              (try clear hk)
              (try clear hi)
              refine hK.out _ _ ⟨(blk_cell BK284.out 0).trans rfl, (blk_cell BK284.out 1).trans rfl, (blk_cell BK284.out 2).trans rfl, (blk_cell BK286.out 0).trans rfl, (blk_cell BK286.out 1).trans rfl, (blk_cell BK286.out 2).trans rfl, (blk_cell BK286.out 3).trans rfl, ((HB.out.cell (World.block_lt_of_cell? w _ hw288_0)).trans hw288_0), ((HB.out.cell (World.block_lt_of_cell? w _ hw288_1)).trans hw288_1), ((HB.out.cell (World.block_lt_of_cell? w _ hw288_2)).trans hw288_2), ((HB.out.cell (World.block_lt_of_cell? w _ hw288_3)).trans hw288_3)⟩ (fun hHeld => ?_)
              clear hK K
              refine zq ?_
              refine zp 3 32 (zm 20 15) ?_
              refine zp 4 33 (zm 20 31) ?_
              refine zp 5 34 (zm 20 63) ?_
              refine zp 6 35 (zm 20 127) ?_
              refine zp 7 36 (zm 20 255) ?_
              refine zp 8 37 (zm 20 511) ?_
              refine zp 10 39 (zm 20 1535) ?_
              refine zp 12 41 (zm 20 5631) ?_
              refine zp 13 42 (zm 20 13823) ?_
              refine take_ (i := 9) (N := some 38) (v := ?_) (a' := ?_) (zm 20 14335) rfl rfl (take_ofW HT_.out HW_.out (by kernel_rfl)) (fun _ _ _ h => h) (Or.inl ⟨by rfl, ?_⟩) hHeld ?_ ?_
              rotate_left
              ·rintro w' ⟨s0, s1, s2, s3, s4, s5, s6, s7, s8, s9, s10⟩
               go_simp
               with_reducible rfl
              rotate_left
              ·simp only [Act.put, List.setIfInBounds_toArray, List.set_cons_zero, List.set_cons_succ, i64_w, i32_w]
               rfl
              refine take_ (i := 11) (N := some 40) (v := ?_) (a' := ?_) (zm 20 16383) rfl rfl (take_ofW HT_.out HW_.out (by kernel_rfl)) (fun _ _ _ h => h) (Or.inl ⟨by rfl, ?_⟩) hHeld ?_ ?_
              rotate_left
              ·rintro w' ⟨s0, s1, s2, s3, s4, s5, s6, s7, s8, s9, s10⟩
               go_simp
               with_reducible rfl
              rotate_left
              ·simp only [Act.put, List.setIfInBounds_toArray, List.set_cons_zero, List.set_cons_succ, i64_w, i32_w]
               rfl
              refine zp 14 43 (zm 20 32767) ?_
              refine zp 15 44 (zm 20 65535) ?_
              refine take_ (i := 16) (N := some 45) (v := ?_) (a' := ?_) (zm 20 131071) rfl rfl (take_ofW HT_.out HW_.out (by kernel_rfl)) (fun _ _ _ h => h) (Or.inl ⟨by rfl, ?_⟩) hHeld ?_ ?_
              rotate_left
              ·rintro w' ⟨s0, s1, s2, s3, s4, s5, s6, s7, s8, s9, s10⟩
               go_simp
               with_reducible rfl
              rotate_left
              ·simp only [Act.put, List.setIfInBounds_toArray, List.set_cons_zero, List.set_cons_succ, i64_w, i32_w]
               rfl
              refine zp 17 46 (zm 20 262143) ?_
              refine zp 18 47 (zm 20 524287) ?_
              refine zp 19 48 (zm 20 1048575) ?_
              refine done_ (done_of HT_.out (by kernel_rfl)) ?_
              try go_wp2
              go_roundg k2
              case measure => have := HJ1.out; have := HK2.out; omega
              case rel => exact ⟨(wrap64 (x24_2 + 1)), (zE _), H', ⟨by have := HJ1.out; have := HK2.out; omega⟩, ⟨by (with_reducible repeat (first | refine blk_drewN ?_ _ | refine blk_drew ?_ | refine blk_alloc ?_ _)); exact BK284.out⟩, ⟨zb _⟩⟩
             ·rw [if_neg c20] at H
              have c20b0 : (Op.bytesLess (((rd_T45 l0_1 (ji17)).f0).toList) (((rd_T45 l0_1 x24_2).f0).toList)) = false := by simpa using c20
              have hleq_ : ∀ W_ : World, (binOp BinOp.leq 9 (.string ((rd_T45 l0_1 x24_2).f0)) (.string ((rd_T45 l0_1 (ji17)).f0))).run Try.prog W_ = .ok (.bool (!false)) W_ := fun W_ => by rw [impl_isSymbol.leqS, c20b0]
              clear c20
              obtain rfl := Option.some.inj H
              have p285 : 0 ≤ (x24_2 : Int) := of_decide_eq_true (za _)
              have q285 : x24_2 < (l0_1.length : Int) := of_decide_eq_true (za _)
              obtain ⟨ad285, e285, hx285_0, hx285_1, hx285_2, hx285_3⟩ := at_T45 HR0_1.out x24_2 p285 q285
              cases e285
              replace hx285_0 := (HB.out.cell (World.block_lt_of_cell? w _ hx285_0)).trans hx285_0
              replace hx285_1 := (HB.out.cell (World.block_lt_of_cell? w _ hx285_1)).trans hx285_1
              replace hx285_2 := (HB.out.cell (World.block_lt_of_cell? w _ hx285_2)).trans hx285_2
              replace hx285_3 := (HB.out.cell (World.block_lt_of_cell? w _ hx285_3)).trans hx285_3
              replace p285 := eq_true p285
              replace q285 := eq_true q285
              try go_wp2_with (first | ((with_reducible refine gate_dst (N := 4) rfl ?_); (try (refine gate_guard (by rfl) ?_; dsimp only)); refine zbx 4 #[.string (⟨#[]⟩ : ByteArray), .int .i64 0, .int .i64 0, .bool false] 45 ?_; intro gb286 hg w27 hbox hb; have BK286 := Aside0.mk (hbox); have GW286 := zs w hg; have GE286 := GW286; have NB284_286 := zlt BK284 hg; have NB286_284 := zgt (zlt BK284 hg); replace BK284 := zk BK284 hb; replace HB := zt w hb; clear hb hbox hg; have hnb28 := NB286_284.out; have hnc28 := NB284_286.out; have hcz29_0 := zc0 BK286; have hcz29_1 := zc1 BK286; have hcz29_2 := zc2 BK286; have hcz29_3 := zc3 BK286; have hfz29_0 := blk_frozen BK286.out 0; have hfz29_1 := blk_frozen BK286.out 1; have hfz29_2 := blk_frozen BK286.out 2; have hfz29_3 := blk_frozen BK286.out 3))
              have n0_ : Aside0 (((((w27.setCell ⟨gb286, 0, none⟩ (.string ((rd_T45 l0_1 x24_2).f0))).setCell ⟨gb286, 1, none⟩ (.int .i64 ((rd_T45 l0_1 x24_2).f1))).setCell ⟨gb286, 2, none⟩ (.int .i64 ((rd_T45 l0_1 x24_2).f2))).setCell ⟨gb286, 3, none⟩ (.bool ((rd_T45 l0_1 x24_2).f3))).heap[gb284]? = some (.cells #[.slice A0_0 l0_0.length c0_0, .slice (some ad285) l0_1.length c0_1, .slice A0_2 l0_2.length c0_2] 33 (0, 0))) := ⟨by (with_reducible repeat (first | refine blk_drewN ?_ _ | refine blk_drew ?_ | refine blk_alloc ?_ _)); refine blk_far ?_ NB284_286.out _; (with_reducible repeat (first | refine blk_drewN ?_ _ | refine blk_drew ?_ | refine blk_alloc ?_ _)); refine blk_far ?_ NB284_286.out _; (with_reducible repeat (first | refine blk_drewN ?_ _ | refine blk_drew ?_ | refine blk_alloc ?_ _)); refine blk_far ?_ NB284_286.out _; (with_reducible repeat (first | refine blk_drewN ?_ _ | refine blk_drew ?_ | refine blk_alloc ?_ _)); refine blk_far ?_ NB284_286.out _; (with_reducible repeat (first | refine blk_drewN ?_ _ | refine blk_drew ?_ | refine blk_alloc ?_ _)); exact BK284.out⟩
              have n1_ : Aside0 (((((w27.setCell ⟨gb286, 0, none⟩ (.string ((rd_T45 l0_1 x24_2).f0))).setCell ⟨gb286, 1, none⟩ (.int .i64 ((rd_T45 l0_1 x24_2).f1))).setCell ⟨gb286, 2, none⟩ (.int .i64 ((rd_T45 l0_1 x24_2).f2))).setCell ⟨gb286, 3, none⟩ (.bool ((rd_T45 l0_1 x24_2).f3))).heap[gb286]? = some (.cells #[.string ((rd_T45 l0_1 x24_2).f0), .int .i64 ((rd_T45 l0_1 x24_2).f1), .int .i64 ((rd_T45 l0_1 x24_2).f2), .bool ((rd_T45 l0_1 x24_2).f3)] 45 (0, 0))) := ⟨by (with_reducible repeat (first | refine blk_drewN ?_ _ | refine blk_drew ?_ | refine blk_alloc ?_ _)); refine blk_put (cs := #[.string ((rd_T45 l0_1 x24_2).f0), .int .i64 ((rd_T45 l0_1 x24_2).f1), .int .i64 ((rd_T45 l0_1 x24_2).f2), .bool false]) ?_ 3 _ rfl; (with_reducible repeat (first | refine blk_drewN ?_ _ | refine blk_drew ?_ | refine blk_alloc ?_ _)); refine blk_put (cs := #[.string ((rd_T45 l0_1 x24_2).f0), .int .i64 ((rd_T45 l0_1 x24_2).f1), .int .i64 0, .bool false]) ?_ 2 _ rfl; (with_reducible repeat (first | refine blk_drewN ?_ _ | refine blk_drew ?_ | refine blk_alloc ?_ _)); refine blk_put (cs := #[.string ((rd_T45 l0_1 x24_2).f0), .int .i64 0, .int .i64 0, .bool false]) ?_ 1 _ rfl; (with_reducible repeat (first | refine blk_drewN ?_ _ | refine blk_drew ?_ | refine blk_alloc ?_ _)); refine blk_put (cs := #[.string (⟨#[]⟩ : ByteArray), .int .i64 0, .int .i64 0, .bool false]) ?_ 0 _ rfl; (with_reducible repeat (first | refine blk_drewN ?_ _ | refine blk_drew ?_ | refine blk_alloc ?_ _)); exact BK286.out⟩
              have n2_ : Aside0 (Below w.heap.size w ((((w27.setCell ⟨gb286, 0, none⟩ (.string ((rd_T45 l0_1 x24_2).f0))).setCell ⟨gb286, 1, none⟩ (.int .i64 ((rd_T45 l0_1 x24_2).f1))).setCell ⟨gb286, 2, none⟩ (.int .i64 ((rd_T45 l0_1 x24_2).f2))).setCell ⟨gb286, 3, none⟩ (.bool ((rd_T45 l0_1 x24_2).f3)))) := ⟨zb _⟩
              (try clear BK284)
              (try clear BK286)
              (try clear HB)
              generalize ((((w27.setCell ⟨gb286, 0, none⟩ (.string ((rd_T45 l0_1 x24_2).f0))).setCell ⟨gb286, 1, none⟩ (.int .i64 ((rd_T45 l0_1 x24_2).f1))).setCell ⟨gb286, 2, none⟩ (.int .i64 ((rd_T45 l0_1 x24_2).f2))).setCell ⟨gb286, 3, none⟩ (.bool ((rd_T45 l0_1 x24_2).f3))) = w30 at n0_ n1_ n2_ ⊢
              have BK284 := n0_
              have BK286 := n1_
              have HB := n2_
              clear n0_ n1_ n2_
              have n0_ := Aside0.mk (blk_drew BK284.out)
              have n1_ := Aside0.mk (blk_drew BK286.out)
              have n2_ := Aside0.mk (below_drew1 HB.out)
              clear BK284
              clear BK286
              clear HB
              have BK284 := n0_
              have BK286 := n1_
              have HB := n2_
              clear n0_ n1_ n2_
              have p288 : 0 ≤ ((ji17) : Int) := of_decide_eq_true (za _)
              have q288 : (ji17) < (l0_1.length : Int) := of_decide_eq_true (za _)
              obtain ⟨ad288, e288, hx288_0, hx288_1, hx288_2, hx288_3⟩ := at_T45 HR0_1.out (ji17) p288 q288
              have hw288_3 := hx288_3
              have hw288_2 := hx288_2
              have hw288_1 := hx288_1
              have hw288_0 := hx288_0
              obtain rfl : ad285 = ad288 := (by injection e288)
              replace hx288_0 := (HB.out.cell (World.block_lt_of_cell? w _ hx288_0)).trans hx288_0
              replace hx288_1 := (HB.out.cell (World.block_lt_of_cell? w _ hx288_1)).trans hx288_1
              replace hx288_2 := (HB.out.cell (World.block_lt_of_cell? w _ hx288_2)).trans hx288_2
              replace hx288_3 := (HB.out.cell (World.block_lt_of_cell? w _ hx288_3)).trans hx288_3
              replace p288 := eq_true p288
              replace q288 := eq_true q288
              refine start_ (n := 20) (S := fun w' => w'.cell? ⟨gb284, 0, none⟩ = some (.slice A0_0 l0_0.length c0_0) ∧ w'.cell? ⟨gb284, 1, none⟩ = some (.slice (some ad285) l0_1.length c0_1) ∧ w'.cell? ⟨gb284, 2, none⟩ = some (.slice A0_2 l0_2.length c0_2) ∧ w'.cell? ⟨gb286, 0, none⟩ = some (.string ((rd_T45 l0_1 x24_2).f0)) ∧ w'.cell? ⟨gb286, 1, none⟩ = some (.int .i64 ((rd_T45 l0_1 x24_2).f1)) ∧ w'.cell? ⟨gb286, 2, none⟩ = some (.int .i64 ((rd_T45 l0_1 x24_2).f2)) ∧ w'.cell? ⟨gb286, 3, none⟩ = some (.bool ((rd_T45 l0_1 x24_2).f3)) ∧ w'.cell? (ad285.add (((ji17)).toNat * 4)) = some (.string ((rd_T45 l0_1 (ji17)).f0)) ∧ w'.cell? ⟨(ad285.add (((ji17)).toNat * 4)).block, (ad285.add (((ji17)).toNat * 4)).off + 1, none⟩ = some (.int .i64 ((rd_T45 l0_1 (ji17)).f1)) ∧ w'.cell? ⟨(ad285.add (((ji17)).toNat * 4)).block, (ad285.add (((ji17)).toNat * 4)).off + 2, none⟩ = some (.int .i64 ((rd_T45 l0_1 (ji17)).f2)) ∧ w'.cell? ⟨(ad285.add (((ji17)).toNat * 4)).block, (ad285.add (((ji17)).toNat * 4)).off + 3, none⟩ = some (.bool ((rd_T45 l0_1 (ji17)).f3))) (ds := []) (zm 20 0) (by kernel_rfl) rfl rfl ⟨(blk_cell BK284.out 0).trans rfl, (blk_cell BK284.out 1).trans rfl, (blk_cell BK284.out 2).trans rfl, (blk_cell BK286.out 0).trans rfl, (blk_cell BK286.out 1).trans rfl, (blk_cell BK286.out 2).trans rfl, (blk_cell BK286.out 3).trans rfl, ((HB.out.cell (World.block_lt_of_cell? w _ hw288_0)).trans hw288_0), ((HB.out.cell (World.block_lt_of_cell? w _ hw288_1)).trans hw288_1), ((HB.out.cell (World.block_lt_of_cell? w _ hw288_2)).trans hw288_2), ((HB.out.cell (World.block_lt_of_cell? w _ hw288_3)).trans hw288_3)⟩ (fun hHeld => ?_); refine with_tabW impl_ObjectOk.tab6 impl_ObjectOk.bits6 (fun HT_ HW_ => ?_)
              generalize w30.drew = w31 at BK284 BK286 HB hx288_0 hx288_1 hx288_2 hx288_3 hHeld ⊢
              refine take_ (i := 0) (N := some 29) (v := ?_) (a' := ?_) (zm 20 1) rfl rfl (take_ofW HT_.out HW_.out (by kernel_rfl)) (fun _ _ _ h => h) (Or.inl ⟨by rfl, ?_⟩) hHeld ?_ ?_
              rotate_left
              ·rintro w' ⟨s0, s1, s2, s3, s4, s5, s6, s7, s8, s9, s10⟩
               go_simp
               with_reducible rfl
              rotate_left
              ·simp only [Act.put, List.setIfInBounds_toArray, List.set_cons_zero, List.set_cons_succ, i64_w, i32_w]
               rfl
              refine take_ (i := 1) (N := some 30) (v := ?_) (a' := ?_) (zm 20 3) rfl rfl (take_ofW HT_.out HW_.out (by kernel_rfl)) (fun _ _ _ h => h) (Or.inl ⟨by rfl, ?_⟩) hHeld ?_ ?_
              rotate_left
              ·rintro w' ⟨s0, s1, s2, s3, s4, s5, s6, s7, s8, s9, s10⟩
               go_simp
               with_reducible rfl
              rotate_left
              ·simp only [Act.put, List.setIfInBounds_toArray, List.set_cons_zero, List.set_cons_succ, i64_w, i32_w]
               rfl
              refine one_ (i := 2) (N := some 31) (zm 20 7) rfl rfl (one_of HT_.out (by kernel_rfl)) (by decide) (fun K hK => ?_)
              refine zi Try.func19 #[.agg #[.slice A0_0 l0_0.length c0_0, .slice (some ad285) l0_1.length c0_1, .slice A0_2 l0_2.length c0_2], .agg #[.string ((rd_T45 l0_1 x24_2).f0), .int .i64 ((rd_T45 l0_1 x24_2).f1), .int .i64 ((rd_T45 l0_1 x24_2).f2), .bool ((rd_T45 l0_1 x24_2).f3)]] ?_
              with_reducible refine (impl_isSymbol.calls k2 _ _ l0_0 _ _ l0_1 _ _ l0_2 ((rd_T45 l0_1 x24_2).f0) ((rd_T45 l0_1 x24_2).f1) ((rd_T45 l0_1 x24_2).f2) ((rd_T45 l0_1 x24_2).f3) true _ ?side1 ?side2 ?side3 ?side4 ?side5 ?side6 A14.out).mono ?_
              (case side1 => repeat (first | exact (Kd.C_below HR0_0.out HB.out) | (with_reducible refine Kd.C_alloc ?_ _) | (with_reducible refine Kd.C_drewN ?_ _) | (with_reducible refine Kd.C_drew ?_)))
              (case side2 => exact HC0_0.out)
              (case side3 => repeat (first | exact (Kd.C_below HR0_1.out HB.out) | (with_reducible refine Kd.C_alloc ?_ _) | (with_reducible refine Kd.C_drewN ?_ _) | (with_reducible refine Kd.C_drew ?_)))
              (case side4 => exact HC0_1.out)
              (case side5 => repeat (first | exact (Kd.C_below HR0_2.out HB.out) | (with_reducible refine Kd.C_alloc ?_ _) | (with_reducible refine Kd.C_drewN ?_ _) | (with_reducible refine Kd.C_drew ?_)))
              (case side6 => exact HC0_2.out)
              rintro e w32 ⟨rfl, hb⟩
              refine ⟨_, rfl, ?_⟩
              have n0_ := zk BK284 hb
              have n1_ := zk BK286 hb
              have n2_ := zt w hb
              clear BK284
              clear BK286
              clear HB
              have BK284 := n0_
              have BK286 := n1_
              have HB := n2_
              clear n0_ n1_ n2_
              (try clear hb)
              (try clear hb2)
              (try clear hk)
              (try clear hi)
              refine hK.out _ _ ⟨(blk_cell BK284.out 0).trans rfl, (blk_cell BK284.out 1).trans rfl, (blk_cell BK284.out 2).trans rfl, (blk_cell BK286.out 0).trans rfl, (blk_cell BK286.out 1).trans rfl, (blk_cell BK286.out 2).trans rfl, (blk_cell BK286.out 3).trans rfl, ((HB.out.cell (World.block_lt_of_cell? w _ hw288_0)).trans hw288_0), ((HB.out.cell (World.block_lt_of_cell? w _ hw288_1)).trans hw288_1), ((HB.out.cell (World.block_lt_of_cell? w _ hw288_2)).trans hw288_2), ((HB.out.cell (World.block_lt_of_cell? w _ hw288_3)).trans hw288_3)⟩ (fun hHeld => ?_)
              clear hK K
              refine zq ?_
              refine zp 3 32 (zm 20 15) ?_
              refine zp 4 33 (zm 20 31) ?_
              refine zp 5 34 (zm 20 63) ?_
              refine zp 6 35 (zm 20 127) ?_
              refine zp 7 36 (zm 20 255) ?_
              refine zp 8 37 (zm 20 511) ?_
              refine zp 10 39 (zm 20 1535) ?_
              refine zp 12 41 (zm 20 5631) ?_
              refine zp 13 42 (zm 20 13823) ?_
              refine take_ (i := 9) (N := some 38) (v := ?_) (a' := ?_) (zm 20 14335) rfl rfl (take_ofW HT_.out HW_.out (by kernel_rfl)) (fun _ _ _ h => h) (Or.inl ⟨by rfl, ?_⟩) hHeld ?_ ?_
              rotate_left
              ·rintro w' ⟨s0, s1, s2, s3, s4, s5, s6, s7, s8, s9, s10⟩
               go_simp
               with_reducible rfl
              rotate_left
              ·simp only [Act.put, List.setIfInBounds_toArray, List.set_cons_zero, List.set_cons_succ, i64_w, i32_w]
               rfl
              refine take_ (i := 11) (N := some 40) (v := ?_) (a' := ?_) (zm 20 16383) rfl rfl (take_ofW HT_.out HW_.out (by kernel_rfl)) (fun _ _ _ h => h) (Or.inl ⟨by rfl, ?_⟩) hHeld ?_ ?_
              rotate_left
              ·rintro w' ⟨s0, s1, s2, s3, s4, s5, s6, s7, s8, s9, s10⟩
               go_simp
               with_reducible rfl
              rotate_left
              ·simp only [Act.put, List.setIfInBounds_toArray, List.set_cons_zero, List.set_cons_succ, i64_w, i32_w]
               rfl
              refine zp 14 43 (zm 20 32767) ?_
              refine zp 15 44 (zm 20 65535) ?_
              refine take_ (i := 16) (N := some 45) (v := ?_) (a' := ?_) (zm 20 131071) rfl rfl (take_ofW HT_.out HW_.out (by kernel_rfl)) (fun _ _ _ h => h) (Or.inl ⟨by rfl, ?_⟩) hHeld ?_ ?_
              rotate_left
              ·rintro w' ⟨s0, s1, s2, s3, s4, s5, s6, s7, s8, s9, s10⟩
               go_simp
               with_reducible rfl
              rotate_left
              ·simp only [Act.put, List.setIfInBounds_toArray, List.set_cons_zero, List.set_cons_succ, i64_w, i32_w]
               rfl
              refine zp 17 46 (zm 20 262143) ?_
              refine zp 18 47 (zm 20 524287) ?_
              refine zp 19 48 (zm 20 1048575) ?_
              refine done_ (done_of HT_.out (by kernel_rfl)) ?_
              try go_wp2
              go_ret
              exact ⟨by first | rfl | (simp [errW_none, errW_some] <;> rfl) | (simp only [← hji17]; first | rfl | (simp [errW_none, errW_some] <;> rfl)) | (simp [*, errW_none, errW_some] <;> rfl), zb _⟩
            ·rw [if_neg c19] at H
             exact absurd H (by simp)
           ·rw [if_neg c18] at H
            exact absurd H (by simp)
          ·rw [if_neg c16] at H
           have c16b0 : decide (0 < x24_2) = false := decide_eq_false c16
           clear c16
           have H' := Aside0.mk H
           clear H
           have p285 : 0 ≤ (x24_2 : Int) := of_decide_eq_true (za _)
           have q285 : x24_2 < (l0_1.length : Int) := of_decide_eq_true (za _)
           obtain ⟨ad285, e285, hx285_0, hx285_1, hx285_2, hx285_3⟩ := at_T45 HR0_1.out x24_2 p285 q285
           cases e285
           replace hx285_0 := (HB.out.cell (World.block_lt_of_cell? w _ hx285_0)).trans hx285_0
           replace hx285_1 := (HB.out.cell (World.block_lt_of_cell? w _ hx285_1)).trans hx285_1
           replace hx285_2 := (HB.out.cell (World.block_lt_of_cell? w _ hx285_2)).trans hx285_2
           replace hx285_3 := (HB.out.cell (World.block_lt_of_cell? w _ hx285_3)).trans hx285_3
           replace p285 := eq_true p285
           replace q285 := eq_true q285
           try go_wp2_with (first | ((with_reducible refine gate_dst (N := 4) rfl ?_); (try (refine gate_guard (by rfl) ?_; dsimp only)); refine zbx 4 #[.string (⟨#[]⟩ : ByteArray), .int .i64 0, .int .i64 0, .bool false] 45 ?_; intro gb286 hg w33 hbox hb; have BK286 := Aside0.mk (hbox); have GW286 := zs w hg; have GE286 := GW286; have NB284_286 := zlt BK284 hg; have NB286_284 := zgt (zlt BK284 hg); replace BK284 := zk BK284 hb; replace HB := zt w hb; clear hb hbox hg; have hnb34 := NB286_284.out; have hnc34 := NB284_286.out; have hcz35_0 := zc0 BK286; have hcz35_1 := zc1 BK286; have hcz35_2 := zc2 BK286; have hcz35_3 := zc3 BK286; have hfz35_0 := blk_frozen BK286.out 0; have hfz35_1 := blk_frozen BK286.out 1; have hfz35_2 := blk_frozen BK286.out 2; have hfz35_3 := blk_frozen BK286.out 3))
           have n0_ : Aside0 (((((w33.setCell ⟨gb286, 0, none⟩ (.string ((rd_T45 l0_1 x24_2).f0))).setCell ⟨gb286, 1, none⟩ (.int .i64 ((rd_T45 l0_1 x24_2).f1))).setCell ⟨gb286, 2, none⟩ (.int .i64 ((rd_T45 l0_1 x24_2).f2))).setCell ⟨gb286, 3, none⟩ (.bool ((rd_T45 l0_1 x24_2).f3))).heap[gb284]? = some (.cells #[.slice A0_0 l0_0.length c0_0, .slice (some ad285) l0_1.length c0_1, .slice A0_2 l0_2.length c0_2] 33 (0, 0))) := ⟨by (with_reducible repeat (first | refine blk_drewN ?_ _ | refine blk_drew ?_ | refine blk_alloc ?_ _)); refine blk_far ?_ NB284_286.out _; (with_reducible repeat (first | refine blk_drewN ?_ _ | refine blk_drew ?_ | refine blk_alloc ?_ _)); refine blk_far ?_ NB284_286.out _; (with_reducible repeat (first | refine blk_drewN ?_ _ | refine blk_drew ?_ | refine blk_alloc ?_ _)); refine blk_far ?_ NB284_286.out _; (with_reducible repeat (first | refine blk_drewN ?_ _ | refine blk_drew ?_ | refine blk_alloc ?_ _)); refine blk_far ?_ NB284_286.out _; (with_reducible repeat (first | refine blk_drewN ?_ _ | refine blk_drew ?_ | refine blk_alloc ?_ _)); exact BK284.out⟩
           have n1_ : Aside0 (((((w33.setCell ⟨gb286, 0, none⟩ (.string ((rd_T45 l0_1 x24_2).f0))).setCell ⟨gb286, 1, none⟩ (.int .i64 ((rd_T45 l0_1 x24_2).f1))).setCell ⟨gb286, 2, none⟩ (.int .i64 ((rd_T45 l0_1 x24_2).f2))).setCell ⟨gb286, 3, none⟩ (.bool ((rd_T45 l0_1 x24_2).f3))).heap[gb286]? = some (.cells #[.string ((rd_T45 l0_1 x24_2).f0), .int .i64 ((rd_T45 l0_1 x24_2).f1), .int .i64 ((rd_T45 l0_1 x24_2).f2), .bool ((rd_T45 l0_1 x24_2).f3)] 45 (0, 0))) := ⟨by (with_reducible repeat (first | refine blk_drewN ?_ _ | refine blk_drew ?_ | refine blk_alloc ?_ _)); refine blk_put (cs := #[.string ((rd_T45 l0_1 x24_2).f0), .int .i64 ((rd_T45 l0_1 x24_2).f1), .int .i64 ((rd_T45 l0_1 x24_2).f2), .bool false]) ?_ 3 _ rfl; (with_reducible repeat (first | refine blk_drewN ?_ _ | refine blk_drew ?_ | refine blk_alloc ?_ _)); refine blk_put (cs := #[.string ((rd_T45 l0_1 x24_2).f0), .int .i64 ((rd_T45 l0_1 x24_2).f1), .int .i64 0, .bool false]) ?_ 2 _ rfl; (with_reducible repeat (first | refine blk_drewN ?_ _ | refine blk_drew ?_ | refine blk_alloc ?_ _)); refine blk_put (cs := #[.string ((rd_T45 l0_1 x24_2).f0), .int .i64 0, .int .i64 0, .bool false]) ?_ 1 _ rfl; (with_reducible repeat (first | refine blk_drewN ?_ _ | refine blk_drew ?_ | refine blk_alloc ?_ _)); refine blk_put (cs := #[.string (⟨#[]⟩ : ByteArray), .int .i64 0, .int .i64 0, .bool false]) ?_ 0 _ rfl; (with_reducible repeat (first | refine blk_drewN ?_ _ | refine blk_drew ?_ | refine blk_alloc ?_ _)); exact BK286.out⟩
           have n2_ : Aside0 (Below w.heap.size w ((((w33.setCell ⟨gb286, 0, none⟩ (.string ((rd_T45 l0_1 x24_2).f0))).setCell ⟨gb286, 1, none⟩ (.int .i64 ((rd_T45 l0_1 x24_2).f1))).setCell ⟨gb286, 2, none⟩ (.int .i64 ((rd_T45 l0_1 x24_2).f2))).setCell ⟨gb286, 3, none⟩ (.bool ((rd_T45 l0_1 x24_2).f3)))) := ⟨zb _⟩
           (try clear BK284)
           (try clear BK286)
           (try clear HB)
           generalize ((((w33.setCell ⟨gb286, 0, none⟩ (.string ((rd_T45 l0_1 x24_2).f0))).setCell ⟨gb286, 1, none⟩ (.int .i64 ((rd_T45 l0_1 x24_2).f1))).setCell ⟨gb286, 2, none⟩ (.int .i64 ((rd_T45 l0_1 x24_2).f2))).setCell ⟨gb286, 3, none⟩ (.bool ((rd_T45 l0_1 x24_2).f3))) = w36 at n0_ n1_ n2_ ⊢
           have BK284 := n0_
           have BK286 := n1_
           have HB := n2_
           clear n0_ n1_ n2_
           have n0_ := Aside0.mk (blk_drew BK284.out)
           have n1_ := Aside0.mk (blk_drew BK286.out)
           have n2_ := Aside0.mk (below_drew1 HB.out)
           clear BK284
           clear BK286
           clear HB
           have BK284 := n0_
           have BK286 := n1_
           have HB := n2_
           clear n0_ n1_ n2_
           refine start_ (n := 20) (S := fun w' => w'.cell? ⟨gb284, 0, none⟩ = some (.slice A0_0 l0_0.length c0_0) ∧ w'.cell? ⟨gb284, 1, none⟩ = some (.slice (some ad285) l0_1.length c0_1) ∧ w'.cell? ⟨gb284, 2, none⟩ = some (.slice A0_2 l0_2.length c0_2) ∧ w'.cell? ⟨gb286, 0, none⟩ = some (.string ((rd_T45 l0_1 x24_2).f0)) ∧ w'.cell? ⟨gb286, 1, none⟩ = some (.int .i64 ((rd_T45 l0_1 x24_2).f1)) ∧ w'.cell? ⟨gb286, 2, none⟩ = some (.int .i64 ((rd_T45 l0_1 x24_2).f2)) ∧ w'.cell? ⟨gb286, 3, none⟩ = some (.bool ((rd_T45 l0_1 x24_2).f3))) (ds := []) (zm 20 0) (by kernel_rfl) rfl rfl ⟨(blk_cell BK284.out 0).trans rfl, (blk_cell BK284.out 1).trans rfl, (blk_cell BK284.out 2).trans rfl, (blk_cell BK286.out 0).trans rfl, (blk_cell BK286.out 1).trans rfl, (blk_cell BK286.out 2).trans rfl, (blk_cell BK286.out 3).trans rfl⟩ (fun hHeld => ?_); refine with_tabW impl_ObjectOk.tab6 impl_ObjectOk.bits6 (fun HT_ HW_ => ?_)
           generalize w36.drew = w37 at BK284 BK286 HB hHeld ⊢
           refine take_ (i := 0) (N := some 29) (v := ?_) (a' := ?_) (zm 20 1) rfl rfl (take_ofW HT_.out HW_.out (by kernel_rfl)) (fun _ _ _ h => h) (Or.inl ⟨by rfl, ?_⟩) hHeld ?_ ?_
           rotate_left
           ·rintro w' ⟨s0, s1, s2, s3, s4, s5, s6⟩
            go_simp
            with_reducible rfl
           rotate_left
           ·simp only [Act.put, List.setIfInBounds_toArray, List.set_cons_zero, List.set_cons_succ, i64_w, i32_w]
            rfl
           refine take_ (i := 1) (N := some 30) (v := ?_) (a' := ?_) (zm 20 3) rfl rfl (take_ofW HT_.out HW_.out (by kernel_rfl)) (fun _ _ _ h => h) (Or.inl ⟨by rfl, ?_⟩) hHeld ?_ ?_
           rotate_left
           ·rintro w' ⟨s0, s1, s2, s3, s4, s5, s6⟩
            go_simp
            with_reducible rfl
           rotate_left
           ·simp only [Act.put, List.setIfInBounds_toArray, List.set_cons_zero, List.set_cons_succ, i64_w, i32_w]
            rfl
           refine one_ (i := 2) (N := some 31) (zm 20 7) rfl rfl (one_of HT_.out (by kernel_rfl)) (by decide) (fun K hK => ?_)
           refine zi Try.func19 #[.agg #[.slice A0_0 l0_0.length c0_0, .slice (some ad285) l0_1.length c0_1, .slice A0_2 l0_2.length c0_2], .agg #[.string ((rd_T45 l0_1 x24_2).f0), .int .i64 ((rd_T45 l0_1 x24_2).f1), .int .i64 ((rd_T45 l0_1 x24_2).f2), .bool ((rd_T45 l0_1 x24_2).f3)]] ?_
           with_reducible refine (impl_isSymbol.calls k2 _ _ l0_0 _ _ l0_1 _ _ l0_2 ((rd_T45 l0_1 x24_2).f0) ((rd_T45 l0_1 x24_2).f1) ((rd_T45 l0_1 x24_2).f2) ((rd_T45 l0_1 x24_2).f3) true _ ?side1 ?side2 ?side3 ?side4 ?side5 ?side6 A14.out).mono ?_
           (case side1 => repeat (first | exact (Kd.C_below HR0_0.out HB.out) | (with_reducible refine Kd.C_alloc ?_ _) | (with_reducible refine Kd.C_drewN ?_ _) | (with_reducible refine Kd.C_drew ?_)))
           (case side2 => exact HC0_0.out)
           (case side3 => repeat (first | exact (Kd.C_below HR0_1.out HB.out) | (with_reducible refine Kd.C_alloc ?_ _) | (with_reducible refine Kd.C_drewN ?_ _) | (with_reducible refine Kd.C_drew ?_)))
           (case side4 => exact HC0_1.out)
           (case side5 => repeat (first | exact (Kd.C_below HR0_2.out HB.out) | (with_reducible refine Kd.C_alloc ?_ _) | (with_reducible refine Kd.C_drewN ?_ _) | (with_reducible refine Kd.C_drew ?_)))
           (case side6 => exact HC0_2.out)
           rintro e w38 ⟨rfl, hb⟩
           refine ⟨_, rfl, ?_⟩
           have n0_ := zk BK284 hb
           have n1_ := zk BK286 hb
           have n2_ := zt w hb
           clear BK284
           clear BK286
           clear HB
           have BK284 := n0_
           have BK286 := n1_
           have HB := n2_
           clear n0_ n1_ n2_
           (try clear hb)
           (try clear hb2)
           (try clear hk)
           (try clear hi)
           refine hK.out _ _ ⟨(blk_cell BK284.out 0).trans rfl, (blk_cell BK284.out 1).trans rfl, (blk_cell BK284.out 2).trans rfl, (blk_cell BK286.out 0).trans rfl, (blk_cell BK286.out 1).trans rfl, (blk_cell BK286.out 2).trans rfl, (blk_cell BK286.out 3).trans rfl⟩ (fun hHeld => ?_)
           clear hK K
           refine zq ?_
           refine zp 3 32 (zm 20 15) ?_
           refine zp 4 33 (zm 20 31) ?_
           refine zp 5 34 (zm 20 63) ?_
           refine zp 6 35 (zm 20 127) ?_
           refine zp 7 36 (zm 20 255) ?_
           refine zu 8 37 (zm 20 511) ?_
           refine zu 9 38 (zm 20 1023) ?_
           refine zu 10 39 (zm 20 2047) ?_
           refine zu 11 40 (zm 20 4095) ?_
           refine zu 12 41 (zm 20 8191) ?_
           refine zu 13 42 (zm 20 16383) ?_
           refine zu 14 43 (zm 20 32767) ?_
           refine zu 15 44 (zm 20 65535) ?_
           refine zu 16 45 (zm 20 131071) ?_
           refine zu 17 46 (zm 20 262143) ?_
           refine zp 18 47 (zm 20 524287) ?_
           refine zp 19 48 (zm 20 1048575) ?_
           refine done_ (done_of HT_.out (by kernel_rfl)) ?_
           try go_wp2
           go_roundg k2
           case measure => have := HJ1.out; have := HK2.out; omega
           case rel => exact ⟨(wrap64 (x24_2 + 1)), (zE _), H', ⟨by have := HJ1.out; have := HK2.out; omega⟩, ⟨by (with_reducible repeat (first | refine blk_drewN ?_ _ | refine blk_drew ?_ | refine blk_alloc ?_ _)); exact BK284.out⟩, ⟨zb _⟩⟩
         ·replace c15 := Bool.eq_false_iff.mpr c15
          subst c15
          rw [if_neg (show ¬ (false = true) by decide)] at H
          obtain rfl := Option.some.inj H
          have p285 : 0 ≤ (x24_2 : Int) := of_decide_eq_true (za _)
          have q285 : x24_2 < (l0_1.length : Int) := of_decide_eq_true (za _)
          obtain ⟨ad285, e285, hx285_0, hx285_1, hx285_2, hx285_3⟩ := at_T45 HR0_1.out x24_2 p285 q285
          cases e285
          replace hx285_0 := (HB.out.cell (World.block_lt_of_cell? w _ hx285_0)).trans hx285_0
          replace hx285_1 := (HB.out.cell (World.block_lt_of_cell? w _ hx285_1)).trans hx285_1
          replace hx285_2 := (HB.out.cell (World.block_lt_of_cell? w _ hx285_2)).trans hx285_2
          replace hx285_3 := (HB.out.cell (World.block_lt_of_cell? w _ hx285_3)).trans hx285_3
          replace p285 := eq_true p285
          replace q285 := eq_true q285
          try go_wp2_with (first | ((with_reducible refine gate_dst (N := 4) rfl ?_); (try (refine gate_guard (by rfl) ?_; dsimp only)); refine zbx 4 #[.string (⟨#[]⟩ : ByteArray), .int .i64 0, .int .i64 0, .bool false] 45 ?_; intro gb286 hg w39 hbox hb; have BK286 := Aside0.mk (hbox); have GW286 := zs w hg; have GE286 := GW286; have NB284_286 := zlt BK284 hg; have NB286_284 := zgt (zlt BK284 hg); replace BK284 := zk BK284 hb; replace HB := zt w hb; clear hb hbox hg; have hnb40 := NB286_284.out; have hnc40 := NB284_286.out; have hcz41_0 := zc0 BK286; have hcz41_1 := zc1 BK286; have hcz41_2 := zc2 BK286; have hcz41_3 := zc3 BK286; have hfz41_0 := blk_frozen BK286.out 0; have hfz41_1 := blk_frozen BK286.out 1; have hfz41_2 := blk_frozen BK286.out 2; have hfz41_3 := blk_frozen BK286.out 3))
          have n0_ : Aside0 (((((w39.setCell ⟨gb286, 0, none⟩ (.string ((rd_T45 l0_1 x24_2).f0))).setCell ⟨gb286, 1, none⟩ (.int .i64 ((rd_T45 l0_1 x24_2).f1))).setCell ⟨gb286, 2, none⟩ (.int .i64 ((rd_T45 l0_1 x24_2).f2))).setCell ⟨gb286, 3, none⟩ (.bool ((rd_T45 l0_1 x24_2).f3))).heap[gb284]? = some (.cells #[.slice A0_0 l0_0.length c0_0, .slice (some ad285) l0_1.length c0_1, .slice A0_2 l0_2.length c0_2] 33 (0, 0))) := ⟨by (with_reducible repeat (first | refine blk_drewN ?_ _ | refine blk_drew ?_ | refine blk_alloc ?_ _)); refine blk_far ?_ NB284_286.out _; (with_reducible repeat (first | refine blk_drewN ?_ _ | refine blk_drew ?_ | refine blk_alloc ?_ _)); refine blk_far ?_ NB284_286.out _; (with_reducible repeat (first | refine blk_drewN ?_ _ | refine blk_drew ?_ | refine blk_alloc ?_ _)); refine blk_far ?_ NB284_286.out _; (with_reducible repeat (first | refine blk_drewN ?_ _ | refine blk_drew ?_ | refine blk_alloc ?_ _)); refine blk_far ?_ NB284_286.out _; (with_reducible repeat (first | refine blk_drewN ?_ _ | refine blk_drew ?_ | refine blk_alloc ?_ _)); exact BK284.out⟩
          have n1_ : Aside0 (((((w39.setCell ⟨gb286, 0, none⟩ (.string ((rd_T45 l0_1 x24_2).f0))).setCell ⟨gb286, 1, none⟩ (.int .i64 ((rd_T45 l0_1 x24_2).f1))).setCell ⟨gb286, 2, none⟩ (.int .i64 ((rd_T45 l0_1 x24_2).f2))).setCell ⟨gb286, 3, none⟩ (.bool ((rd_T45 l0_1 x24_2).f3))).heap[gb286]? = some (.cells #[.string ((rd_T45 l0_1 x24_2).f0), .int .i64 ((rd_T45 l0_1 x24_2).f1), .int .i64 ((rd_T45 l0_1 x24_2).f2), .bool ((rd_T45 l0_1 x24_2).f3)] 45 (0, 0))) := ⟨by (with_reducible repeat (first | refine blk_drewN ?_ _ | refine blk_drew ?_ | refine blk_alloc ?_ _)); refine blk_put (cs := #[.string ((rd_T45 l0_1 x24_2).f0), .int .i64 ((rd_T45 l0_1 x24_2).f1), .int .i64 ((rd_T45 l0_1 x24_2).f2), .bool false]) ?_ 3 _ rfl; (with_reducible repeat (first | refine blk_drewN ?_ _ | refine blk_drew ?_ | refine blk_alloc ?_ _)); refine blk_put (cs := #[.string ((rd_T45 l0_1 x24_2).f0), .int .i64 ((rd_T45 l0_1 x24_2).f1), .int .i64 0, .bool false]) ?_ 2 _ rfl; (with_reducible repeat (first | refine blk_drewN ?_ _ | refine blk_drew ?_ | refine blk_alloc ?_ _)); refine blk_put (cs := #[.string ((rd_T45 l0_1 x24_2).f0), .int .i64 0, .int .i64 0, .bool false]) ?_ 1 _ rfl; (with_reducible repeat (first | refine blk_drewN ?_ _ | refine blk_drew ?_ | refine blk_alloc ?_ _)); refine blk_put (cs := #[.string (⟨#[]⟩ : ByteArray), .int .i64 0, .int .i64 0, .bool false]) ?_ 0 _ rfl; (with_reducible repeat (first | refine blk_drewN ?_ _ | refine blk_drew ?_ | refine blk_alloc ?_ _)); exact BK286.out⟩
          have n2_ : Aside0 (Below w.heap.size w ((((w39.setCell ⟨gb286, 0, none⟩ (.string ((rd_T45 l0_1 x24_2).f0))).setCell ⟨gb286, 1, none⟩ (.int .i64 ((rd_T45 l0_1 x24_2).f1))).setCell ⟨gb286, 2, none⟩ (.int .i64 ((rd_T45 l0_1 x24_2).f2))).setCell ⟨gb286, 3, none⟩ (.bool ((rd_T45 l0_1 x24_2).f3)))) := ⟨zb _⟩
          (try clear BK284)
          (try clear BK286)
          (try clear HB)
          generalize ((((w39.setCell ⟨gb286, 0, none⟩ (.string ((rd_T45 l0_1 x24_2).f0))).setCell ⟨gb286, 1, none⟩ (.int .i64 ((rd_T45 l0_1 x24_2).f1))).setCell ⟨gb286, 2, none⟩ (.int .i64 ((rd_T45 l0_1 x24_2).f2))).setCell ⟨gb286, 3, none⟩ (.bool ((rd_T45 l0_1 x24_2).f3))) = w42 at n0_ n1_ n2_ ⊢
          have BK284 := n0_
          have BK286 := n1_
          have HB := n2_
          clear n0_ n1_ n2_
          have n0_ := Aside0.mk (blk_drew BK284.out)
          have n1_ := Aside0.mk (blk_drew BK286.out)
          have n2_ := Aside0.mk (below_drew1 HB.out)
          clear BK284
          clear BK286
          clear HB
          have BK284 := n0_
          have BK286 := n1_
          have HB := n2_
          clear n0_ n1_ n2_
          refine start_ (n := 20) (S := fun w' => w'.cell? ⟨gb284, 0, none⟩ = some (.slice A0_0 l0_0.length c0_0) ∧ w'.cell? ⟨gb284, 1, none⟩ = some (.slice (some ad285) l0_1.length c0_1) ∧ w'.cell? ⟨gb284, 2, none⟩ = some (.slice A0_2 l0_2.length c0_2) ∧ w'.cell? ⟨gb286, 0, none⟩ = some (.string ((rd_T45 l0_1 x24_2).f0)) ∧ w'.cell? ⟨gb286, 1, none⟩ = some (.int .i64 ((rd_T45 l0_1 x24_2).f1)) ∧ w'.cell? ⟨gb286, 2, none⟩ = some (.int .i64 ((rd_T45 l0_1 x24_2).f2)) ∧ w'.cell? ⟨gb286, 3, none⟩ = some (.bool ((rd_T45 l0_1 x24_2).f3))) (ds := []) (zm 20 0) (by kernel_rfl) rfl rfl ⟨(blk_cell BK284.out 0).trans rfl, (blk_cell BK284.out 1).trans rfl, (blk_cell BK284.out 2).trans rfl, (blk_cell BK286.out 0).trans rfl, (blk_cell BK286.out 1).trans rfl, (blk_cell BK286.out 2).trans rfl, (blk_cell BK286.out 3).trans rfl⟩ (fun hHeld => ?_); refine with_tabW impl_ObjectOk.tab6 impl_ObjectOk.bits6 (fun HT_ HW_ => ?_)
          generalize w42.drew = w43 at BK284 BK286 HB hHeld ⊢
          refine take_ (i := 0) (N := some 29) (v := ?_) (a' := ?_) (zm 20 1) rfl rfl (take_ofW HT_.out HW_.out (by kernel_rfl)) (fun _ _ _ h => h) (Or.inl ⟨by rfl, ?_⟩) hHeld ?_ ?_
          rotate_left
          ·rintro w' ⟨s0, s1, s2, s3, s4, s5, s6⟩
           go_simp
           with_reducible rfl
          rotate_left
          ·simp only [Act.put, List.setIfInBounds_toArray, List.set_cons_zero, List.set_cons_succ, i64_w, i32_w]
           rfl
          refine take_ (i := 1) (N := some 30) (v := ?_) (a' := ?_) (zm 20 3) rfl rfl (take_ofW HT_.out HW_.out (by kernel_rfl)) (fun _ _ _ h => h) (Or.inl ⟨by rfl, ?_⟩) hHeld ?_ ?_
          rotate_left
          ·rintro w' ⟨s0, s1, s2, s3, s4, s5, s6⟩
           go_simp
           with_reducible rfl
          rotate_left
          ·simp only [Act.put, List.setIfInBounds_toArray, List.set_cons_zero, List.set_cons_succ, i64_w, i32_w]
           rfl
          refine one_ (i := 2) (N := some 31) (zm 20 7) rfl rfl (one_of HT_.out (by kernel_rfl)) (by decide) (fun K hK => ?_)
          refine zi Try.func19 #[.agg #[.slice A0_0 l0_0.length c0_0, .slice (some ad285) l0_1.length c0_1, .slice A0_2 l0_2.length c0_2], .agg #[.string ((rd_T45 l0_1 x24_2).f0), .int .i64 ((rd_T45 l0_1 x24_2).f1), .int .i64 ((rd_T45 l0_1 x24_2).f2), .bool ((rd_T45 l0_1 x24_2).f3)]] ?_
          with_reducible refine (impl_isSymbol.calls k2 _ _ l0_0 _ _ l0_1 _ _ l0_2 ((rd_T45 l0_1 x24_2).f0) ((rd_T45 l0_1 x24_2).f1) ((rd_T45 l0_1 x24_2).f2) ((rd_T45 l0_1 x24_2).f3) false _ ?side1 ?side2 ?side3 ?side4 ?side5 ?side6 A14.out).mono ?_
          (case side1 => repeat (first | exact (Kd.C_below HR0_0.out HB.out) | (with_reducible refine Kd.C_alloc ?_ _) | (with_reducible refine Kd.C_drewN ?_ _) | (with_reducible refine Kd.C_drew ?_)))
          (case side2 => exact HC0_0.out)
          (case side3 => repeat (first | exact (Kd.C_below HR0_1.out HB.out) | (with_reducible refine Kd.C_alloc ?_ _) | (with_reducible refine Kd.C_drewN ?_ _) | (with_reducible refine Kd.C_drew ?_)))
          (case side4 => exact HC0_1.out)
          (case side5 => repeat (first | exact (Kd.C_below HR0_2.out HB.out) | (with_reducible refine Kd.C_alloc ?_ _) | (with_reducible refine Kd.C_drewN ?_ _) | (with_reducible refine Kd.C_drew ?_)))
          (case side6 => exact HC0_2.out)
          rintro e w44 ⟨rfl, hb⟩
          refine ⟨_, rfl, ?_⟩
          have n0_ := zk BK284 hb
          have n1_ := zk BK286 hb
          have n2_ := zt w hb
          clear BK284
          clear BK286
          clear HB
          have BK284 := n0_
          have BK286 := n1_
          have HB := n2_
          clear n0_ n1_ n2_
          (try clear hb)
          (try clear hb2)
          (try clear hk)
          (try clear hi)
          refine hK.out _ _ ⟨(blk_cell BK284.out 0).trans rfl, (blk_cell BK284.out 1).trans rfl, (blk_cell BK284.out 2).trans rfl, (blk_cell BK286.out 0).trans rfl, (blk_cell BK286.out 1).trans rfl, (blk_cell BK286.out 2).trans rfl, (blk_cell BK286.out 3).trans rfl⟩ (fun hHeld => ?_)
          clear hK K
          refine zq ?_
          refine zp 3 32 (zm 20 15) ?_
          refine zp 4 33 (zm 20 31) ?_
          refine zu 5 34 (zm 20 63) ?_
          refine zu 6 35 (zm 20 127) ?_
          refine zu 7 36 (zm 20 255) ?_
          refine zu 8 37 (zm 20 511) ?_
          refine zu 9 38 (zm 20 1023) ?_
          refine zu 10 39 (zm 20 2047) ?_
          refine zu 11 40 (zm 20 4095) ?_
          refine zu 12 41 (zm 20 8191) ?_
          refine zu 13 42 (zm 20 16383) ?_
          refine zu 14 43 (zm 20 32767) ?_
          refine zu 15 44 (zm 20 65535) ?_
          refine zu 16 45 (zm 20 131071) ?_
          refine zu 17 46 (zm 20 262143) ?_
          refine zu 18 47 (zm 20 524287) ?_
          refine zp 19 48 (zm 20 1048575) ?_
          refine done_ (done_of HT_.out (by kernel_rfl)) ?_
          try go_wp2
          go_ret
          exact ⟨ze _, zb _⟩
        ·rw [if_neg c13] at H
         exact absurd H (by simp)
       ·rw [if_neg c12] at H
        exact absurd H (by simp)
      ·rw [if_neg c11] at H
       have c11b0 : decide (x24_2 < (l0_1.length : Int)) = false := decide_eq_false c11
       clear c11
       obtain ⟨t289, A450, H⟩ := Option.bind_eq_some_iff.mp H
       have A45 := Aside0.mk A450
       clear A450
       by_cases c46 : t289 = true
       ·subst c46
        rw [if_pos rfl] at H
        obtain rfl := Option.some.inj H
        have hcz47_0 := zc0 BK284
        have hcz47_1 := zc1 BK284
        have hcz47_2 := zc2 BK284
        have hfz47_0 := blk_frozen BK284.out 0
        have hfz47_1 := blk_frozen BK284.out 1
        have hfz47_2 := blk_frozen BK284.out 2
        go_wp2_with (first | ((with_reducible refine gate_callee (f := 20) rfl ?_); refine zc (some 52) Try.func20 #[.slice A0_0 l0_0.length c0_0, .func (.func 21) #[] #[]] ?_; (with_reducible refine (impl_Section.calls k2 _ _ l0_0 () true _ ?side1 ?side2 A45.out).mono ?_); (case side1 => repeat (first | exact (Kd.C_below HR0_0.out HB.out) | (with_reducible refine Kd.C_alloc ?_ _) | (with_reducible refine Kd.C_drewN ?_ _) | (with_reducible refine Kd.C_drew ?_))); (case side2 => exact HC0_0.out); rintro e w48 ⟨rfl, hb⟩; refine ⟨_, rfl, ?_⟩; replace BK284 := zk BK284 hb; replace HB := zt w hb; (try clear hb); (try clear hb2); (try clear hk); (try clear hi)))
        go_ret
        exact ⟨ze _, zb _⟩
       ·replace c46 := Bool.eq_false_iff.mpr c46
        subst c46
        rw [if_neg (show ¬ (false = true) by decide)] at H
        obtain ⟨t290, A490, H⟩ := Option.bind_eq_some_iff.mp H
        have A49 := Aside0.mk A490
        clear A490
        obtain rfl := Option.some.inj H
        have hcz50_0 := zc0 BK284
        have hcz50_1 := zc1 BK284
        have hcz50_2 := zc2 BK284
        have hfz50_0 := blk_frozen BK284.out 0
        have hfz50_1 := blk_frozen BK284.out 1
        have hfz50_2 := blk_frozen BK284.out 2
        go_wp2_with (first | ((with_reducible refine gate_callee (f := 20) rfl ?_); refine zc (some 52) Try.func20 #[.slice A0_0 l0_0.length c0_0, .func (.func 21) #[] #[]] ?_; (with_reducible refine (impl_Section.calls k2 _ _ l0_0 () false _ ?side1 ?side2 A45.out).mono ?_); (case side1 => repeat (first | exact (Kd.C_below HR0_0.out HB.out) | (with_reducible refine Kd.C_alloc ?_ _) | (with_reducible refine Kd.C_drewN ?_ _) | (with_reducible refine Kd.C_drew ?_))); (case side2 => exact HC0_0.out); rintro e w51 ⟨rfl, hb⟩; refine ⟨_, rfl, ?_⟩; replace BK284 := zk BK284 hb; replace HB := zt w hb; (try clear hb); (try clear hb2); (try clear hk); (try clear hi); have hcz52_0 := zc0 BK284; have hcz52_1 := zc1 BK284; have hcz52_2 := zc2 BK284; have hfz52_0 := blk_frozen BK284.out 0; have hfz52_1 := blk_frozen BK284.out 1; have hfz52_2 := blk_frozen BK284.out 2) | (go_at_call 23; (with_reducible refine (impl_ENode.calls k2 _ _ l0_2 () t290 _ ?side1 ?side2 A49.out).mono ?_); (case side1 => repeat (first | exact (Kd.C_below HR0_2.out HB.out) | (with_reducible refine Kd.C_alloc ?_ _) | (with_reducible refine Kd.C_drewN ?_ _) | (with_reducible refine Kd.C_drew ?_))); (case side2 => exact HC0_2.out); rintro e w53 ⟨rfl, hb⟩; replace BK284 := zk BK284 hb; replace HB := zt w hb; (try clear hb); (try clear hb2); (try clear hk); (try clear hi)))
        go_ret
        exact ⟨ze _, zb _⟩

end Go.Proofs.Ytbbngeooodcbcaa.PFnExactObjectOk
