/- What the Go functions that the law FnExactReadSyms reaches compute, function by function, and that Go comes to just that. -/
import Derived.Test.YtmiebnpmckjidaaDoorPFnExactReadSymsx0
import Derived.Test.YtmiebnpmckjidaaDoorAidZ
import Derived.Test.YtmiebnpmckjidaaDoorPFnExactReadSymsx1
import Derived.Test.YtmiebnpmckjidaaDoorPFnExactReadSymsx2
namespace Go.Proofs.YtmiebnpmckjidaaDoor.PFnExactReadSyms
open Go.RowKit Go.Proofs.YtmiebnpmckjidaaDoor.Z Go.Proofs.YtmiebnpmckjidaaDoorW.PrintWords Go.Proofs.YtmiebnpmckjidaaDoorW.PrintLast Go.Proofs.YtmiebnpmckjidaaDoorW.PrintMore
attribute [local go_sem] max2_int min2_int max_two min_two max_three min_three max_four min_four   -- for this text's walks alone
set_option linter.unusedVariables false
set_option linter.unusedSimpArgs false

/-! ### spec_SymText: function 17 -/
mutual
def spec_SymText.l0 : Nat → List (S61) → ByteArray → Int → Option (ByteArray)
  | 0, _, _, _ => none
  | k + 1, x0, x3, x4 => if x4 < (x0.length : Int) then (if 0 ≤ x4 then ((spec_NameOk.f k ((rd_T61 x0 x4).f0)).bind fun t114 => (if t114 = true then ((spec_l4Byte.f ((rd_T61 x0 x4).f1)).bind fun t115 => (if t115 = true then ((spec_l4Word.f ((rd_T61 x0 x4).f2)).bind fun t116 => (if t116 = true then (if x4 > 0 then (if 0 ≤ (wrap64 (x4 - 1)) then (if (wrap64 (x4 - 1)) < (x0.length : Int) then (if ((Op.bytesLess (((rd_T61 x0 (wrap64 (x4 - 1))).f0).toList) (((rd_T61 x0 x4).f0).toList)) = true) then (spec_SymText.j1 k x0 x3 x4 (decide (x4 ≥ 800)) ((rd_T61 x0 x4).f0) ((rd_T61 x0 x4).f1) ((rd_T61 x0 x4).f2)) else (spec_SymText.j1 k x0 x3 x4 true ((rd_T61 x0 x4).f0) ((rd_T61 x0 x4).f1) ((rd_T61 x0 x4).f2))) else (none)) else (none)) else (spec_SymText.j1 k x0 x3 x4 (decide (x4 ≥ 800)) ((rd_T61 x0 x4).f0) ((rd_T61 x0 x4).f1) ((rd_T61 x0 x4).f2))) else (spec_SymText.j1 k x0 x3 x4 true ((rd_T61 x0 x4).f0) ((rd_T61 x0 x4).f1) ((rd_T61 x0 x4).f2)))) else (spec_SymText.j1 k x0 x3 x4 true ((rd_T61 x0 x4).f0) ((rd_T61 x0 x4).f1) ((rd_T61 x0 x4).f2)))) else (spec_SymText.j1 k x0 x3 x4 true ((rd_T61 x0 x4).f0) ((rd_T61 x0 x4).f1) ((rd_T61 x0 x4).f2)))) else (none)) else (some x3)
def spec_SymText.j1 : Nat → List (S61) → ByteArray → Int → Bool → ByteArray → Int → Int → Option (ByteArray)
  | 0, _, _, _, _, _, _, _ => none
  | k + 1, x0, x3, x4, x50, x114000, x114001, x114002 => if x50 = true then (some (⟨#[]⟩ : ByteArray)) else ((spec_HexOf.f k x114001 2).bind fun t118 => (if 1 ≤ (t118.size : Int) then (if x3.size + (t118.extract 1 t118.size).size ≤ 9223372036854775807 then (if (x3 ++ (t118.extract 1 t118.size)).size + 1 ≤ 9223372036854775807 then ((spec_HexOf.f k x114002 4).bind fun t119 => (if 1 ≤ (t119.size : Int) then (if ((x3 ++ (t118.extract 1 t118.size)) ++ (⟨#[58]⟩ : ByteArray)).size + (t119.extract 1 t119.size).size ≤ 9223372036854775807 then (if (((x3 ++ (t118.extract 1 t118.size)) ++ (⟨#[58]⟩ : ByteArray)) ++ (t119.extract 1 t119.size)).size + 1 ≤ 9223372036854775807 then (if ((((x3 ++ (t118.extract 1 t118.size)) ++ (⟨#[58]⟩ : ByteArray)) ++ (t119.extract 1 t119.size)) ++ (⟨#[32]⟩ : ByteArray)).size + x114000.size ≤ 9223372036854775807 then (if (((((x3 ++ (t118.extract 1 t118.size)) ++ (⟨#[58]⟩ : ByteArray)) ++ (t119.extract 1 t119.size)) ++ (⟨#[32]⟩ : ByteArray)) ++ x114000).size + 1 ≤ 9223372036854775807 then (spec_SymText.l0 k x0 ((((((x3 ++ (t118.extract 1 t118.size)) ++ (⟨#[58]⟩ : ByteArray)) ++ (t119.extract 1 t119.size)) ++ (⟨#[32]⟩ : ByteArray)) ++ x114000) ++ (⟨#[10]⟩ : ByteArray)) (wrap64 (x4 + 1))) else (none)) else (none)) else (none)) else (none)) else (none))) else (none)) else (none)) else (none)))
end
def spec_SymText.f (k : Nat) (l0 : List (S61)) : Option (ByteArray) := spec_SymText.l0 k l0 (⟨#[]⟩ : ByteArray) 0
theorem spec_SymText.mono_l : ∀ k, (∀ y0 y1 y2, LeO (spec_SymText.l0 k y0 y1 y2) (spec_SymText.l0 (k + 1) y0 y1 y2)) ∧ (∀ y0 y1 y2 y3 y4 y5 y6, LeO (spec_SymText.j1 k y0 y1 y2 y3 y4 y5 y6) (spec_SymText.j1 (k + 1) y0 y1 y2 y3 y4 y5 y6))
  | 0 => ⟨fun _ _ _ r h => by simp [spec_SymText.l0] at h, fun _ _ _ _ _ _ _ r h => by simp [spec_SymText.j1] at h⟩
  | k + 1 => by
    obtain ⟨ih0, ih1⟩ := spec_SymText.mono_l k
    refine ⟨?_, ?_⟩
    · intro y0 y1 y2
      unfold spec_SymText.l0
      repeat' first
      | (with_reducible exact ih0 _ _ _)
      | (with_reducible exact ih1 _ _ _ _ _ _ _)
      | (with_reducible exact spec_HexOf.mono _ _ _)
      | (with_reducible exact spec_NameOk.mono _ _)
      | (with_reducible exact LeO.refl _)
      | (with_reducible exact LeO.none _)
      | (with_reducible refine LeO.ite ?_ ?_)
      | (with_reducible refine LeO.bind ?_ (fun _ => ?_))
      | exact ih0 _ _ _
      | exact ih1 _ _ _ _ _ _ _
      | exact spec_HexOf.mono _ _ _
      | exact spec_NameOk.mono _ _
      | exact LeO.none _
      | refine LeO.ite ?_ ?_
      | refine LeO.bind ?_ (fun _ => ?_)
    · intro y0 y1 y2 y3 y4 y5 y6
      unfold spec_SymText.j1
      repeat' first
      | (with_reducible exact ih0 _ _ _)
      | (with_reducible exact ih1 _ _ _ _ _ _ _)
      | (with_reducible exact spec_HexOf.mono _ _ _)
      | (with_reducible exact spec_NameOk.mono _ _)
      | (with_reducible exact LeO.refl _)
      | (with_reducible exact LeO.none _)
      | (with_reducible refine LeO.ite ?_ ?_)
      | (with_reducible refine LeO.bind ?_ (fun _ => ?_))
      | exact ih0 _ _ _
      | exact ih1 _ _ _ _ _ _ _
      | exact spec_HexOf.mono _ _ _
      | exact spec_NameOk.mono _ _
      | exact LeO.none _
      | refine LeO.ite ?_ ?_
      | refine LeO.bind ?_ (fun _ => ?_)
theorem spec_SymText.mono : ∀ a0 k, LeO (spec_SymText.f k a0) (spec_SymText.f (k + 1) a0) := by
  intro a0 k
  obtain ⟨ih0, ih1⟩ := spec_SymText.mono_l k
  unfold spec_SymText.f
  repeat' first
      | (with_reducible exact ih0 _ _ _)
      | (with_reducible exact ih1 _ _ _ _ _ _ _)
      | (with_reducible exact spec_HexOf.mono _ _ _)
      | (with_reducible exact spec_NameOk.mono _ _)
      | (with_reducible exact LeO.refl _)
      | (with_reducible exact LeO.none _)
      | (with_reducible refine LeO.ite ?_ ?_)
      | (with_reducible refine LeO.bind ?_ (fun _ => ?_))
      | exact ih0 _ _ _
      | exact ih1 _ _ _ _ _ _ _
      | exact spec_HexOf.mono _ _ _
      | exact spec_NameOk.mono _ _
      | exact LeO.none _
      | refine LeO.ite ?_ ?_
      | refine LeO.bind ?_ (fun _ => ?_)
def spec_SymText.T6 : Bool × List (List Nat × List Nat) := (true, [([], []), ([0], [0]), ([1], [1]), ([2], [2]), ([3, 2], [3]), ([4], [4]), ([5, 4], [4, 5]), ([6, 4, 4], [4, 6]), ([7, 4], [4, 7]), ([4, 8], [4, 8]), ([9, 7], [9]), ([10], [10]), ([11, 10], [10, 11]), ([12, 10, 10], [10, 12]), ([13, 10], [10, 13]), ([10, 14], [10, 14]), ([15, 13], [15]), ([16], [16]), ([17, 16], [16, 17]), ([18, 16, 16], [16, 18]), ([19], [19]), ([19], [19]), ([21, 19], [19, 21]), ([20, 22, 19], [19, 20, 22]), ([23, 19], [19, 23]), ([24, 19], [19, 24]), ([19], [19]), ([26, 19], [19, 26]), ([25, 27, 19], [19, 25, 27]), ([19, 28, 16], [16, 19, 28]), ([16, 29], [16, 29]), ([30, 19], [30]), ([31], [31]), ([32, 31], [31, 32]), ([31, 33], [31, 33])])
def spec_SymText.B6 : List Nat := [0, 1, 3, 7, 15, 31, 63, 127, 255, 511, 1023, 2047, 4095, 8191, 16383, 32767, 65535, 131071, 262143, 524287, 1048575, 1048575, 3145727, 8388607, 16777215, 33554431, 1048575, 68157439, 268435455, 536870911, 1073741823, 2147483647, 4294967295, 8589934591, 17179869183]
theorem spec_SymText.tab6 : rtab .any (opsOf Tryd.f17 6) = spec_SymText.T6 := by kernel_rfl
theorem spec_SymText.bits6 : waitsOk spec_SymText.T6.2 spec_SymText.B6 = true := by kernel_rfl
def spec_SymText.T8 : Bool × List (List Nat × List Nat) := (true, [([], []), ([], []), ([1], [1]), ([2], [2]), ([3], [3]), ([0, 4], [0, 4]), ([5], [5]), ([], []), ([7], [7]), ([8, 3], [8]), ([9], [9]), ([6, 10], [6, 10]), ([11], [11]), ([], []), ([13], [13]), ([12, 14], [12, 14]), ([15], [15]), ([16, 9, 0, 1, 2, 3, 4, 5, 6, 7, 8, 9, 10, 11, 12, 13, 14, 15, 16], [0, 16])])
def spec_SymText.B8 : List Nat := [0, 0, 2, 6, 14, 31, 63, 0, 128, 398, 910, 2047, 4095, 0, 8192, 32767, 65535, 131071]
theorem spec_SymText.tab8 : rtab .any (opsOf Tryd.f17 8) = spec_SymText.T8 := by kernel_rfl
theorem spec_SymText.bits8 : waitsOk spec_SymText.T8.2 spec_SymText.B8 = true := by kernel_rfl
set_option maxHeartbeats 8000000 in
set_option maxRecDepth 100000 in
theorem spec_SymText.calls (k : Nat) (A0 : Option Addr) (c0 : Nat) (l0 : List (S61)) (r : ByteArray) (w : World) (hr0 : Kd.C k61 w A0 l0.length l0) (hc0 : l0.length ≤ c0) (h : spec_SymText.f k l0 = some r) :
 Calls Tryd.prog 17 #[.slice A0 l0.length c0] w fun e w' => e = .returned (.string r) ∧ Below w.heap.size w w' := by
 have hu61 := Tryd.underlying61
 have HR0 := Aside0.mk hr0
 have HC0 := Aside0.mk hc0
 clear hr0 hc0
 have HB := Aside0.mk (Below.refl w.heap.size w)
 have H : (spec_SymText.l0 k l0 (⟨#[]⟩ : ByteArray) 0) = some r := h
 clear h
 have H' := Aside0.mk H
 clear H
 go_enter Tryd.func17, Tryd.ntmps17
 go_wp2
 go_loopg [3, 4] k (fun kq v3 v4 w' => ∃ (x3_1 : ByteArray) (x4_1 : Int), v3 = .string x3_1 ∧ v4 = .int .i64 x4_1 ∧ Aside0 (spec_SymText.l0 kq l0 x3_1 x4_1 = some r) ∧ Aside0 (kq ≤ k) ∧ Aside0 (Below w.heap.size w w'))
 case atStart => exact ⟨((⟨#[]⟩ : ByteArray)), (0), (zE _), (zE _), H', ⟨Nat.le_refl _⟩, ⟨zb _⟩⟩
 case round =>
  clear H'
  try clear c1
  obtain ⟨x3_1, x4_1, rfl, rfl, HA, HK1, HB⟩ := hrel
  cases gk with
  | zero => exact absurd HA.out (by simp [spec_SymText.l0])
  | succ k1 =>
   have H := HA.out
   clear HA
   simp only [spec_SymText.l0] at H
   by_cases c2 : x4_1 < (l0.length : Int)
   ·rw [if_pos c2] at H
    have c2b0 : decide (x4_1 < (l0.length : Int)) = true := decide_eq_true c2
    clear c2
    by_cases c3 : 0 ≤ x4_1
    ·rw [if_pos c3] at H
     have c3b0 : decide (0 ≤ x4_1) = true := decide_eq_true c3
     clear c3
     have HC4 := Aside0.mk H
     clear H
     have p112 : 0 ≤ (x4_1 : Int) := of_decide_eq_true (za _)
     have q112 : x4_1 < (l0.length : Int) := of_decide_eq_true (za _)
     obtain ⟨ad112, e112, hx112_0, hx112_1, hx112_2⟩ := at_T61 HR0.out x4_1 p112 q112
     cases e112
     replace hx112_0 := (HB.out.cell (World.block_lt_of_cell? w _ hx112_0)).trans hx112_0
     replace hx112_1 := (HB.out.cell (World.block_lt_of_cell? w _ hx112_1)).trans hx112_1
     replace hx112_2 := (HB.out.cell (World.block_lt_of_cell? w _ hx112_2)).trans hx112_2
     replace p112 := eq_true p112
     replace q112 := eq_true q112
     go_upto_region 6 with (first | ((with_reducible refine gate_dst (N := 5) rfl ?_); refine zbx 5 #[.string (⟨#[]⟩ : ByteArray), .int .i64 0, .int .i64 0] 61 ?_; intro gb113 hg w5 hbox hb; have BK113 := Aside0.mk (hbox); have GW113 := zs w hg; have GE113 := GW113; replace HB := zt w hb; clear hb hbox hg; have hcz6_0 := zc0 BK113; have hcz6_1 := zc1 BK113; have hcz6_2 := zc2 BK113; have hfz6_0 := blk_frozen BK113.out 0; have hfz6_1 := blk_frozen BK113.out 1; have hfz6_2 := blk_frozen BK113.out 2))
     (try simp only [Act.put, List.setIfInBounds_toArray, List.set_cons_zero, List.set_cons_succ])
     go_cut [50] (fun v50 wc => ∃ (kq : Nat) (x50_3 : Bool), v50 = .bool x50_3 ∧ Aside0 (spec_SymText.j1 kq l0 x3_1 x4_1 x50_3 ((rd_T61 l0 x4_1).f0) ((rd_T61 l0 x4_1).f1) ((rd_T61 l0 x4_1).f2) = some r) ∧ Aside0 (kq ≤ k1) ∧ Aside0 (wc.heap[gb113]? = some (.cells #[.string ((rd_T61 l0 x4_1).f0), .int .i64 ((rd_T61 l0 x4_1).f1), .int .i64 ((rd_T61 l0 x4_1).f2)] 61 (0, 0))) ∧ Aside0 (Below w.heap.size w wc))
     case first =>
      have H := HC4.out
      clear HC4
      obtain ⟨t114, A70, H⟩ := Option.bind_eq_some_iff.mp H
      have A7 := Aside0.mk A70
      clear A70
      by_cases c8 : t114 = true
      ·subst c8
       rw [if_pos rfl] at H
       obtain ⟨t115, A90, H⟩ := Option.bind_eq_some_iff.mp H
       have A9 := Aside0.mk A90
       clear A90
       by_cases c10 : t115 = true
       ·subst c10
        rw [if_pos rfl] at H
        obtain ⟨t116, A110, H⟩ := Option.bind_eq_some_iff.mp H
        have A11 := Aside0.mk A110
        clear A110
        by_cases c12 : t116 = true
        ·subst c12
         rw [if_pos rfl] at H
         by_cases c13 : x4_1 > 0
         ·rw [if_pos c13] at H
          have c13b0 : decide (0 < x4_1) = true := decide_eq_true c13
          clear c13
          (first | rw [c13b0] | (simp only [i64_w, i32_w]; rw [c13b0]) | skip)
          obtain ⟨ji14, hji14⟩ : ∃ j_ : Int, (wrap64 (x4_1 - 1)) = j_ := ⟨_, rfl⟩
          replace H : (if 0 ≤ (ji14) then (if (ji14) < (l0.length : Int) then (if ((Op.bytesLess (((rd_T61 l0 (ji14)).f0).toList) (((rd_T61 l0 x4_1).f0).toList)) = true) then (spec_SymText.j1 k1 l0 x3_1 x4_1 (decide (x4_1 ≥ 800)) ((rd_T61 l0 x4_1).f0) ((rd_T61 l0 x4_1).f1) ((rd_T61 l0 x4_1).f2)) else (spec_SymText.j1 k1 l0 x3_1 x4_1 true ((rd_T61 l0 x4_1).f0) ((rd_T61 l0 x4_1).f1) ((rd_T61 l0 x4_1).f2))) else (none)) else (none)) = some r := by first | (rw [hji14] at H; exact H) | (simp only [hji14] at H ⊢; exact H)
          (try rw [hji14] at A7)
          (try rw [hji14] at A9)
          (try rw [hji14] at A11)
          have hji14w : (IntKind.i64.wrap (x4_1 - 1)) = ji14 := (i64_w _).trans hji14
          by_cases c15 : 0 ≤ (ji14)
          ·rw [if_pos c15] at H
           have c15b0 : decide (0 ≤ (ji14)) = true := decide_eq_true c15
           clear c15
           by_cases c16 : (ji14) < (l0.length : Int)
           ·rw [if_pos c16] at H
            have c16b0 : decide ((ji14) < (l0.length : Int)) = true := decide_eq_true c16
            clear c16
            by_cases c17 : ((Op.bytesLess (((rd_T61 l0 (ji14)).f0).toList) (((rd_T61 l0 x4_1).f0).toList)) = true)
            ·rw [if_pos c17] at H
             have c17b0 : (Op.bytesLess (((rd_T61 l0 (ji14)).f0).toList) (((rd_T61 l0 x4_1).f0).toList)) = true := c17
             have hgeq_ : ∀ W_ : World, (binOp BinOp.geq 9 (.string ((rd_T61 l0 (ji14)).f0)) (.string ((rd_T61 l0 x4_1).f0))).run Tryd.prog W_ = .ok (.bool (!true)) W_ := fun W_ => by rw [spec_l4Word.geqS, c17b0]
             clear c17
             have H' := Aside0.mk H
             clear H
             try go_wp2
             have n0_ : Aside0 ((((w5.setCell ⟨gb113, 0, none⟩ (.string ((rd_T61 l0 x4_1).f0))).setCell ⟨gb113, 1, none⟩ (.int .i64 ((rd_T61 l0 x4_1).f1))).setCell ⟨gb113, 2, none⟩ (.int .i64 ((rd_T61 l0 x4_1).f2))).heap[gb113]? = some (.cells #[.string ((rd_T61 l0 x4_1).f0), .int .i64 ((rd_T61 l0 x4_1).f1), .int .i64 ((rd_T61 l0 x4_1).f2)] 61 (0, 0))) := ⟨by (with_reducible repeat (first | refine blk_drewN ?_ _ | refine blk_drew ?_ | refine blk_alloc ?_ _)); refine blk_put (cs := #[.string ((rd_T61 l0 x4_1).f0), .int .i64 ((rd_T61 l0 x4_1).f1), .int .i64 0]) ?_ 2 _ rfl; (with_reducible repeat (first | refine blk_drewN ?_ _ | refine blk_drew ?_ | refine blk_alloc ?_ _)); refine blk_put (cs := #[.string ((rd_T61 l0 x4_1).f0), .int .i64 0, .int .i64 0]) ?_ 1 _ rfl; (with_reducible repeat (first | refine blk_drewN ?_ _ | refine blk_drew ?_ | refine blk_alloc ?_ _)); refine blk_put (cs := #[.string (⟨#[]⟩ : ByteArray), .int .i64 0, .int .i64 0]) ?_ 0 _ rfl; (with_reducible repeat (first | refine blk_drewN ?_ _ | refine blk_drew ?_ | refine blk_alloc ?_ _)); exact BK113.out⟩
             have n1_ : Aside0 (Below w.heap.size w (((w5.setCell ⟨gb113, 0, none⟩ (.string ((rd_T61 l0 x4_1).f0))).setCell ⟨gb113, 1, none⟩ (.int .i64 ((rd_T61 l0 x4_1).f1))).setCell ⟨gb113, 2, none⟩ (.int .i64 ((rd_T61 l0 x4_1).f2)))) := ⟨zb _⟩
             (try clear BK113)
             (try clear HB)
             generalize (((w5.setCell ⟨gb113, 0, none⟩ (.string ((rd_T61 l0 x4_1).f0))).setCell ⟨gb113, 1, none⟩ (.int .i64 ((rd_T61 l0 x4_1).f1))).setCell ⟨gb113, 2, none⟩ (.int .i64 ((rd_T61 l0 x4_1).f2))) = w18 at n0_ n1_ ⊢
             have BK113 := n0_
             have HB := n1_
             clear n0_ n1_
             have n0_ := Aside0.mk (blk_drew BK113.out)
             have n1_ := Aside0.mk (below_drew1 HB.out)
             clear BK113
             clear HB
             have BK113 := n0_
             have HB := n1_
             clear n0_ n1_
             have p117 : 0 ≤ ((ji14) : Int) := of_decide_eq_true (za _)
             have q117 : (ji14) < (l0.length : Int) := of_decide_eq_true (za _)
             obtain ⟨ad117, e117, hx117_0, hx117_1, hx117_2⟩ := at_T61 HR0.out (ji14) p117 q117
             have hw117_2 := hx117_2
             have hw117_1 := hx117_1
             have hw117_0 := hx117_0
             obtain rfl : ad112 = ad117 := (by injection e117)
             replace hx117_0 := (HB.out.cell (World.block_lt_of_cell? w _ hx117_0)).trans hx117_0
             replace hx117_1 := (HB.out.cell (World.block_lt_of_cell? w _ hx117_1)).trans hx117_1
             replace hx117_2 := (HB.out.cell (World.block_lt_of_cell? w _ hx117_2)).trans hx117_2
             replace p117 := eq_true p117
             replace q117 := eq_true q117
             refine start_ (n := 35) (S := fun w' => w'.cell? ⟨gb113, 0, none⟩ = some (.string ((rd_T61 l0 x4_1).f0)) ∧ w'.cell? ⟨gb113, 1, none⟩ = some (.int .i64 ((rd_T61 l0 x4_1).f1)) ∧ w'.cell? ⟨gb113, 2, none⟩ = some (.int .i64 ((rd_T61 l0 x4_1).f2)) ∧ w'.cell? (ad112.add (((ji14)).toNat * 3)) = some (.string ((rd_T61 l0 (ji14)).f0)) ∧ w'.cell? ⟨(ad112.add (((ji14)).toNat * 3)).block, (ad112.add (((ji14)).toNat * 3)).off + 1, none⟩ = some (.int .i64 ((rd_T61 l0 (ji14)).f1)) ∧ w'.cell? ⟨(ad112.add (((ji14)).toNat * 3)).block, (ad112.add (((ji14)).toNat * 3)).off + 2, none⟩ = some (.int .i64 ((rd_T61 l0 (ji14)).f2))) (ds := []) (zm 35 0) (by kernel_rfl) rfl rfl ⟨(blk_cell BK113.out 0).trans rfl, (blk_cell BK113.out 1).trans rfl, (blk_cell BK113.out 2).trans rfl, ((HB.out.cell (World.block_lt_of_cell? w _ hw117_0)).trans hw117_0), ((HB.out.cell (World.block_lt_of_cell? w _ hw117_1)).trans hw117_1), ((HB.out.cell (World.block_lt_of_cell? w _ hw117_2)).trans hw117_2)⟩ (fun hHeld => ?_); refine with_tabW spec_SymText.tab6 spec_SymText.bits6 (fun HT_ HW_ => ?_)
             generalize w18.drew = w19 at BK113 HB hx117_0 hx117_1 hx117_2 hHeld ⊢
             refine zp 0 16 (zm 35 1) ?_
             refine take_ (i := 1) (N := some 17) (v := ?_) (a' := ?_) (zm 35 3) rfl rfl (take_ofW HT_.out HW_.out (by kernel_rfl)) (fun _ _ _ h => h) (Or.inl ⟨by rfl, ?_⟩) hHeld ?_ ?_
             rotate_left
             ·rintro w' ⟨s0, s1, s2, s3, s4, s5⟩
              go_simp
              with_reducible rfl
             rotate_left
             ·simp only [Act.put, List.setIfInBounds_toArray, List.set_cons_zero, List.set_cons_succ, i64_w, i32_w]
              rfl
             refine one_ (i := 2) (N := some 18) (zm 35 7) rfl rfl (one_of HT_.out (by kernel_rfl)) (by decide) (fun K hK => ?_)
             refine zi Tryd.func51 #[.string ((rd_T61 l0 x4_1).f0)] ?_
             with_reducible refine (spec_NameOk.calls k1 ((rd_T61 l0 x4_1).f0) true _ A7.out).mono ?_
             rintro e w' ⟨rfl, ⟨nd, rfl⟩⟩
             refine ⟨_, rfl, ?_⟩
             refine hK.out _ _ ⟨(blk_cell BK113.out 0).trans rfl, (blk_cell BK113.out 1).trans rfl, (blk_cell BK113.out 2).trans rfl, ((HB.out.cell (World.block_lt_of_cell? w _ hw117_0)).trans hw117_0), ((HB.out.cell (World.block_lt_of_cell? w _ hw117_1)).trans hw117_1), ((HB.out.cell (World.block_lt_of_cell? w _ hw117_2)).trans hw117_2)⟩ (fun hHeld => ?_)
             clear hK K
             refine zq ?_
             refine zp 3 19 (zm 35 15) ?_
             refine zp 4 20 (zm 35 31) ?_
             refine zp 5 21 (zm 35 63) ?_
             refine take_ (i := 6) (N := some 22) (v := ?_) (a' := ?_) (zm 35 127) rfl rfl (take_ofW HT_.out HW_.out (by kernel_rfl)) (fun _ _ _ h => h) (Or.inl ⟨by rfl, ?_⟩) hHeld ?_ ?_
             rotate_left
             ·rintro w' ⟨s0, s1, s2, s3, s4, s5⟩
              go_simp
              with_reducible rfl
             rotate_left
             ·simp only [Act.put, List.setIfInBounds_toArray, List.set_cons_zero, List.set_cons_succ, i64_w, i32_w]
              rfl
             refine one_ (i := 7) (N := some 23) (zm 35 255) rfl rfl (one_of HT_.out (by kernel_rfl)) (by decide) (fun K hK => ?_)
             refine zi Tryd.func52 #[.int .i64 ((rd_T61 l0 x4_1).f1)] ?_
             with_reducible refine (spec_l4Byte.calls ((rd_T61 l0 x4_1).f1) true _ A9.out).mono ?_
             rintro e w' ⟨rfl, ⟨nd, rfl⟩⟩
             refine ⟨_, rfl, ?_⟩
             refine hK.out _ _ ⟨(blk_cell BK113.out 0).trans rfl, (blk_cell BK113.out 1).trans rfl, (blk_cell BK113.out 2).trans rfl, ((HB.out.cell (World.block_lt_of_cell? w _ hw117_0)).trans hw117_0), ((HB.out.cell (World.block_lt_of_cell? w _ hw117_1)).trans hw117_1), ((HB.out.cell (World.block_lt_of_cell? w _ hw117_2)).trans hw117_2)⟩ (fun hHeld => ?_)
             clear hK K
             refine zq ?_
             refine zp 8 24 (zm 35 511) ?_
             refine zp 9 25 (zm 35 1023) ?_
             refine zp 10 26 (zm 35 2047) ?_
             refine zp 11 27 (zm 35 4095) ?_
             refine take_ (i := 12) (N := some 28) (v := ?_) (a' := ?_) (zm 35 8191) rfl rfl (take_ofW HT_.out HW_.out (by kernel_rfl)) (fun _ _ _ h => h) (Or.inl ⟨by rfl, ?_⟩) hHeld ?_ ?_
             rotate_left
             ·rintro w' ⟨s0, s1, s2, s3, s4, s5⟩
              go_simp
              with_reducible rfl
             rotate_left
             ·simp only [Act.put, List.setIfInBounds_toArray, List.set_cons_zero, List.set_cons_succ, i64_w, i32_w]
              rfl
             refine one_ (i := 13) (N := some 29) (zm 35 16383) rfl rfl (one_of HT_.out (by kernel_rfl)) (by decide) (fun K hK => ?_)
             refine zi Tryd.func53 #[.int .i64 ((rd_T61 l0 x4_1).f2)] ?_
             with_reducible refine (spec_l4Word.calls ((rd_T61 l0 x4_1).f2) true _ A11.out).mono ?_
             rintro e w' ⟨rfl, ⟨nd, rfl⟩⟩
             refine ⟨_, rfl, ?_⟩
             refine hK.out _ _ ⟨(blk_cell BK113.out 0).trans rfl, (blk_cell BK113.out 1).trans rfl, (blk_cell BK113.out 2).trans rfl, ((HB.out.cell (World.block_lt_of_cell? w _ hw117_0)).trans hw117_0), ((HB.out.cell (World.block_lt_of_cell? w _ hw117_1)).trans hw117_1), ((HB.out.cell (World.block_lt_of_cell? w _ hw117_2)).trans hw117_2)⟩ (fun hHeld => ?_)
             clear hK K
             refine zq ?_
             refine zp 14 30 (zm 35 32767) ?_
             refine zp 15 31 (zm 35 65535) ?_
             refine zp 16 32 (zm 35 131071) ?_
             refine zp 17 33 (zm 35 262143) ?_
             refine zp 18 34 (zm 35 524287) ?_
             refine zp 19 35 (zm 35 1048575) ?_
             refine zp 20 36 (zm 35 2097151) ?_
             refine zp 21 37 (zm 35 4194303) ?_
             refine zp 22 38 (zm 35 8388607) ?_
             refine zp 23 39 (zm 35 16777215) ?_
             refine zp 24 40 (zm 35 33554431) ?_
             refine zp 26 42 (zm 35 100663295) ?_
             refine take_ (i := 25) (N := some 41) (v := ?_) (a' := ?_) (zm 35 134217727) rfl rfl (take_ofW HT_.out HW_.out (by kernel_rfl)) (fun _ _ _ h => h) (Or.inl ⟨by rfl, ?_⟩) hHeld ?_ ?_
             rotate_left
             ·rintro w' ⟨s0, s1, s2, s3, s4, s5⟩
              go_simp
              with_reducible rfl
             rotate_left
             ·simp only [Act.put, List.setIfInBounds_toArray, List.set_cons_zero, List.set_cons_succ, i64_w, i32_w]
              rfl
             refine take_ (i := 27) (N := some 43) (v := ?_) (a' := ?_) (zm 35 268435455) rfl rfl (take_ofW HT_.out HW_.out (by kernel_rfl)) (fun _ _ _ h => h) (Or.inl ⟨by rfl, ?_⟩) hHeld ?_ ?_
             rotate_left
             ·rintro w' ⟨s0, s1, s2, s3, s4, s5⟩
              go_simp
              with_reducible rfl
             rotate_left
             ·simp only [Act.put, List.setIfInBounds_toArray, List.set_cons_zero, List.set_cons_succ, i64_w, i32_w]
              rfl
             refine zp 28 44 (zm 35 536870911) ?_
             refine zp 29 45 (zm 35 1073741823) ?_
             refine zp 30 46 (zm 35 2147483647) ?_
             refine zp 31 47 (zm 35 4294967295) ?_
             refine zp 32 48 (zm 35 8589934591) ?_
             refine zp 33 49 (zm 35 17179869183) ?_
             refine zp 34 50 (zm 35 34359738367) ?_
             refine done_ (done_of HT_.out (by kernel_rfl)) ?_
             try go_wp2
             go_meet
             case rel => exact ⟨_, (decide (x4_1 ≥ 800)), (zE _), H', ⟨by have := HK1.out; first | omega | exact Nat.le_refl _⟩, ⟨by (with_reducible repeat (first | refine blk_drewN ?_ _ | refine blk_drew ?_ | refine blk_alloc ?_ _)); exact BK113.out⟩, ⟨zb _⟩⟩
            ·rw [if_neg c17] at H
             have c17b0 : (Op.bytesLess (((rd_T61 l0 (ji14)).f0).toList) (((rd_T61 l0 x4_1).f0).toList)) = false := by simpa using c17
             have hgeq_ : ∀ W_ : World, (binOp BinOp.geq 9 (.string ((rd_T61 l0 (ji14)).f0)) (.string ((rd_T61 l0 x4_1).f0))).run Tryd.prog W_ = .ok (.bool (!false)) W_ := fun W_ => by rw [spec_l4Word.geqS, c17b0]
             clear c17
             have H' := Aside0.mk H
             clear H
             try go_wp2
             have n0_ : Aside0 ((((w5.setCell ⟨gb113, 0, none⟩ (.string ((rd_T61 l0 x4_1).f0))).setCell ⟨gb113, 1, none⟩ (.int .i64 ((rd_T61 l0 x4_1).f1))).setCell ⟨gb113, 2, none⟩ (.int .i64 ((rd_T61 l0 x4_1).f2))).heap[gb113]? = some (.cells #[.string ((rd_T61 l0 x4_1).f0), .int .i64 ((rd_T61 l0 x4_1).f1), .int .i64 ((rd_T61 l0 x4_1).f2)] 61 (0, 0))) := ⟨by (with_reducible repeat (first | refine blk_drewN ?_ _ | refine blk_drew ?_ | refine blk_alloc ?_ _)); refine blk_put (cs := #[.string ((rd_T61 l0 x4_1).f0), .int .i64 ((rd_T61 l0 x4_1).f1), .int .i64 0]) ?_ 2 _ rfl; (with_reducible repeat (first | refine blk_drewN ?_ _ | refine blk_drew ?_ | refine blk_alloc ?_ _)); refine blk_put (cs := #[.string ((rd_T61 l0 x4_1).f0), .int .i64 0, .int .i64 0]) ?_ 1 _ rfl; (with_reducible repeat (first | refine blk_drewN ?_ _ | refine blk_drew ?_ | refine blk_alloc ?_ _)); refine blk_put (cs := #[.string (⟨#[]⟩ : ByteArray), .int .i64 0, .int .i64 0]) ?_ 0 _ rfl; (with_reducible repeat (first | refine blk_drewN ?_ _ | refine blk_drew ?_ | refine blk_alloc ?_ _)); exact BK113.out⟩
             have n1_ : Aside0 (Below w.heap.size w (((w5.setCell ⟨gb113, 0, none⟩ (.string ((rd_T61 l0 x4_1).f0))).setCell ⟨gb113, 1, none⟩ (.int .i64 ((rd_T61 l0 x4_1).f1))).setCell ⟨gb113, 2, none⟩ (.int .i64 ((rd_T61 l0 x4_1).f2)))) := ⟨zb _⟩
             (try clear BK113)
             (try clear HB)
             generalize (((w5.setCell ⟨gb113, 0, none⟩ (.string ((rd_T61 l0 x4_1).f0))).setCell ⟨gb113, 1, none⟩ (.int .i64 ((rd_T61 l0 x4_1).f1))).setCell ⟨gb113, 2, none⟩ (.int .i64 ((rd_T61 l0 x4_1).f2))) = w20 at n0_ n1_ ⊢
             have BK113 := n0_
             have HB := n1_
             clear n0_ n1_
             have n0_ := Aside0.mk (blk_drew BK113.out)
             have n1_ := Aside0.mk (below_drew1 HB.out)
             clear BK113
             clear HB
             have BK113 := n0_
             have HB := n1_
             clear n0_ n1_
             have p117 : 0 ≤ ((ji14) : Int) := of_decide_eq_true (za _)
             have q117 : (ji14) < (l0.length : Int) := of_decide_eq_true (za _)
             obtain ⟨ad117, e117, hx117_0, hx117_1, hx117_2⟩ := at_T61 HR0.out (ji14) p117 q117
             have hw117_2 := hx117_2
             have hw117_1 := hx117_1
             have hw117_0 := hx117_0
             obtain rfl : ad112 = ad117 := (by injection e117)
             replace hx117_0 := (HB.out.cell (World.block_lt_of_cell? w _ hx117_0)).trans hx117_0
             replace hx117_1 := (HB.out.cell (World.block_lt_of_cell? w _ hx117_1)).trans hx117_1
             replace hx117_2 := (HB.out.cell (World.block_lt_of_cell? w _ hx117_2)).trans hx117_2
             replace p117 := eq_true p117
             replace q117 := eq_true q117
             refine start_ (n := 35) (S := fun w' => w'.cell? ⟨gb113, 0, none⟩ = some (.string ((rd_T61 l0 x4_1).f0)) ∧ w'.cell? ⟨gb113, 1, none⟩ = some (.int .i64 ((rd_T61 l0 x4_1).f1)) ∧ w'.cell? ⟨gb113, 2, none⟩ = some (.int .i64 ((rd_T61 l0 x4_1).f2)) ∧ w'.cell? (ad112.add (((ji14)).toNat * 3)) = some (.string ((rd_T61 l0 (ji14)).f0)) ∧ w'.cell? ⟨(ad112.add (((ji14)).toNat * 3)).block, (ad112.add (((ji14)).toNat * 3)).off + 1, none⟩ = some (.int .i64 ((rd_T61 l0 (ji14)).f1)) ∧ w'.cell? ⟨(ad112.add (((ji14)).toNat * 3)).block, (ad112.add (((ji14)).toNat * 3)).off + 2, none⟩ = some (.int .i64 ((rd_T61 l0 (ji14)).f2))) (ds := []) (zm 35 0) (by kernel_rfl) rfl rfl ⟨(blk_cell BK113.out 0).trans rfl, (blk_cell BK113.out 1).trans rfl, (blk_cell BK113.out 2).trans rfl, ((HB.out.cell (World.block_lt_of_cell? w _ hw117_0)).trans hw117_0), ((HB.out.cell (World.block_lt_of_cell? w _ hw117_1)).trans hw117_1), ((HB.out.cell (World.block_lt_of_cell? w _ hw117_2)).trans hw117_2)⟩ (fun hHeld => ?_); refine with_tabW spec_SymText.tab6 spec_SymText.bits6 (fun HT_ HW_ => ?_)
             generalize w20.drew = w21 at BK113 HB hx117_0 hx117_1 hx117_2 hHeld ⊢
             refine zp 0 16 (zm 35 1) ?_
             refine take_ (i := 1) (N := some 17) (v := ?_) (a' := ?_) (zm 35 3) rfl rfl (take_ofW HT_.out HW_.out (by kernel_rfl)) (fun _ _ _ h => h) (Or.inl ⟨by rfl, ?_⟩) hHeld ?_ ?_
             rotate_left
             ·rintro w' ⟨s0, s1, s2, s3, s4, s5⟩
              go_simp
              with_reducible rfl
             rotate_left
             ·simp only [Act.put, List.setIfInBounds_toArray, List.set_cons_zero, List.set_cons_succ, i64_w, i32_w]
              rfl
             refine one_ (i := 2) (N := some 18) (zm 35 7) rfl rfl (one_of HT_.out (by kernel_rfl)) (by decide) (fun K hK => ?_)
             refine zi Tryd.func51 #[.string ((rd_T61 l0 x4_1).f0)] ?_
             with_reducible refine (spec_NameOk.calls k1 ((rd_T61 l0 x4_1).f0) true _ A7.out).mono ?_
             rintro e w' ⟨rfl, ⟨nd, rfl⟩⟩
             refine ⟨_, rfl, ?_⟩
             refine hK.out _ _ ⟨(blk_cell BK113.out 0).trans rfl, (blk_cell BK113.out 1).trans rfl, (blk_cell BK113.out 2).trans rfl, ((HB.out.cell (World.block_lt_of_cell? w _ hw117_0)).trans hw117_0), ((HB.out.cell (World.block_lt_of_cell? w _ hw117_1)).trans hw117_1), ((HB.out.cell (World.block_lt_of_cell? w _ hw117_2)).trans hw117_2)⟩ (fun hHeld => ?_)
             clear hK K
             refine zq ?_
             refine zp 3 19 (zm 35 15) ?_
             refine zp 4 20 (zm 35 31) ?_
             refine zp 5 21 (zm 35 63) ?_
             refine take_ (i := 6) (N := some 22) (v := ?_) (a' := ?_) (zm 35 127) rfl rfl (take_ofW HT_.out HW_.out (by kernel_rfl)) (fun _ _ _ h => h) (Or.inl ⟨by rfl, ?_⟩) hHeld ?_ ?_
             rotate_left
             ·rintro w' ⟨s0, s1, s2, s3, s4, s5⟩
              go_simp
              with_reducible rfl
             rotate_left
             ·simp only [Act.put, List.setIfInBounds_toArray, List.set_cons_zero, List.set_cons_succ, i64_w, i32_w]
              rfl
             refine one_ (i := 7) (N := some 23) (zm 35 255) rfl rfl (one_of HT_.out (by kernel_rfl)) (by decide) (fun K hK => ?_)
             refine zi Tryd.func52 #[.int .i64 ((rd_T61 l0 x4_1).f1)] ?_
             with_reducible refine (spec_l4Byte.calls ((rd_T61 l0 x4_1).f1) true _ A9.out).mono ?_
             rintro e w' ⟨rfl, ⟨nd, rfl⟩⟩
             refine ⟨_, rfl, ?_⟩
             refine hK.out _ _ ⟨(blk_cell BK113.out 0).trans rfl, (blk_cell BK113.out 1).trans rfl, (blk_cell BK113.out 2).trans rfl, ((HB.out.cell (World.block_lt_of_cell? w _ hw117_0)).trans hw117_0), ((HB.out.cell (World.block_lt_of_cell? w _ hw117_1)).trans hw117_1), ((HB.out.cell (World.block_lt_of_cell? w _ hw117_2)).trans hw117_2)⟩ (fun hHeld => ?_)
             clear hK K
             refine zq ?_
             refine zp 8 24 (zm 35 511) ?_
             refine zp 9 25 (zm 35 1023) ?_
             refine zp 10 26 (zm 35 2047) ?_
             refine zp 11 27 (zm 35 4095) ?_
             refine take_ (i := 12) (N := some 28) (v := ?_) (a' := ?_) (zm 35 8191) rfl rfl (take_ofW HT_.out HW_.out (by kernel_rfl)) (fun _ _ _ h => h) (Or.inl ⟨by rfl, ?_⟩) hHeld ?_ ?_
             rotate_left
             ·rintro w' ⟨s0, s1, s2, s3, s4, s5⟩
              go_simp
              with_reducible rfl
             rotate_left
             ·simp only [Act.put, List.setIfInBounds_toArray, List.set_cons_zero, List.set_cons_succ, i64_w, i32_w]
              rfl
             refine one_ (i := 13) (N := some 29) (zm 35 16383) rfl rfl (one_of HT_.out (by kernel_rfl)) (by decide) (fun K hK => ?_)
             refine zi Tryd.func53 #[.int .i64 ((rd_T61 l0 x4_1).f2)] ?_
             with_reducible refine (spec_l4Word.calls ((rd_T61 l0 x4_1).f2) true _ A11.out).mono ?_
             rintro e w' ⟨rfl, ⟨nd, rfl⟩⟩
             refine ⟨_, rfl, ?_⟩
             refine hK.out _ _ ⟨(blk_cell BK113.out 0).trans rfl, (blk_cell BK113.out 1).trans rfl, (blk_cell BK113.out 2).trans rfl, ((HB.out.cell (World.block_lt_of_cell? w _ hw117_0)).trans hw117_0), ((HB.out.cell (World.block_lt_of_cell? w _ hw117_1)).trans hw117_1), ((HB.out.cell (World.block_lt_of_cell? w _ hw117_2)).trans hw117_2)⟩ (fun hHeld => ?_)
             clear hK K
             refine zq ?_
             refine zp 14 30 (zm 35 32767) ?_
             refine zp 15 31 (zm 35 65535) ?_
             refine zp 16 32 (zm 35 131071) ?_
             refine zp 17 33 (zm 35 262143) ?_
             refine zp 18 34 (zm 35 524287) ?_
             refine zp 19 35 (zm 35 1048575) ?_
             refine zp 20 36 (zm 35 2097151) ?_
             refine zp 21 37 (zm 35 4194303) ?_
             refine zp 22 38 (zm 35 8388607) ?_
             refine zp 23 39 (zm 35 16777215) ?_
             refine zp 24 40 (zm 35 33554431) ?_
             refine zp 26 42 (zm 35 100663295) ?_
             refine take_ (i := 25) (N := some 41) (v := ?_) (a' := ?_) (zm 35 134217727) rfl rfl (take_ofW HT_.out HW_.out (by kernel_rfl)) (fun _ _ _ h => h) (Or.inl ⟨by rfl, ?_⟩) hHeld ?_ ?_
             rotate_left
             ·rintro w' ⟨s0, s1, s2, s3, s4, s5⟩
              go_simp
              with_reducible rfl
             rotate_left
             ·simp only [Act.put, List.setIfInBounds_toArray, List.set_cons_zero, List.set_cons_succ, i64_w, i32_w]
              rfl
             refine take_ (i := 27) (N := some 43) (v := ?_) (a' := ?_) (zm 35 268435455) rfl rfl (take_ofW HT_.out HW_.out (by kernel_rfl)) (fun _ _ _ h => h) (Or.inl ⟨by rfl, ?_⟩) hHeld ?_ ?_
             rotate_left
             ·rintro w' ⟨s0, s1, s2, s3, s4, s5⟩
              go_simp
              with_reducible rfl
             rotate_left
             ·simp only [Act.put, List.setIfInBounds_toArray, List.set_cons_zero, List.set_cons_succ, i64_w, i32_w]
              rfl
             refine zp 28 44 (zm 35 536870911) ?_
             refine zp 29 45 (zm 35 1073741823) ?_
             refine zp 30 46 (zm 35 2147483647) ?_
             refine zp 31 47 (zm 35 4294967295) ?_
             refine zu 32 48 (zm 35 8589934591) ?_
             refine zu 33 49 (zm 35 17179869183) ?_
             refine zp 34 50 (zm 35 34359738367) ?_
             refine done_ (done_of HT_.out (by kernel_rfl)) ?_
             try go_wp2
             go_meet
             case rel => exact ⟨_, (true), (zE _), H', ⟨by have := HK1.out; first | omega | exact Nat.le_refl _⟩, ⟨by (with_reducible repeat (first | refine blk_drewN ?_ _ | refine blk_drew ?_ | refine blk_alloc ?_ _)); exact BK113.out⟩, ⟨zb _⟩⟩
           ·rw [if_neg c16] at H
            exact absurd H (by simp)
          ·rw [if_neg c15] at H
           exact absurd H (by simp)
         ·rw [if_neg c13] at H
          have c13b0 : decide (0 < x4_1) = false := decide_eq_false c13
          clear c13
          (first | rw [c13b0] | (simp only [i64_w, i32_w]; rw [c13b0]) | skip)
          have H' := Aside0.mk H
          clear H
          try go_wp2
          have n0_ : Aside0 ((((w5.setCell ⟨gb113, 0, none⟩ (.string ((rd_T61 l0 x4_1).f0))).setCell ⟨gb113, 1, none⟩ (.int .i64 ((rd_T61 l0 x4_1).f1))).setCell ⟨gb113, 2, none⟩ (.int .i64 ((rd_T61 l0 x4_1).f2))).heap[gb113]? = some (.cells #[.string ((rd_T61 l0 x4_1).f0), .int .i64 ((rd_T61 l0 x4_1).f1), .int .i64 ((rd_T61 l0 x4_1).f2)] 61 (0, 0))) := ⟨by (with_reducible repeat (first | refine blk_drewN ?_ _ | refine blk_drew ?_ | refine blk_alloc ?_ _)); refine blk_put (cs := #[.string ((rd_T61 l0 x4_1).f0), .int .i64 ((rd_T61 l0 x4_1).f1), .int .i64 0]) ?_ 2 _ rfl; (with_reducible repeat (first | refine blk_drewN ?_ _ | refine blk_drew ?_ | refine blk_alloc ?_ _)); refine blk_put (cs := #[.string ((rd_T61 l0 x4_1).f0), .int .i64 0, .int .i64 0]) ?_ 1 _ rfl; (with_reducible repeat (first | refine blk_drewN ?_ _ | refine blk_drew ?_ | refine blk_alloc ?_ _)); refine blk_put (cs := #[.string (⟨#[]⟩ : ByteArray), .int .i64 0, .int .i64 0]) ?_ 0 _ rfl; (with_reducible repeat (first | refine blk_drewN ?_ _ | refine blk_drew ?_ | refine blk_alloc ?_ _)); exact BK113.out⟩
          have n1_ : Aside0 (Below w.heap.size w (((w5.setCell ⟨gb113, 0, none⟩ (.string ((rd_T61 l0 x4_1).f0))).setCell ⟨gb113, 1, none⟩ (.int .i64 ((rd_T61 l0 x4_1).f1))).setCell ⟨gb113, 2, none⟩ (.int .i64 ((rd_T61 l0 x4_1).f2)))) := ⟨zb _⟩
          (try clear BK113)
          (try clear HB)
          generalize (((w5.setCell ⟨gb113, 0, none⟩ (.string ((rd_T61 l0 x4_1).f0))).setCell ⟨gb113, 1, none⟩ (.int .i64 ((rd_T61 l0 x4_1).f1))).setCell ⟨gb113, 2, none⟩ (.int .i64 ((rd_T61 l0 x4_1).f2))) = w22 at n0_ n1_ ⊢
          have BK113 := n0_
          have HB := n1_
          clear n0_ n1_
          have n0_ := Aside0.mk (blk_drew BK113.out)
          have n1_ := Aside0.mk (below_drew1 HB.out)
          clear BK113
          clear HB
          have BK113 := n0_
          have HB := n1_
          clear n0_ n1_
          refine start_ (n := 35) (S := fun w' => w'.cell? ⟨gb113, 0, none⟩ = some (.string ((rd_T61 l0 x4_1).f0)) ∧ w'.cell? ⟨gb113, 1, none⟩ = some (.int .i64 ((rd_T61 l0 x4_1).f1)) ∧ w'.cell? ⟨gb113, 2, none⟩ = some (.int .i64 ((rd_T61 l0 x4_1).f2))) (ds := []) (zm 35 0) (by kernel_rfl) rfl rfl ⟨(blk_cell BK113.out 0).trans rfl, (blk_cell BK113.out 1).trans rfl, (blk_cell BK113.out 2).trans rfl⟩ (fun hHeld => ?_); refine with_tabW spec_SymText.tab6 spec_SymText.bits6 (fun HT_ HW_ => ?_)
          generalize w22.drew = w23 at BK113 HB hHeld ⊢
          refine zp 0 16 (zm 35 1) ?_
          refine take_ (i := 1) (N := some 17) (v := ?_) (a' := ?_) (zm 35 3) rfl rfl (take_ofW HT_.out HW_.out (by kernel_rfl)) (fun _ _ _ h => h) (Or.inl ⟨by rfl, ?_⟩) hHeld ?_ ?_
          rotate_left
          ·rintro w' ⟨s0, s1, s2⟩
           go_simp
           with_reducible rfl
          rotate_left
          ·simp only [Act.put, List.setIfInBounds_toArray, List.set_cons_zero, List.set_cons_succ, i64_w, i32_w]
           rfl
          refine one_ (i := 2) (N := some 18) (zm 35 7) rfl rfl (one_of HT_.out (by kernel_rfl)) (by decide) (fun K hK => ?_)
          refine zi Tryd.func51 #[.string ((rd_T61 l0 x4_1).f0)] ?_
          with_reducible refine (spec_NameOk.calls k1 ((rd_T61 l0 x4_1).f0) true _ A7.out).mono ?_
          rintro e w' ⟨rfl, ⟨nd, rfl⟩⟩
          refine ⟨_, rfl, ?_⟩
          refine hK.out _ _ ⟨(blk_cell BK113.out 0).trans rfl, (blk_cell BK113.out 1).trans rfl, (blk_cell BK113.out 2).trans rfl⟩ (fun hHeld => ?_)
          clear hK K
          refine zq ?_
          refine zp 3 19 (zm 35 15) ?_
          refine zp 4 20 (zm 35 31) ?_
          refine zp 5 21 (zm 35 63) ?_
          refine take_ (i := 6) (N := some 22) (v := ?_) (a' := ?_) (zm 35 127) rfl rfl (take_ofW HT_.out HW_.out (by kernel_rfl)) (fun _ _ _ h => h) (Or.inl ⟨by rfl, ?_⟩) hHeld ?_ ?_
          rotate_left
          ·rintro w' ⟨s0, s1, s2⟩
           go_simp
           with_reducible rfl
          rotate_left
          ·simp only [Act.put, List.setIfInBounds_toArray, List.set_cons_zero, List.set_cons_succ, i64_w, i32_w]
           rfl
          refine one_ (i := 7) (N := some 23) (zm 35 255) rfl rfl (one_of HT_.out (by kernel_rfl)) (by decide) (fun K hK => ?_)
          refine zi Tryd.func52 #[.int .i64 ((rd_T61 l0 x4_1).f1)] ?_
          with_reducible refine (spec_l4Byte.calls ((rd_T61 l0 x4_1).f1) true _ A9.out).mono ?_
          rintro e w' ⟨rfl, ⟨nd, rfl⟩⟩
          refine ⟨_, rfl, ?_⟩
          refine hK.out _ _ ⟨(blk_cell BK113.out 0).trans rfl, (blk_cell BK113.out 1).trans rfl, (blk_cell BK113.out 2).trans rfl⟩ (fun hHeld => ?_)
          clear hK K
          refine zq ?_
          refine zp 8 24 (zm 35 511) ?_
          refine zp 9 25 (zm 35 1023) ?_
          refine zp 10 26 (zm 35 2047) ?_
          refine zp 11 27 (zm 35 4095) ?_
          refine take_ (i := 12) (N := some 28) (v := ?_) (a' := ?_) (zm 35 8191) rfl rfl (take_ofW HT_.out HW_.out (by kernel_rfl)) (fun _ _ _ h => h) (Or.inl ⟨by rfl, ?_⟩) hHeld ?_ ?_
          rotate_left
          ·rintro w' ⟨s0, s1, s2⟩
           go_simp
           with_reducible rfl
          rotate_left
          ·simp only [Act.put, List.setIfInBounds_toArray, List.set_cons_zero, List.set_cons_succ, i64_w, i32_w]
           rfl
          refine one_ (i := 13) (N := some 29) (zm 35 16383) rfl rfl (one_of HT_.out (by kernel_rfl)) (by decide) (fun K hK => ?_)
          refine zi Tryd.func53 #[.int .i64 ((rd_T61 l0 x4_1).f2)] ?_
          with_reducible refine (spec_l4Word.calls ((rd_T61 l0 x4_1).f2) true _ A11.out).mono ?_
          rintro e w' ⟨rfl, ⟨nd, rfl⟩⟩
          refine ⟨_, rfl, ?_⟩
          refine hK.out _ _ ⟨(blk_cell BK113.out 0).trans rfl, (blk_cell BK113.out 1).trans rfl, (blk_cell BK113.out 2).trans rfl⟩ (fun hHeld => ?_)
          clear hK K
          refine zq ?_
          refine zp 14 30 (zm 35 32767) ?_
          refine zp 15 31 (zm 35 65535) ?_
          refine zp 16 32 (zm 35 131071) ?_
          refine zp 17 33 (zm 35 262143) ?_
          refine zp 18 34 (zm 35 524287) ?_
          refine zp 19 35 (zm 35 1048575) ?_
          refine zu 20 36 (zm 35 2097151) ?_
          refine zu 21 37 (zm 35 4194303) ?_
          refine zu 22 38 (zm 35 8388607) ?_
          refine zu 23 39 (zm 35 16777215) ?_
          refine zu 24 40 (zm 35 33554431) ?_
          refine zu 25 41 (zm 35 67108863) ?_
          refine zu 26 42 (zm 35 134217727) ?_
          refine zu 27 43 (zm 35 268435455) ?_
          refine zu 28 44 (zm 35 536870911) ?_
          refine zp 29 45 (zm 35 1073741823) ?_
          refine zp 30 46 (zm 35 2147483647) ?_
          refine zp 31 47 (zm 35 4294967295) ?_
          refine zp 32 48 (zm 35 8589934591) ?_
          refine zp 33 49 (zm 35 17179869183) ?_
          refine zp 34 50 (zm 35 34359738367) ?_
          refine done_ (done_of HT_.out (by kernel_rfl)) ?_
          try go_wp2
          go_meet
          case rel => exact ⟨_, (decide (x4_1 ≥ 800)), (zE _), H', ⟨by have := HK1.out; first | omega | exact Nat.le_refl _⟩, ⟨by (with_reducible repeat (first | refine blk_drewN ?_ _ | refine blk_drew ?_ | refine blk_alloc ?_ _)); exact BK113.out⟩, ⟨zb _⟩⟩
        ·replace c12 := Bool.eq_false_iff.mpr c12
         subst c12
         rw [if_neg (show ¬ (false = true) by decide)] at H
         have H' := Aside0.mk H
         clear H
         try go_wp2
         have n0_ : Aside0 ((((w5.setCell ⟨gb113, 0, none⟩ (.string ((rd_T61 l0 x4_1).f0))).setCell ⟨gb113, 1, none⟩ (.int .i64 ((rd_T61 l0 x4_1).f1))).setCell ⟨gb113, 2, none⟩ (.int .i64 ((rd_T61 l0 x4_1).f2))).heap[gb113]? = some (.cells #[.string ((rd_T61 l0 x4_1).f0), .int .i64 ((rd_T61 l0 x4_1).f1), .int .i64 ((rd_T61 l0 x4_1).f2)] 61 (0, 0))) := ⟨by (with_reducible repeat (first | refine blk_drewN ?_ _ | refine blk_drew ?_ | refine blk_alloc ?_ _)); refine blk_put (cs := #[.string ((rd_T61 l0 x4_1).f0), .int .i64 ((rd_T61 l0 x4_1).f1), .int .i64 0]) ?_ 2 _ rfl; (with_reducible repeat (first | refine blk_drewN ?_ _ | refine blk_drew ?_ | refine blk_alloc ?_ _)); refine blk_put (cs := #[.string ((rd_T61 l0 x4_1).f0), .int .i64 0, .int .i64 0]) ?_ 1 _ rfl; (with_reducible repeat (first | refine blk_drewN ?_ _ | refine blk_drew ?_ | refine blk_alloc ?_ _)); refine blk_put (cs := #[.string (⟨#[]⟩ : ByteArray), .int .i64 0, .int .i64 0]) ?_ 0 _ rfl; (with_reducible repeat (first | refine blk_drewN ?_ _ | refine blk_drew ?_ | refine blk_alloc ?_ _)); exact BK113.out⟩
         have n1_ : Aside0 (Below w.heap.size w (((w5.setCell ⟨gb113, 0, none⟩ (.string ((rd_T61 l0 x4_1).f0))).setCell ⟨gb113, 1, none⟩ (.int .i64 ((rd_T61 l0 x4_1).f1))).setCell ⟨gb113, 2, none⟩ (.int .i64 ((rd_T61 l0 x4_1).f2)))) := ⟨zb _⟩
         (try clear BK113)
         (try clear HB)
         generalize (((w5.setCell ⟨gb113, 0, none⟩ (.string ((rd_T61 l0 x4_1).f0))).setCell ⟨gb113, 1, none⟩ (.int .i64 ((rd_T61 l0 x4_1).f1))).setCell ⟨gb113, 2, none⟩ (.int .i64 ((rd_T61 l0 x4_1).f2))) = w24 at n0_ n1_ ⊢
         have BK113 := n0_
         have HB := n1_
         clear n0_ n1_
         have n0_ := Aside0.mk (blk_drew BK113.out)
         have n1_ := Aside0.mk (below_drew1 HB.out)
         clear BK113
         clear HB
         have BK113 := n0_
         have HB := n1_
         clear n0_ n1_
         refine start_ (n := 35) (S := fun w' => w'.cell? ⟨gb113, 0, none⟩ = some (.string ((rd_T61 l0 x4_1).f0)) ∧ w'.cell? ⟨gb113, 1, none⟩ = some (.int .i64 ((rd_T61 l0 x4_1).f1)) ∧ w'.cell? ⟨gb113, 2, none⟩ = some (.int .i64 ((rd_T61 l0 x4_1).f2))) (ds := []) (zm 35 0) (by kernel_rfl) rfl rfl ⟨(blk_cell BK113.out 0).trans rfl, (blk_cell BK113.out 1).trans rfl, (blk_cell BK113.out 2).trans rfl⟩ (fun hHeld => ?_); refine with_tabW spec_SymText.tab6 spec_SymText.bits6 (fun HT_ HW_ => ?_)
         generalize w24.drew = w25 at BK113 HB hHeld ⊢
         refine zp 0 16 (zm 35 1) ?_
         refine take_ (i := 1) (N := some 17) (v := ?_) (a' := ?_) (zm 35 3) rfl rfl (take_ofW HT_.out HW_.out (by kernel_rfl)) (fun _ _ _ h => h) (Or.inl ⟨by rfl, ?_⟩) hHeld ?_ ?_
         rotate_left
         ·rintro w' ⟨s0, s1, s2⟩
          go_simp
          with_reducible rfl
         rotate_left
         ·simp only [Act.put, List.setIfInBounds_toArray, List.set_cons_zero, List.set_cons_succ, i64_w, i32_w]
          rfl
         refine one_ (i := 2) (N := some 18) (zm 35 7) rfl rfl (one_of HT_.out (by kernel_rfl)) (by decide) (fun K hK => ?_)
         refine zi Tryd.func51 #[.string ((rd_T61 l0 x4_1).f0)] ?_
         with_reducible refine (spec_NameOk.calls k1 ((rd_T61 l0 x4_1).f0) true _ A7.out).mono ?_
         rintro e w' ⟨rfl, ⟨nd, rfl⟩⟩
         refine ⟨_, rfl, ?_⟩
         refine hK.out _ _ ⟨(blk_cell BK113.out 0).trans rfl, (blk_cell BK113.out 1).trans rfl, (blk_cell BK113.out 2).trans rfl⟩ (fun hHeld => ?_)
         clear hK K
         refine zq ?_
         refine zp 3 19 (zm 35 15) ?_
         refine zp 4 20 (zm 35 31) ?_
         refine zp 5 21 (zm 35 63) ?_
         refine take_ (i := 6) (N := some 22) (v := ?_) (a' := ?_) (zm 35 127) rfl rfl (take_ofW HT_.out HW_.out (by kernel_rfl)) (fun _ _ _ h => h) (Or.inl ⟨by rfl, ?_⟩) hHeld ?_ ?_
         rotate_left
         ·rintro w' ⟨s0, s1, s2⟩
          go_simp
          with_reducible rfl
         rotate_left
         ·simp only [Act.put, List.setIfInBounds_toArray, List.set_cons_zero, List.set_cons_succ, i64_w, i32_w]
          rfl
         refine one_ (i := 7) (N := some 23) (zm 35 255) rfl rfl (one_of HT_.out (by kernel_rfl)) (by decide) (fun K hK => ?_)
         refine zi Tryd.func52 #[.int .i64 ((rd_T61 l0 x4_1).f1)] ?_
         with_reducible refine (spec_l4Byte.calls ((rd_T61 l0 x4_1).f1) true _ A9.out).mono ?_
         rintro e w' ⟨rfl, ⟨nd, rfl⟩⟩
         refine ⟨_, rfl, ?_⟩
         refine hK.out _ _ ⟨(blk_cell BK113.out 0).trans rfl, (blk_cell BK113.out 1).trans rfl, (blk_cell BK113.out 2).trans rfl⟩ (fun hHeld => ?_)
         clear hK K
         refine zq ?_
         refine zp 8 24 (zm 35 511) ?_
         refine zp 9 25 (zm 35 1023) ?_
         refine zp 10 26 (zm 35 2047) ?_
         refine zp 11 27 (zm 35 4095) ?_
         refine take_ (i := 12) (N := some 28) (v := ?_) (a' := ?_) (zm 35 8191) rfl rfl (take_ofW HT_.out HW_.out (by kernel_rfl)) (fun _ _ _ h => h) (Or.inl ⟨by rfl, ?_⟩) hHeld ?_ ?_
         rotate_left
         ·rintro w' ⟨s0, s1, s2⟩
          go_simp
          with_reducible rfl
         rotate_left
         ·simp only [Act.put, List.setIfInBounds_toArray, List.set_cons_zero, List.set_cons_succ, i64_w, i32_w]
          rfl
         refine one_ (i := 13) (N := some 29) (zm 35 16383) rfl rfl (one_of HT_.out (by kernel_rfl)) (by decide) (fun K hK => ?_)
         refine zi Tryd.func53 #[.int .i64 ((rd_T61 l0 x4_1).f2)] ?_
         with_reducible refine (spec_l4Word.calls ((rd_T61 l0 x4_1).f2) false _ A11.out).mono ?_
         rintro e w' ⟨rfl, ⟨nd, rfl⟩⟩
         refine ⟨_, rfl, ?_⟩
         refine hK.out _ _ ⟨(blk_cell BK113.out 0).trans rfl, (blk_cell BK113.out 1).trans rfl, (blk_cell BK113.out 2).trans rfl⟩ (fun hHeld => ?_)
         clear hK K
         refine zq ?_
         refine zp 14 30 (zm 35 32767) ?_
         refine zp 15 31 (zm 35 65535) ?_
         refine zp 16 32 (zm 35 131071) ?_
         refine zu 17 33 (zm 35 262143) ?_
         refine zu 18 34 (zm 35 524287) ?_
         refine zu 19 35 (zm 35 1048575) ?_
         refine zu 20 36 (zm 35 2097151) ?_
         refine zu 21 37 (zm 35 4194303) ?_
         refine zu 22 38 (zm 35 8388607) ?_
         refine zu 23 39 (zm 35 16777215) ?_
         refine zu 24 40 (zm 35 33554431) ?_
         refine zu 25 41 (zm 35 67108863) ?_
         refine zu 26 42 (zm 35 134217727) ?_
         refine zu 27 43 (zm 35 268435455) ?_
         refine zu 28 44 (zm 35 536870911) ?_
         refine zu 29 45 (zm 35 1073741823) ?_
         refine zp 30 46 (zm 35 2147483647) ?_
         refine zp 31 47 (zm 35 4294967295) ?_
         refine zu 32 48 (zm 35 8589934591) ?_
         refine zu 33 49 (zm 35 17179869183) ?_
         refine zp 34 50 (zm 35 34359738367) ?_
         refine done_ (done_of HT_.out (by kernel_rfl)) ?_
         try go_wp2
         go_meet
         case rel => exact ⟨_, (true), (zE _), H', ⟨by have := HK1.out; first | omega | exact Nat.le_refl _⟩, ⟨by (with_reducible repeat (first | refine blk_drewN ?_ _ | refine blk_drew ?_ | refine blk_alloc ?_ _)); exact BK113.out⟩, ⟨zb _⟩⟩
       ·replace c10 := Bool.eq_false_iff.mpr c10
        subst c10
        rw [if_neg (show ¬ (false = true) by decide)] at H
        have H' := Aside0.mk H
        clear H
        try go_wp2
        have n0_ : Aside0 ((((w5.setCell ⟨gb113, 0, none⟩ (.string ((rd_T61 l0 x4_1).f0))).setCell ⟨gb113, 1, none⟩ (.int .i64 ((rd_T61 l0 x4_1).f1))).setCell ⟨gb113, 2, none⟩ (.int .i64 ((rd_T61 l0 x4_1).f2))).heap[gb113]? = some (.cells #[.string ((rd_T61 l0 x4_1).f0), .int .i64 ((rd_T61 l0 x4_1).f1), .int .i64 ((rd_T61 l0 x4_1).f2)] 61 (0, 0))) := ⟨by (with_reducible repeat (first | refine blk_drewN ?_ _ | refine blk_drew ?_ | refine blk_alloc ?_ _)); refine blk_put (cs := #[.string ((rd_T61 l0 x4_1).f0), .int .i64 ((rd_T61 l0 x4_1).f1), .int .i64 0]) ?_ 2 _ rfl; (with_reducible repeat (first | refine blk_drewN ?_ _ | refine blk_drew ?_ | refine blk_alloc ?_ _)); refine blk_put (cs := #[.string ((rd_T61 l0 x4_1).f0), .int .i64 0, .int .i64 0]) ?_ 1 _ rfl; (with_reducible repeat (first | refine blk_drewN ?_ _ | refine blk_drew ?_ | refine blk_alloc ?_ _)); refine blk_put (cs := #[.string (⟨#[]⟩ : ByteArray), .int .i64 0, .int .i64 0]) ?_ 0 _ rfl; (with_reducible repeat (first | refine blk_drewN ?_ _ | refine blk_drew ?_ | refine blk_alloc ?_ _)); exact BK113.out⟩
        have n1_ : Aside0 (Below w.heap.size w (((w5.setCell ⟨gb113, 0, none⟩ (.string ((rd_T61 l0 x4_1).f0))).setCell ⟨gb113, 1, none⟩ (.int .i64 ((rd_T61 l0 x4_1).f1))).setCell ⟨gb113, 2, none⟩ (.int .i64 ((rd_T61 l0 x4_1).f2)))) := ⟨zb _⟩
        (try clear BK113)
        (try clear HB)
        generalize (((w5.setCell ⟨gb113, 0, none⟩ (.string ((rd_T61 l0 x4_1).f0))).setCell ⟨gb113, 1, none⟩ (.int .i64 ((rd_T61 l0 x4_1).f1))).setCell ⟨gb113, 2, none⟩ (.int .i64 ((rd_T61 l0 x4_1).f2))) = w26 at n0_ n1_ ⊢
        have BK113 := n0_
        have HB := n1_
        clear n0_ n1_
        have n0_ := Aside0.mk (blk_drew BK113.out)
        have n1_ := Aside0.mk (below_drew1 HB.out)
        clear BK113
        clear HB
        have BK113 := n0_
        have HB := n1_
        clear n0_ n1_
        refine start_ (n := 35) (S := fun w' => w'.cell? ⟨gb113, 0, none⟩ = some (.string ((rd_T61 l0 x4_1).f0)) ∧ w'.cell? ⟨gb113, 1, none⟩ = some (.int .i64 ((rd_T61 l0 x4_1).f1)) ∧ w'.cell? ⟨gb113, 2, none⟩ = some (.int .i64 ((rd_T61 l0 x4_1).f2))) (ds := []) (zm 35 0) (by kernel_rfl) rfl rfl ⟨(blk_cell BK113.out 0).trans rfl, (blk_cell BK113.out 1).trans rfl, (blk_cell BK113.out 2).trans rfl⟩ (fun hHeld => ?_); refine with_tabW spec_SymText.tab6 spec_SymText.bits6 (fun HT_ HW_ => ?_)
        generalize w26.drew = w27 at BK113 HB hHeld ⊢
        refine zp 0 16 (zm 35 1) ?_
        refine take_ (i := 1) (N := some 17) (v := ?_) (a' := ?_) (zm 35 3) rfl rfl (take_ofW HT_.out HW_.out (by kernel_rfl)) (fun _ _ _ h => h) (Or.inl ⟨by rfl, ?_⟩) hHeld ?_ ?_
        rotate_left
        ·rintro w' ⟨s0, s1, s2⟩
         go_simp
         with_reducible rfl
        rotate_left
        ·simp only [Act.put, List.setIfInBounds_toArray, List.set_cons_zero, List.set_cons_succ, i64_w, i32_w]
         rfl
        refine one_ (i := 2) (N := some 18) (zm 35 7) rfl rfl (one_of HT_.out (by kernel_rfl)) (by decide) (fun K hK => ?_)
        refine zi Tryd.func51 #[.string ((rd_T61 l0 x4_1).f0)] ?_
        with_reducible refine (spec_NameOk.calls k1 ((rd_T61 l0 x4_1).f0) true _ A7.out).mono ?_
        rintro e w' ⟨rfl, ⟨nd, rfl⟩⟩
        refine ⟨_, rfl, ?_⟩
        refine hK.out _ _ ⟨(blk_cell BK113.out 0).trans rfl, (blk_cell BK113.out 1).trans rfl, (blk_cell BK113.out 2).trans rfl⟩ (fun hHeld => ?_)
        clear hK K
        refine zq ?_
        refine zp 3 19 (zm 35 15) ?_
        refine zp 4 20 (zm 35 31) ?_
        refine zp 5 21 (zm 35 63) ?_
        refine take_ (i := 6) (N := some 22) (v := ?_) (a' := ?_) (zm 35 127) rfl rfl (take_ofW HT_.out HW_.out (by kernel_rfl)) (fun _ _ _ h => h) (Or.inl ⟨by rfl, ?_⟩) hHeld ?_ ?_
        rotate_left
        ·rintro w' ⟨s0, s1, s2⟩
         go_simp
         with_reducible rfl
        rotate_left
        ·simp only [Act.put, List.setIfInBounds_toArray, List.set_cons_zero, List.set_cons_succ, i64_w, i32_w]
         rfl
        refine one_ (i := 7) (N := some 23) (zm 35 255) rfl rfl (one_of HT_.out (by kernel_rfl)) (by decide) (fun K hK => ?_)
        refine zi Tryd.func52 #[.int .i64 ((rd_T61 l0 x4_1).f1)] ?_
        with_reducible refine (spec_l4Byte.calls ((rd_T61 l0 x4_1).f1) false _ A9.out).mono ?_
        rintro e w' ⟨rfl, ⟨nd, rfl⟩⟩
        refine ⟨_, rfl, ?_⟩
        refine hK.out _ _ ⟨(blk_cell BK113.out 0).trans rfl, (blk_cell BK113.out 1).trans rfl, (blk_cell BK113.out 2).trans rfl⟩ (fun hHeld => ?_)
        clear hK K
        refine zq ?_
        refine zp 8 24 (zm 35 511) ?_
        refine zp 9 25 (zm 35 1023) ?_
        refine zp 10 26 (zm 35 2047) ?_
        refine zu 11 27 (zm 35 4095) ?_
        refine zu 12 28 (zm 35 8191) ?_
        refine zu 13 29 (zm 35 16383) ?_
        refine zu 14 30 (zm 35 32767) ?_
        refine zp 15 31 (zm 35 65535) ?_
        refine zp 16 32 (zm 35 131071) ?_
        refine zu 17 33 (zm 35 262143) ?_
        refine zu 18 34 (zm 35 524287) ?_
        refine zu 19 35 (zm 35 1048575) ?_
        refine zu 20 36 (zm 35 2097151) ?_
        refine zu 21 37 (zm 35 4194303) ?_
        refine zu 22 38 (zm 35 8388607) ?_
        refine zu 23 39 (zm 35 16777215) ?_
        refine zu 24 40 (zm 35 33554431) ?_
        refine zu 25 41 (zm 35 67108863) ?_
        refine zu 26 42 (zm 35 134217727) ?_
        refine zu 27 43 (zm 35 268435455) ?_
        refine zu 28 44 (zm 35 536870911) ?_
        refine zu 29 45 (zm 35 1073741823) ?_
        refine zp 30 46 (zm 35 2147483647) ?_
        refine zp 31 47 (zm 35 4294967295) ?_
        refine zu 32 48 (zm 35 8589934591) ?_
        refine zu 33 49 (zm 35 17179869183) ?_
        refine zp 34 50 (zm 35 34359738367) ?_
        refine done_ (done_of HT_.out (by kernel_rfl)) ?_
        try go_wp2
        go_meet
        case rel => exact ⟨_, (true), (zE _), H', ⟨by have := HK1.out; first | omega | exact Nat.le_refl _⟩, ⟨by (with_reducible repeat (first | refine blk_drewN ?_ _ | refine blk_drew ?_ | refine blk_alloc ?_ _)); exact BK113.out⟩, ⟨zb _⟩⟩
      ·replace c8 := Bool.eq_false_iff.mpr c8
       subst c8
       rw [if_neg (show ¬ (false = true) by decide)] at H
       have H' := Aside0.mk H
       clear H
       try go_wp2
       have n0_ : Aside0 ((((w5.setCell ⟨gb113, 0, none⟩ (.string ((rd_T61 l0 x4_1).f0))).setCell ⟨gb113, 1, none⟩ (.int .i64 ((rd_T61 l0 x4_1).f1))).setCell ⟨gb113, 2, none⟩ (.int .i64 ((rd_T61 l0 x4_1).f2))).heap[gb113]? = some (.cells #[.string ((rd_T61 l0 x4_1).f0), .int .i64 ((rd_T61 l0 x4_1).f1), .int .i64 ((rd_T61 l0 x4_1).f2)] 61 (0, 0))) := ⟨by (with_reducible repeat (first | refine blk_drewN ?_ _ | refine blk_drew ?_ | refine blk_alloc ?_ _)); refine blk_put (cs := #[.string ((rd_T61 l0 x4_1).f0), .int .i64 ((rd_T61 l0 x4_1).f1), .int .i64 0]) ?_ 2 _ rfl; (with_reducible repeat (first | refine blk_drewN ?_ _ | refine blk_drew ?_ | refine blk_alloc ?_ _)); refine blk_put (cs := #[.string ((rd_T61 l0 x4_1).f0), .int .i64 0, .int .i64 0]) ?_ 1 _ rfl; (with_reducible repeat (first | refine blk_drewN ?_ _ | refine blk_drew ?_ | refine blk_alloc ?_ _)); refine blk_put (cs := #[.string (⟨#[]⟩ : ByteArray), .int .i64 0, .int .i64 0]) ?_ 0 _ rfl; (with_reducible repeat (first | refine blk_drewN ?_ _ | refine blk_drew ?_ | refine blk_alloc ?_ _)); exact BK113.out⟩
       have n1_ : Aside0 (Below w.heap.size w (((w5.setCell ⟨gb113, 0, none⟩ (.string ((rd_T61 l0 x4_1).f0))).setCell ⟨gb113, 1, none⟩ (.int .i64 ((rd_T61 l0 x4_1).f1))).setCell ⟨gb113, 2, none⟩ (.int .i64 ((rd_T61 l0 x4_1).f2)))) := ⟨zb _⟩
       (try clear BK113)
       (try clear HB)
       generalize (((w5.setCell ⟨gb113, 0, none⟩ (.string ((rd_T61 l0 x4_1).f0))).setCell ⟨gb113, 1, none⟩ (.int .i64 ((rd_T61 l0 x4_1).f1))).setCell ⟨gb113, 2, none⟩ (.int .i64 ((rd_T61 l0 x4_1).f2))) = w28 at n0_ n1_ ⊢
       have BK113 := n0_
       have HB := n1_
       clear n0_ n1_
       have n0_ := Aside0.mk (blk_drew BK113.out)
       have n1_ := Aside0.mk (below_drew1 HB.out)
       clear BK113
       clear HB
       have BK113 := n0_
       have HB := n1_
       clear n0_ n1_
       refine start_ (n := 35) (S := fun w' => w'.cell? ⟨gb113, 0, none⟩ = some (.string ((rd_T61 l0 x4_1).f0)) ∧ w'.cell? ⟨gb113, 1, none⟩ = some (.int .i64 ((rd_T61 l0 x4_1).f1)) ∧ w'.cell? ⟨gb113, 2, none⟩ = some (.int .i64 ((rd_T61 l0 x4_1).f2))) (ds := []) (zm 35 0) (by kernel_rfl) rfl rfl ⟨(blk_cell BK113.out 0).trans rfl, (blk_cell BK113.out 1).trans rfl, (blk_cell BK113.out 2).trans rfl⟩ (fun hHeld => ?_); refine with_tabW spec_SymText.tab6 spec_SymText.bits6 (fun HT_ HW_ => ?_)
       generalize w28.drew = w29 at BK113 HB hHeld ⊢
       refine zp 0 16 (zm 35 1) ?_
       refine take_ (i := 1) (N := some 17) (v := ?_) (a' := ?_) (zm 35 3) rfl rfl (take_ofW HT_.out HW_.out (by kernel_rfl)) (fun _ _ _ h => h) (Or.inl ⟨by rfl, ?_⟩) hHeld ?_ ?_
       rotate_left
       ·rintro w' ⟨s0, s1, s2⟩
        go_simp
        with_reducible rfl
       rotate_left
       ·simp only [Act.put, List.setIfInBounds_toArray, List.set_cons_zero, List.set_cons_succ, i64_w, i32_w]
        rfl
       refine one_ (i := 2) (N := some 18) (zm 35 7) rfl rfl (one_of HT_.out (by kernel_rfl)) (by decide) (fun K hK => ?_)
       refine zi Tryd.func51 #[.string ((rd_T61 l0 x4_1).f0)] ?_
       with_reducible refine (spec_NameOk.calls k1 ((rd_T61 l0 x4_1).f0) false _ A7.out).mono ?_
       rintro e w' ⟨rfl, ⟨nd, rfl⟩⟩
       refine ⟨_, rfl, ?_⟩
       refine hK.out _ _ ⟨(blk_cell BK113.out 0).trans rfl, (blk_cell BK113.out 1).trans rfl, (blk_cell BK113.out 2).trans rfl⟩ (fun hHeld => ?_)
       clear hK K
       refine zq ?_
       refine zp 3 19 (zm 35 15) ?_
       refine zp 4 20 (zm 35 31) ?_
       refine zu 5 21 (zm 35 63) ?_
       refine zu 6 22 (zm 35 127) ?_
       refine zu 7 23 (zm 35 255) ?_
       refine zu 8 24 (zm 35 511) ?_
       refine zp 9 25 (zm 35 1023) ?_
       refine zp 10 26 (zm 35 2047) ?_
       refine zu 11 27 (zm 35 4095) ?_
       refine zu 12 28 (zm 35 8191) ?_
       refine zu 13 29 (zm 35 16383) ?_
       refine zu 14 30 (zm 35 32767) ?_
       refine zp 15 31 (zm 35 65535) ?_
       refine zp 16 32 (zm 35 131071) ?_
       refine zu 17 33 (zm 35 262143) ?_
       refine zu 18 34 (zm 35 524287) ?_
       refine zu 19 35 (zm 35 1048575) ?_
       refine zu 20 36 (zm 35 2097151) ?_
       refine zu 21 37 (zm 35 4194303) ?_
       refine zu 22 38 (zm 35 8388607) ?_
       refine zu 23 39 (zm 35 16777215) ?_
       refine zu 24 40 (zm 35 33554431) ?_
       refine zu 25 41 (zm 35 67108863) ?_
       refine zu 26 42 (zm 35 134217727) ?_
       refine zu 27 43 (zm 35 268435455) ?_
       refine zu 28 44 (zm 35 536870911) ?_
       refine zu 29 45 (zm 35 1073741823) ?_
       refine zp 30 46 (zm 35 2147483647) ?_
       refine zp 31 47 (zm 35 4294967295) ?_
       refine zu 32 48 (zm 35 8589934591) ?_
       refine zu 33 49 (zm 35 17179869183) ?_
       refine zp 34 50 (zm 35 34359738367) ?_
       refine done_ (done_of HT_.out (by kernel_rfl)) ?_
       try go_wp2
       go_meet
       case rel => exact ⟨_, (true), (zE _), H', ⟨by have := HK1.out; first | omega | exact Nat.le_refl _⟩, ⟨by (with_reducible repeat (first | refine blk_drewN ?_ _ | refine blk_drew ?_ | refine blk_alloc ?_ _)); exact BK113.out⟩, ⟨zb _⟩⟩
     case rest =>
      clear HC4
      try clear c1
      try clear p2
      try clear c5
      try clear c8
      try clear c10
      obtain ⟨kq, x50_3, rfl, HA, HJ3, BK113, HB⟩ := hcut
      cases kq with
      | zero => exact absurd HA.out (by simp [spec_SymText.j1])
      | succ kj3 =>
       have H := HA.out
       clear HA
       simp only [spec_SymText.j1] at H
       by_cases c30 : x50_3 = true
       ·subst c30
        rw [if_pos rfl] at H
        obtain rfl := Option.some.inj H
        go_wp2
        first | go_ret | ((try simp only [Exit.inBlock, Exit.then]); apply bodyPost_ret; (exact results_tmp rfl _ _ _); rfl)
        exact ⟨ze _, zb _⟩
       ·replace c30 := Bool.eq_false_iff.mpr c30
        subst c30
        rw [if_neg (show ¬ (false = true) by decide)] at H
        obtain ⟨t118, A310, H⟩ := Option.bind_eq_some_iff.mp H
        have A31 := Aside0.mk A310
        clear A310
        by_cases c32 : 1 ≤ (t118.size : Int)
        ·rw [if_pos c32] at H
         have c32b0 := eq_true c32
         have c32b1 : decide (1 ≤ (t118.size : Int)) = true := decide_eq_true c32
         clear c32
         by_cases c33 : x3_1.size + (t118.extract 1 t118.size).size ≤ 9223372036854775807
         ·rw [if_pos c33] at H
          have c33b0 := eq_true c33
          have c33b1 : decide (x3_1.size + (t118.extract 1 t118.size).size ≤ 9223372036854775807) = true := decide_eq_true c33
          try have c33b2 : (9223372036854775807 < x3_1.size + (t118.extract 1 t118.size).size) = False := eq_false (Nat.not_lt.2 c33)
          try (have c33b3 := c33b2; simp only [ByteArray.size_append, ByteArray.size_extract, Nat.min_self] at c33b3; (try simp only [show (⟨#[32]⟩ : ByteArray).size = 1 from rfl, show (⟨#[58]⟩ : ByteArray).size = 1 from rfl, show (⟨#[10]⟩ : ByteArray).size = 1 from rfl] at c33b3))
          by_cases c34 : (x3_1 ++ (t118.extract 1 t118.size)).size + 1 ≤ 9223372036854775807
          ·rw [if_pos c34] at H
           have c34b0 := eq_true c34
           have c34b1 : decide ((x3_1 ++ (t118.extract 1 t118.size)).size + 1 ≤ 9223372036854775807) = true := decide_eq_true c34
           try have c34b2 : (9223372036854775807 < (x3_1 ++ (t118.extract 1 t118.size)).size + 1) = False := eq_false (Nat.not_lt.2 c34)
           try (have c34b3 := c34b2; simp only [ByteArray.size_append, ByteArray.size_extract, Nat.min_self] at c34b3; (try simp only [show (⟨#[32]⟩ : ByteArray).size = 1 from rfl, show (⟨#[58]⟩ : ByteArray).size = 1 from rfl, show (⟨#[10]⟩ : ByteArray).size = 1 from rfl] at c34b3))
           obtain ⟨t119, A350, H⟩ := Option.bind_eq_some_iff.mp H
           have A35 := Aside0.mk A350
           clear A350
           by_cases c36 : 1 ≤ (t119.size : Int)
           ·rw [if_pos c36] at H
            have c36b0 := eq_true c36
            have c36b1 : decide (1 ≤ (t119.size : Int)) = true := decide_eq_true c36
            clear c36
            by_cases c37 : ((x3_1 ++ (t118.extract 1 t118.size)) ++ (⟨#[58]⟩ : ByteArray)).size + (t119.extract 1 t119.size).size ≤ 9223372036854775807
            ·rw [if_pos c37] at H
             have c37b0 := eq_true c37
             have c37b1 : decide (((x3_1 ++ (t118.extract 1 t118.size)) ++ (⟨#[58]⟩ : ByteArray)).size + (t119.extract 1 t119.size).size ≤ 9223372036854775807) = true := decide_eq_true c37
             try have c37b2 : (9223372036854775807 < ((x3_1 ++ (t118.extract 1 t118.size)) ++ (⟨#[58]⟩ : ByteArray)).size + (t119.extract 1 t119.size).size) = False := eq_false (Nat.not_lt.2 c37)
             try (have c37b3 := c37b2; simp only [ByteArray.size_append, ByteArray.size_extract, Nat.min_self] at c37b3; (try simp only [show (⟨#[32]⟩ : ByteArray).size = 1 from rfl, show (⟨#[58]⟩ : ByteArray).size = 1 from rfl, show (⟨#[10]⟩ : ByteArray).size = 1 from rfl] at c37b3))
             by_cases c38 : (((x3_1 ++ (t118.extract 1 t118.size)) ++ (⟨#[58]⟩ : ByteArray)) ++ (t119.extract 1 t119.size)).size + 1 ≤ 9223372036854775807
             ·rw [if_pos c38] at H
              have c38b0 := eq_true c38
              have c38b1 : decide ((((x3_1 ++ (t118.extract 1 t118.size)) ++ (⟨#[58]⟩ : ByteArray)) ++ (t119.extract 1 t119.size)).size + 1 ≤ 9223372036854775807) = true := decide_eq_true c38
              try have c38b2 : (9223372036854775807 < (((x3_1 ++ (t118.extract 1 t118.size)) ++ (⟨#[58]⟩ : ByteArray)) ++ (t119.extract 1 t119.size)).size + 1) = False := eq_false (Nat.not_lt.2 c38)
              try (have c38b3 := c38b2; simp only [ByteArray.size_append, ByteArray.size_extract, Nat.min_self] at c38b3; (try simp only [show (⟨#[32]⟩ : ByteArray).size = 1 from rfl, show (⟨#[58]⟩ : ByteArray).size = 1 from rfl, show (⟨#[10]⟩ : ByteArray).size = 1 from rfl] at c38b3))
              by_cases c39 : ((((x3_1 ++ (t118.extract 1 t118.size)) ++ (⟨#[58]⟩ : ByteArray)) ++ (t119.extract 1 t119.size)) ++ (⟨#[32]⟩ : ByteArray)).size + ((rd_T61 l0 x4_1).f0).size ≤ 9223372036854775807
              ·rw [if_pos c39] at H
               have c39b0 := eq_true c39
               have c39b1 : decide (((((x3_1 ++ (t118.extract 1 t118.size)) ++ (⟨#[58]⟩ : ByteArray)) ++ (t119.extract 1 t119.size)) ++ (⟨#[32]⟩ : ByteArray)).size + ((rd_T61 l0 x4_1).f0).size ≤ 9223372036854775807) = true := decide_eq_true c39
               try have c39b2 : (9223372036854775807 < ((((x3_1 ++ (t118.extract 1 t118.size)) ++ (⟨#[58]⟩ : ByteArray)) ++ (t119.extract 1 t119.size)) ++ (⟨#[32]⟩ : ByteArray)).size + ((rd_T61 l0 x4_1).f0).size) = False := eq_false (Nat.not_lt.2 c39)
               try (have c39b3 := c39b2; simp only [ByteArray.size_append, ByteArray.size_extract, Nat.min_self] at c39b3; (try simp only [show (⟨#[32]⟩ : ByteArray).size = 1 from rfl, show (⟨#[58]⟩ : ByteArray).size = 1 from rfl, show (⟨#[10]⟩ : ByteArray).size = 1 from rfl] at c39b3))
               by_cases c40 : (((((x3_1 ++ (t118.extract 1 t118.size)) ++ (⟨#[58]⟩ : ByteArray)) ++ (t119.extract 1 t119.size)) ++ (⟨#[32]⟩ : ByteArray)) ++ ((rd_T61 l0 x4_1).f0)).size + 1 ≤ 9223372036854775807
               ·rw [if_pos c40] at H
                have c40b0 := eq_true c40
                have c40b1 : decide ((((((x3_1 ++ (t118.extract 1 t118.size)) ++ (⟨#[58]⟩ : ByteArray)) ++ (t119.extract 1 t119.size)) ++ (⟨#[32]⟩ : ByteArray)) ++ ((rd_T61 l0 x4_1).f0)).size + 1 ≤ 9223372036854775807) = true := decide_eq_true c40
                try have c40b2 : (9223372036854775807 < (((((x3_1 ++ (t118.extract 1 t118.size)) ++ (⟨#[58]⟩ : ByteArray)) ++ (t119.extract 1 t119.size)) ++ (⟨#[32]⟩ : ByteArray)) ++ ((rd_T61 l0 x4_1).f0)).size + 1) = False := eq_false (Nat.not_lt.2 c40)
                try (have c40b3 := c40b2; simp only [ByteArray.size_append, ByteArray.size_extract, Nat.min_self] at c40b3; (try simp only [show (⟨#[32]⟩ : ByteArray).size = 1 from rfl, show (⟨#[58]⟩ : ByteArray).size = 1 from rfl, show (⟨#[10]⟩ : ByteArray).size = 1 from rfl] at c40b3))
                have H' := Aside0.mk H
                clear H
                try go_wp2
                have n0_ := Aside0.mk (blk_drew BK113.out)
                have n1_ := Aside0.mk (below_drew1 HB.out)
                clear BK113
                clear HB
                have BK113 := n0_
                have HB := n1_
                clear n0_ n1_
                refine start_ (n := 18) (S := fun w' => w'.cell? ⟨gb113, 0, none⟩ = some (.string ((rd_T61 l0 x4_1).f0)) ∧ w'.cell? ⟨gb113, 1, none⟩ = some (.int .i64 ((rd_T61 l0 x4_1).f1)) ∧ w'.cell? ⟨gb113, 2, none⟩ = some (.int .i64 ((rd_T61 l0 x4_1).f2))) (ds := []) (zm 18 0) (by kernel_rfl) rfl rfl ⟨(blk_cell BK113.out 0).trans rfl, (blk_cell BK113.out 1).trans rfl, (blk_cell BK113.out 2).trans rfl⟩ (fun hHeld => ?_); refine with_tabW spec_SymText.tab8 spec_SymText.bits8 (fun HT_ HW_ => ?_)
                generalize wc.drew = w41 at BK113 HB hHeld ⊢
                refine zp 0 51 (zm 18 1) ?_
                refine zp 1 52 (zm 18 3) ?_
                refine zp 7 58 (zm 18 131) ?_
                refine zp 13 64 (zm 18 8323) ?_
                refine take_ (i := 2) (N := some 53) (v := ?_) (a' := ?_) (zm 18 8327) rfl rfl (take_ofW HT_.out HW_.out (by kernel_rfl)) (fun _ _ _ h => h) (Or.inl ⟨by rfl, ?_⟩) hHeld ?_ ?_
                rotate_left
                ·rintro w' ⟨s0, s1, s2⟩
                 go_simp
                 with_reducible rfl
                rotate_left
                ·simp only [Act.put, List.setIfInBounds_toArray, List.set_cons_zero, List.set_cons_succ, i64_w, i32_w]
                 rfl
                refine take_ (i := 8) (N := some 59) (v := ?_) (a' := ?_) (zm 18 8583) rfl rfl (take_ofW HT_.out HW_.out (by kernel_rfl)) (fun _ _ _ h => h) (Or.inl ⟨by rfl, ?_⟩) hHeld ?_ ?_
                rotate_left
                ·rintro w' ⟨s0, s1, s2⟩
                 go_simp
                 with_reducible rfl
                rotate_left
                ·simp only [Act.put, List.setIfInBounds_toArray, List.set_cons_zero, List.set_cons_succ, i64_w, i32_w]
                 rfl
                refine take_ (i := 14) (N := some 65) (v := ?_) (a' := ?_) (zm 18 24967) rfl rfl (take_ofW HT_.out HW_.out (by kernel_rfl)) (fun _ _ _ h => h) (Or.inl ⟨by rfl, ?_⟩) hHeld ?_ ?_
                rotate_left
                ·rintro w' ⟨s0, s1, s2⟩
                 go_simp
                 with_reducible rfl
                rotate_left
                ·simp only [Act.put, List.setIfInBounds_toArray, List.set_cons_zero, List.set_cons_succ, i64_w, i32_w]
                 rfl
                refine one_ (i := 3) (N := some 54) (zm 18 24975) rfl rfl (one_of HT_.out (by kernel_rfl)) (by decide) (fun K hK => ?_)
                refine zi Tryd.func14 #[.int .i64 ((rd_T61 l0 x4_1).f1), .int .i64 2] ?_
                with_reducible refine (spec_HexOf.calls kj3 ((rd_T61 l0 x4_1).f1) 2 t118 _ A31.out).mono ?_
                rintro e w' ⟨rfl, ⟨nd, rfl⟩⟩
                refine ⟨_, rfl, ?_⟩
                refine hK.out _ _ ⟨(blk_cell BK113.out 0).trans rfl, (blk_cell BK113.out 1).trans rfl, (blk_cell BK113.out 2).trans rfl⟩ (fun hHeld => ?_)
                clear hK K
                refine zq ?_
                refine zp 4 55 (zm 18 24991) ?_
                refine zp 5 56 (zm 18 25023) ?_
                refine zp 6 57 (zm 18 25087) ?_
                refine one_ (i := 9) (N := some 60) (zm 18 25599) rfl rfl (one_of HT_.out (by kernel_rfl)) (by decide) (fun K hK => ?_)
                refine zi Tryd.func14 #[.int .i64 ((rd_T61 l0 x4_1).f2), .int .i64 4] ?_
                with_reducible refine (spec_HexOf.calls kj3 ((rd_T61 l0 x4_1).f2) 4 t119 _ A35.out).mono ?_
                rintro e w' ⟨rfl, ⟨nd, rfl⟩⟩
                refine ⟨_, rfl, ?_⟩
                refine hK.out _ _ ⟨(blk_cell BK113.out 0).trans rfl, (blk_cell BK113.out 1).trans rfl, (blk_cell BK113.out 2).trans rfl⟩ (fun hHeld => ?_)
                clear hK K
                refine zq ?_
                refine zp 10 61 (zm 18 26623) ?_
                refine zp 11 62 (zm 18 28671) ?_
                refine zp 12 63 (zm 18 32767) ?_
                refine zp 15 66 (zm 18 65535) ?_
                refine zp 16 67 (zm 18 131071) ?_
                refine zp 17 3 (zm 18 262143) ?_
                refine done_ (done_of HT_.out (by kernel_rfl)) ?_
                try go_wp2
                go_roundg kj3
                case measure => have := HK1.out; have := HJ3.out; omega
                case rel => exact ⟨((((((x3_1 ++ (t118.extract 1 t118.size)) ++ (⟨#[58]⟩ : ByteArray)) ++ (t119.extract 1 t119.size)) ++ (⟨#[32]⟩ : ByteArray)) ++ ((rd_T61 l0 x4_1).f0)) ++ (⟨#[10]⟩ : ByteArray)), (wrap64 (x4_1 + 1)), (zE _), (zE _), H', ⟨by have := HK1.out; have := HJ3.out; omega⟩, ⟨zb _⟩⟩
               ·rw [if_neg c40] at H
                exact absurd H (by simp)
              ·rw [if_neg c39] at H
               exact absurd H (by simp)
             ·rw [if_neg c38] at H
              exact absurd H (by simp)
            ·rw [if_neg c37] at H
             exact absurd H (by simp)
           ·rw [if_neg c36] at H
            exact absurd H (by simp)
          ·rw [if_neg c34] at H
           exact absurd H (by simp)
         ·rw [if_neg c33] at H
          exact absurd H (by simp)
        ·rw [if_neg c32] at H
         exact absurd H (by simp)
    ·rw [if_neg c3] at H
     exact absurd H (by simp)
   ·rw [if_neg c2] at H
    have c2b0 : decide (x4_1 < (l0.length : Int)) = false := decide_eq_false c2
    clear c2
    obtain rfl := Option.some.inj H
    go_wp2
    first | go_ret | ((try simp only [Exit.inBlock, Exit.then]); apply bodyPost_ret; (exact results_tmp rfl _ _ _); rfl)
    exact ⟨ze _, zb _⟩

end Go.Proofs.YtmiebnpmckjidaaDoor.PFnExactReadSyms
