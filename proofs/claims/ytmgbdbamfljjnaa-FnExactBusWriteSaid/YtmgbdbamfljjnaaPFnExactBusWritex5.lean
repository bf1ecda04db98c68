/- What the Go functions that the law FnExactBusWrite reaches compute, function by function, and that Go comes to just that. -/
import Derived.Test.YtmgbdbamfljjnaaPFnExactBusWritex0
import Derived.Test.YtmgbdbamfljjnaaAidZ
import Derived.Test.YtmgbdbamfljjnaaPFnExactBusWritex2
import Derived.Test.YtmgbdbamfljjnaaPFnExactBusWritex4
namespace Go.Proofs.Ytmgbdbamfljjnaa.PFnExactBusWrite
open Go.RowKit Go.Proofs.Ytmgbdbamfljjnaa.Z Go.Proofs.YtmgbdbamfljjnaaW.PrintWords Go.Proofs.YtmgbdbamfljjnaaW.PrintLast Go.Proofs.YtmgbdbamfljjnaaW.PrintMore
attribute [local go_sem] max2_int min2_int max_two min_two max_three min_three max_four min_four   -- for this text's walks alone
set_option linter.unusedVariables false
set_option linter.unusedSimpArgs false

/-! ### spec_l5Write: function 54 -/
mutual
def spec_l5Write.j0 : Nat → Int → Int → Bool → ByteArray → Int → Int → ByteArray → Int → Bool → Int → Option (ByteArray × Int × Int × ByteArray × Int × Bool × Int)
  | 0, _, _, _, _, _, _, _, _, _, _ => none
  | k + 1, x1, x2, x18, x177000, x177001, x177002, x177003, x177004, x177005, x177006 => if x18 = true then (some (x177000, x177001, x2, x177003, x177004, x177005, x177006)) else (if x1 < 256 then (some (x177000, x177001, mx 1 (Int.tmod x2 32), x177003, x177004, x177005, x177006)) else (if x1 < 384 then (some (x177000, x177001, x177002, x177003, Int.tmod x2 4, x177005, x177006)) else (if x1 < 512 then (if x177001 = 1 then (some (x177000, x177001, x177002, x177003, x177004, x177005, Int.tmod x2 2)) else (some (x177000, x177001, x177002, x177003, x177004, x177005, x177006))) else (if x177005 = true then ((spec_l1In.f x1 40960 41023).bind fun t178 => (spec_l5Write.j1 k x1 x2 t178 x177000 x177001 x177002 x177003 x177004 x177005 x177006)) else (spec_l5Write.j1 k x1 x2 false x177000 x177001 x177002 x177003 x177004 x177005 x177006)))))
def spec_l5Write.j1 : Nat → Int → Int → Bool → ByteArray → Int → Int → ByteArray → Int → Bool → Int → Option (ByteArray × Int × Int × ByteArray × Int × Bool × Int)
  | 0, _, _, _, _, _, _, _, _, _, _ => none
  | k + 1, x1, x2, x50, x177000, x177001, x177002, x177003, x177004, x177005, x177006 => if x50 = true then ((spec_l5RamBank.f x177000 x177001 x177002 x177003 x177004 x177005 x177006).bind fun t179 => ((spec_l5Put.f x177003 (wrap64 ((wrap64 ((wrap64 (t179 * 64)) + x1)) - 40960)) x2).bind fun t180 => (some (x177000, x177001, x177002, t180, x177004, x177005, x177006)))) else (some (x177000, x177001, x177002, x177003, x177004, x177005, x177006))
end
def spec_l5Write.f (k : Nat) (a0_0 : ByteArray) (a0_1 : Int) (a0_2 : Int) (a0_3 : ByteArray) (a0_4 : Int) (a0_5 : Bool) (a0_6 : Int) (a1 : Int) (a2 : Int) : Option (ByteArray × Int × Int × ByteArray × Int × Bool × Int) := if a0_1 = 0 then (some (a0_0, a0_1, a0_2, a0_3, a0_4, a0_5, a0_6)) else (if a1 < 128 then (some (a0_0, a0_1, a0_2, a0_3, a0_4, ((Int.tmod a2 16) == 10), a0_6)) else (if a1 < 256 then (spec_l5Write.j0 k a1 a2 (a0_1 == 2) a0_0 a0_1 a0_2 a0_3 a0_4 a0_5 a0_6) else (spec_l5Write.j0 k a1 a2 false a0_0 a0_1 a0_2 a0_3 a0_4 a0_5 a0_6)))
theorem spec_l5Write.mono_l : ∀ k, (∀ y0 y1 y2 y3 y4 y5 y6 y7 y8 y9, LeO (spec_l5Write.j0 k y0 y1 y2 y3 y4 y5 y6 y7 y8 y9) (spec_l5Write.j0 (k + 1) y0 y1 y2 y3 y4 y5 y6 y7 y8 y9)) ∧ (∀ y0 y1 y2 y3 y4 y5 y6 y7 y8 y9, LeO (spec_l5Write.j1 k y0 y1 y2 y3 y4 y5 y6 y7 y8 y9) (spec_l5Write.j1 (k + 1) y0 y1 y2 y3 y4 y5 y6 y7 y8 y9))
  | 0 => ⟨fun _ _ _ _ _ _ _ _ _ _ r h => by simp [spec_l5Write.j0] at h, fun _ _ _ _ _ _ _ _ _ _ r h => by simp [spec_l5Write.j1] at h⟩
  | k + 1 => by
    obtain ⟨ih0, ih1⟩ := spec_l5Write.mono_l k
    refine ⟨?_, ?_⟩
    · intro y0 y1 y2 y3 y4 y5 y6 y7 y8 y9
      unfold spec_l5Write.j0
      repeat' first
      | (with_reducible exact ih0 _ _ _ _ _ _ _ _ _ _)
      | (with_reducible exact ih1 _ _ _ _ _ _ _ _ _ _)
      | (with_reducible exact LeO.refl _)
      | (with_reducible exact LeO.none _)
      | (with_reducible refine LeO.ite ?_ ?_)
      | (with_reducible refine LeO.bind ?_ (fun _ => ?_))
      | exact ih0 _ _ _ _ _ _ _ _ _ _
      | exact ih1 _ _ _ _ _ _ _ _ _ _
      | exact LeO.none _
      | refine LeO.ite ?_ ?_
      | refine LeO.bind ?_ (fun _ => ?_)
    · intro y0 y1 y2 y3 y4 y5 y6 y7 y8 y9
      unfold spec_l5Write.j1
      repeat' first
      | (with_reducible exact ih0 _ _ _ _ _ _ _ _ _ _)
      | (with_reducible exact ih1 _ _ _ _ _ _ _ _ _ _)
      | (with_reducible exact LeO.refl _)
      | (with_reducible exact LeO.none _)
      | (with_reducible refine LeO.ite ?_ ?_)
      | (with_reducible refine LeO.bind ?_ (fun _ => ?_))
      | exact ih0 _ _ _ _ _ _ _ _ _ _
      | exact ih1 _ _ _ _ _ _ _ _ _ _
      | exact LeO.none _
      | refine LeO.ite ?_ ?_
      | refine LeO.bind ?_ (fun _ => ?_)
theorem spec_l5Write.mono : ∀ a0 a1 a2 a3 a4 a5 a6 a7 a8 k, LeO (spec_l5Write.f k a0 a1 a2 a3 a4 a5 a6 a7 a8) (spec_l5Write.f (k + 1) a0 a1 a2 a3 a4 a5 a6 a7 a8) := by
  intro a0 a1 a2 a3 a4 a5 a6 a7 a8 k
  obtain ⟨ih0, ih1⟩ := spec_l5Write.mono_l k
  unfold spec_l5Write.f
  repeat' first
      | (with_reducible exact ih0 _ _ _ _ _ _ _ _ _ _)
      | (with_reducible exact ih1 _ _ _ _ _ _ _ _ _ _)
      | (with_reducible exact LeO.refl _)
      | (with_reducible exact LeO.none _)
      | (with_reducible refine LeO.ite ?_ ?_)
      | (with_reducible refine LeO.bind ?_ (fun _ => ?_))
      | exact ih0 _ _ _ _ _ _ _ _ _ _
      | exact ih1 _ _ _ _ _ _ _ _ _ _
      | exact LeO.none _
      | refine LeO.ite ?_ ?_
      | refine LeO.bind ?_ (fun _ => ?_)
def spec_l5Write.T15 : Bool × List (List Nat × List Nat) := (true, [([], []), ([0], [0]), ([], []), ([2], [2]), ([3], [3]), ([], []), ([4, 5], [4, 5]), ([6], [6]), ([], []), ([1, 7, 8, 3], [1, 7, 8]), ([0, 1, 2, 3, 4, 5, 6, 7, 8, 9], []), ([10, 9, 9, 0, 1, 2, 3, 4, 5, 6, 7, 8, 9], [9, 10])])
def spec_l5Write.B15 : List Nat := [0, 1, 0, 4, 12, 0, 60, 124, 0, 511, 1023, 2047]
theorem spec_l5Write.tab15 : rtab .any (opsOf Try.f54 15) = spec_l5Write.T15 := by kernel_rfl
theorem spec_l5Write.bits15 : waitsOk spec_l5Write.T15.2 spec_l5Write.B15 = true := by kernel_rfl
open Go.Proofs.Ytmgbdbamfljjnaa.Aid in
set_option maxHeartbeats 8000000 in
set_option maxRecDepth 100000 in
theorem spec_l5Write.calls (k : Nat) (a0_0 : ByteArray) (a0_1 : Int) (a0_2 : Int) (a0_3 : ByteArray) (a0_4 : Int) (a0_5 : Bool) (a0_6 : Int) (a1 : Int) (a2 : Int) (r1 : ByteArray) (r2 : Int) (r3 : Int) (r4 : ByteArray) (r5 : Int) (r6 : Bool) (r7 : Int) (w : World) (h : spec_l5Write.f k a0_0 a0_1 a0_2 a0_3 a0_4 a0_5 a0_6 a1 a2 = some (r1, r2, r3, r4, r5, r6, r7)) :
 Calls Try.prog 54 #[.agg #[.string a0_0, .int .i64 a0_1, .int .i64 a0_2, .string a0_3, .int .i64 a0_4, .bool a0_5, .int .i64 a0_6], .int .i64 a1, .int .i64 a2] w fun e w' => e = .returned (.agg #[.string r1, .int .i64 r2, .int .i64 r3, .string r4, .int .i64 r5, .bool r6, .int .i64 r7]) ∧ Below w.heap.size w w' := by
 have hu32 := Try.underlying32
 have HB := Aside0.mk (Below.refl w.heap.size w)
 have H : (if a0_1 = 0 then (some (a0_0, a0_1, a0_2, a0_3, a0_4, a0_5, a0_6)) else (if a1 < 128 then (some (a0_0, a0_1, a0_2, a0_3, a0_4, ((Int.tmod a2 16) == 10), a0_6)) else (if a1 < 256 then (spec_l5Write.j0 k a1 a2 (a0_1 == 2) a0_0 a0_1 a0_2 a0_3 a0_4 a0_5 a0_6) else (spec_l5Write.j0 k a1 a2 false a0_0 a0_1 a0_2 a0_3 a0_4 a0_5 a0_6)))) = some (r1, r2, r3, r4, r5, r6, r7) := h
 clear h
 by_cases c4 : a0_1 = 0
 ·rw [if_pos c4] at H
  have c4b0 : (a0_1 == 0) = true := beq_iff_eq.mpr c4
  have c4b1 : (a0_1 != 0) = false := bne_eq_false_iff_eq.mpr c4
  clear c4
  simp only [Option.some.injEq, Prod.mk.injEq] at H
  obtain ⟨rfl, rfl, rfl, rfl, rfl, rfl, rfl⟩ := H
  go_enter Try.func54, Try.ntmps54
  go_wp2_with (first | ((with_reducible refine gate_dst (N := 3) rfl ?_); refine zbx 3 #[.string a0_0, .int .i64 a0_1, .int .i64 a0_2, .string a0_3, .int .i64 a0_4, .bool a0_5, .int .i64 a0_6] 32 ?_; intro gb176 hg w5 hbox hb; have BK176 := Aside0.mk (hbox); have GW176 := zs w hg; have GE176 := GW176; replace HB := zt w hb; clear hb hbox hg) | ((with_reducible refine gate_dst (N := 6) rfl ?_); refine zbx 6 #[.string (⟨#[]⟩ : ByteArray), .int .i64 0, .int .i64 0, .string (⟨#[]⟩ : ByteArray), .int .i64 0, .bool false, .int .i64 0] 32 ?_; intro gb177 hg w6 hbox hb; have BK177 := Aside0.mk (hbox); have GW177 := zs w hg; have GE177 := GW177; have NB176_177 := zlt BK176 hg; have NB177_176 := zgt (zlt BK176 hg); replace BK176 := zk BK176 hb; replace HB := zt w hb; clear hb hbox hg; have hnb7 := NB176_177.out; have hnc7 := NB177_176.out; have hZ8_ := cells_all BK176.out; simp only [allCells, Nat.zero_add, Nat.reduceAdd] at hZ8_; obtain ⟨hcz8_0, hfz8_0, hcz8_1, hfz8_1, hcz8_2, hfz8_2, hcz8_3, hfz8_3, hcz8_4, hfz8_4, hcz8_5, hfz8_5, hcz8_6, hfz8_6, _⟩ := hZ8_; have hZ9_ := cells_all BK177.out; simp only [allCells, Nat.zero_add, Nat.reduceAdd] at hZ9_; obtain ⟨hcz9_0, hfz9_0, hcz9_1, hfz9_1, hcz9_2, hfz9_2, hcz9_3, hfz9_3, hcz9_4, hfz9_4, hcz9_5, hfz9_5, hcz9_6, hfz9_6, _⟩ := hZ9_))
  refine bodyPost_ret (results_cell_row rfl _ _ gb177 32 #[.string a0_0, .int .i64 a0_1, .int .i64 a0_2, .string a0_3, .int .i64 a0_4, .bool a0_5, .int .i64 a0_6] (0, 0) _ rfl (zw _) Try.underlying32 rfl (by kernel_rfl)) rfl ?_
  exact ⟨ze _, zb _⟩
 ·rw [if_neg c4] at H
  have c4b0 : (a0_1 == 0) = false := beq_eq_false_iff_ne.mpr c4
  have c4b1 : (a0_1 != 0) = true := bne_iff_ne.mpr c4
  by_cases c10 : a1 < 128
  ·rw [if_pos c10] at H
   have c10b0 : decide (a1 < 128) = true := decide_eq_true c10
   clear c10
   simp only [Option.some.injEq, Prod.mk.injEq] at H
   obtain ⟨rfl, rfl, rfl, rfl, rfl, rfl, rfl⟩ := H
   go_enter Try.func54, Try.ntmps54
   go_wp2_with (first | ((with_reducible refine gate_dst (N := 3) rfl ?_); refine zbx 3 #[.string a0_0, .int .i64 a0_1, .int .i64 a0_2, .string a0_3, .int .i64 a0_4, .bool a0_5, .int .i64 a0_6] 32 ?_; intro gb176 hg w11 hbox hb; have BK176 := Aside0.mk (hbox); have GW176 := zs w hg; have GE176 := GW176; replace HB := zt w hb; clear hb hbox hg) | ((with_reducible refine gate_dst (N := 6) rfl ?_); refine zbx 6 #[.string (⟨#[]⟩ : ByteArray), .int .i64 0, .int .i64 0, .string (⟨#[]⟩ : ByteArray), .int .i64 0, .bool false, .int .i64 0] 32 ?_; intro gb177 hg w12 hbox hb; have BK177 := Aside0.mk (hbox); have GW177 := zs w hg; have GE177 := GW177; have NB176_177 := zlt BK176 hg; have NB177_176 := zgt (zlt BK176 hg); replace BK176 := zk BK176 hb; replace HB := zt w hb; clear hb hbox hg; have hnb13 := NB176_177.out; have hnc13 := NB177_176.out; have hZ14_ := cells_all BK176.out; simp only [allCells, Nat.zero_add, Nat.reduceAdd] at hZ14_; obtain ⟨hcz14_0, hfz14_0, hcz14_1, hfz14_1, hcz14_2, hfz14_2, hcz14_3, hfz14_3, hcz14_4, hfz14_4, hcz14_5, hfz14_5, hcz14_6, hfz14_6, _⟩ := hZ14_; have hZ15_ := cells_all BK177.out; simp only [allCells, Nat.zero_add, Nat.reduceAdd] at hZ15_; obtain ⟨hcz15_0, hfz15_0, hcz15_1, hfz15_1, hcz15_2, hfz15_2, hcz15_3, hfz15_3, hcz15_4, hfz15_4, hcz15_5, hfz15_5, hcz15_6, hfz15_6, _⟩ := hZ15_))
   refine bodyPost_ret (results_cell_row rfl _ _ gb177 32 #[.string a0_0, .int .i64 a0_1, .int .i64 a0_2, .string a0_3, .int .i64 a0_4, .bool ((Int.tmod a2 16) == 10), .int .i64 a0_6] (0, 0) _ rfl (zw _) Try.underlying32 rfl (by kernel_rfl)) rfl ?_
   exact ⟨ze _, zb _⟩
  ·rw [if_neg c10] at H
   have c10b0 : decide (a1 < 128) = false := decide_eq_false c10
   clear c10
   have HC16 := Aside0.mk H
   clear H
   go_enter Try.func54, Try.ntmps54
   go_upto_region 5 with (first | ((with_reducible refine gate_dst (N := 3) rfl ?_); refine zbx 3 #[.string a0_0, .int .i64 a0_1, .int .i64 a0_2, .string a0_3, .int .i64 a0_4, .bool a0_5, .int .i64 a0_6] 32 ?_; intro gb176 hg w17 hbox hb; have BK176 := Aside0.mk (hbox); have GW176 := zs w hg; have GE176 := GW176; replace HB := zt w hb; clear hb hbox hg) | ((with_reducible refine gate_dst (N := 6) rfl ?_); refine zbx 6 #[.string (⟨#[]⟩ : ByteArray), .int .i64 0, .int .i64 0, .string (⟨#[]⟩ : ByteArray), .int .i64 0, .bool false, .int .i64 0] 32 ?_; intro gb177 hg w18 hbox hb; have BK177 := Aside0.mk (hbox); have GW177 := zs w hg; have GE177 := GW177; have NB176_177 := zlt BK176 hg; have NB177_176 := zgt (zlt BK176 hg); replace BK176 := zk BK176 hb; replace HB := zt w hb; clear hb hbox hg; have hnb19 := NB176_177.out; have hnc19 := NB177_176.out; have hZ20_ := cells_all BK176.out; simp only [allCells, Nat.zero_add, Nat.reduceAdd] at hZ20_; obtain ⟨hcz20_0, hfz20_0, hcz20_1, hfz20_1, hcz20_2, hfz20_2, hcz20_3, hfz20_3, hcz20_4, hfz20_4, hcz20_5, hfz20_5, hcz20_6, hfz20_6, _⟩ := hZ20_))
   (try simp only [Act.put, List.setIfInBounds_toArray, List.set_cons_zero, List.set_cons_succ])
   go_cut [18] (fun v18 wc => ∃ (kq : Nat) (x18_15 : Bool), v18 = .bool x18_15 ∧ Aside0 (spec_l5Write.j0 kq a1 a2 x18_15 a0_0 a0_1 a0_2 a0_3 a0_4 a0_5 a0_6 = some (r1, r2, r3, r4, r5, r6, r7)) ∧ Aside0 (kq ≤ k) ∧ Aside0 (wc.heap[gb176]? = some (.cells #[.string a0_0, .int .i64 a0_1, .int .i64 a0_2, .string a0_3, .int .i64 a0_4, .bool a0_5, .int .i64 a0_6] 32 (0, 0))) ∧ Aside0 (wc.heap[gb177]? = some (.cells #[.string (⟨#[]⟩ : ByteArray), .int .i64 0, .int .i64 0, .string (⟨#[]⟩ : ByteArray), .int .i64 0, .bool false, .int .i64 0] 32 (0, 0))) ∧ Aside0 (Below w.heap.size w wc))
   case first =>
    have H := HC16.out
    clear HC16
    by_cases c21 : a1 < 256
    ·rw [if_pos c21] at H
     have c21b0 : decide (a1 < 256) = true := decide_eq_true c21
     clear c21
     (first | rw [c21b0] | (simp only [i64_w, i32_w]; rw [c21b0]) | skip)
     have H' := Aside0.mk H
     clear H
     have hnb22 := NB176_177.out
     have hnc22 := NB177_176.out
     have hcz23_0 := zc0 BK176
     have hcz23_1 := zc1 BK176
     have hcz23_2 := zc2 BK176
     have hcz23_3 := zc3 BK176
     have hcz23_4 := zc4 BK176
     have hcz23_5 := zc5 BK176
     have hcz23_6 := zc6 BK176
     have hfz23_0 := blk_frozen BK176.out 0
     have hfz23_1 := blk_frozen BK176.out 1
     have hfz23_2 := blk_frozen BK176.out 2
     have hfz23_3 := blk_frozen BK176.out 3
     have hfz23_4 := blk_frozen BK176.out 4
     have hfz23_5 := blk_frozen BK176.out 5
     have hfz23_6 := blk_frozen BK176.out 6
     go_wp2
     go_meet
     case rel => exact ⟨_, ((a0_1 == 2)), (zE _), H', ⟨by first | omega | exact Nat.le_refl _⟩, ⟨by (with_reducible repeat (first | refine blk_drewN ?_ _ | refine blk_drew ?_ | refine blk_alloc ?_ _)); exact BK176.out⟩, ⟨by (with_reducible repeat (first | refine blk_drewN ?_ _ | refine blk_drew ?_ | refine blk_alloc ?_ _)); exact BK177.out⟩, ⟨zb _⟩⟩
    ·rw [if_neg c21] at H
     have c21b0 : decide (a1 < 256) = false := decide_eq_false c21
     clear c21
     (first | rw [c21b0] | (simp only [i64_w, i32_w]; rw [c21b0]) | skip)
     have H' := Aside0.mk H
     clear H
     go_wp2
     go_meet
     case rel => exact ⟨_, (false), (zE _), H', ⟨by first | omega | exact Nat.le_refl _⟩, ⟨by (with_reducible repeat (first | refine blk_drewN ?_ _ | refine blk_drew ?_ | refine blk_alloc ?_ _)); exact BK176.out⟩, ⟨by (with_reducible repeat (first | refine blk_drewN ?_ _ | refine blk_drew ?_ | refine blk_alloc ?_ _)); exact BK177.out⟩, ⟨zb _⟩⟩
   case rest =>
    clear HC16
    try clear c1
    try clear c2
    try clear p2
    try clear c4
    try clear c4b0
    try clear c4b1
    try clear c5
    try clear c7
    try clear c10
    try clear c10b0
    try clear c13
    try clear c19
    try clear c21
    try clear c21b0
    try clear c22
    try clear hcz14_0
    try clear hcz14_1
    try clear hcz14_2
    try clear hcz14_3
    try clear hcz14_4
    try clear hcz14_5
    try clear hcz14_6
    try clear hcz15_0
    try clear hcz15_1
    try clear hcz15_2
    try clear hcz15_3
    try clear hcz15_4
    try clear hcz15_5
    try clear hcz15_6
    try clear hcz20_0
    try clear hcz20_1
    try clear hcz20_2
    try clear hcz20_3
    try clear hcz20_4
    try clear hcz20_5
    try clear hcz20_6
    try clear hcz23_0
    try clear hcz23_1
    try clear hcz23_2
    try clear hcz23_3
    try clear hcz23_4
    try clear hcz23_5
    try clear hcz23_6
    try clear hcz8_0
    try clear hcz8_1
    try clear hcz8_2
    try clear hcz8_3
    try clear hcz8_4
    try clear hcz8_5
    try clear hcz8_6
    try clear hcz9_0
    try clear hcz9_1
    try clear hcz9_2
    try clear hcz9_3
    try clear hcz9_4
    try clear hcz9_5
    try clear hcz9_6
    try clear hfz14_0
    try clear hfz14_1
    try clear hfz14_2
    try clear hfz14_3
    try clear hfz14_4
    try clear hfz14_5
    try clear hfz14_6
    try clear hfz15_0
    try clear hfz15_1
    try clear hfz15_2
    try clear hfz15_3
    try clear hfz15_4
    try clear hfz15_5
    try clear hfz15_6
    try clear hfz20_0
    try clear hfz20_1
    try clear hfz20_2
    try clear hfz20_3
    try clear hfz20_4
    try clear hfz20_5
    try clear hfz20_6
    try clear hfz23_0
    try clear hfz23_1
    try clear hfz23_2
    try clear hfz23_3
    try clear hfz23_4
    try clear hfz23_5
    try clear hfz23_6
    try clear hfz8_0
    try clear hfz8_1
    try clear hfz8_2
    try clear hfz8_3
    try clear hfz8_4
    try clear hfz8_5
    try clear hfz8_6
    try clear hfz9_0
    try clear hfz9_1
    try clear hfz9_2
    try clear hfz9_3
    try clear hfz9_4
    try clear hfz9_5
    try clear hfz9_6
    obtain ⟨kq, x18_15, rfl, HA, HJ15, BK176, BK177, HB⟩ := hcut
    cases kq with
    | zero => exact absurd HA.out (by simp [spec_l5Write.j0])
    | succ kj15 =>
     have H := HA.out
     clear HA
     simp only [spec_l5Write.j0] at H
     by_cases c24 : x18_15 = true
     ·subst c24
      rw [if_pos rfl] at H
      simp only [Option.some.injEq, Prod.mk.injEq] at H
      obtain ⟨rfl, rfl, rfl, rfl, rfl, rfl, rfl⟩ := H
      have hnb25 := NB176_177.out
      have hnc25 := NB177_176.out
      have hcz26_0 := zc0 BK176
      have hcz26_1 := zc1 BK176
      have hcz26_2 := zc2 BK176
      have hcz26_3 := zc3 BK176
      have hcz26_4 := zc4 BK176
      have hcz26_5 := zc5 BK176
      have hcz26_6 := zc6 BK176
      have hfz26_0 := blk_frozen BK176.out 0
      have hfz26_1 := blk_frozen BK176.out 1
      have hfz26_2 := blk_frozen BK176.out 2
      have hfz26_3 := blk_frozen BK176.out 3
      have hfz26_4 := blk_frozen BK176.out 4
      have hfz26_5 := blk_frozen BK176.out 5
      have hfz26_6 := blk_frozen BK176.out 6
      have hcz27_0 := zc0 BK177
      have hcz27_1 := zc1 BK177
      have hcz27_2 := zc2 BK177
      have hcz27_3 := zc3 BK177
      have hcz27_4 := zc4 BK177
      have hcz27_5 := zc5 BK177
      have hcz27_6 := zc6 BK177
      have hfz27_0 := blk_frozen BK177.out 0
      have hfz27_1 := blk_frozen BK177.out 1
      have hfz27_2 := blk_frozen BK177.out 2
      have hfz27_3 := blk_frozen BK177.out 3
      have hfz27_4 := blk_frozen BK177.out 4
      have hfz27_5 := blk_frozen BK177.out 5
      have hfz27_6 := blk_frozen BK177.out 6
      go_wp2
      refine bodyPost_ret (results_cell_row rfl _ _ gb177 32 #[.string a0_0, .int .i64 a0_1, .int .i64 a2, .string a0_3, .int .i64 a0_4, .bool a0_5, .int .i64 a0_6] (0, 0) _ rfl (zw _) Try.underlying32 rfl (by kernel_rfl)) rfl ?_
      exact ⟨ze _, zb _⟩
     ·replace c24 := Bool.eq_false_iff.mpr c24
      subst c24
      rw [if_neg (show ¬ (false = true) by decide)] at H
      by_cases c28 : a1 < 256
      ·rw [if_pos c28] at H
       have c28b0 : decide (a1 < 256) = true := decide_eq_true c28
       clear c28
       obtain ⟨ji29, hji29⟩ : ∃ j_ : Int, (mx 1 (Int.tmod a2 32)) = j_ := ⟨_, rfl⟩
       replace H : (some (a0_0, a0_1, ji29, a0_3, a0_4, a0_5, a0_6)) = some (r1, r2, r3, r4, r5, r6, r7) := by first | (rw [hji29] at H; exact H) | (simp only [hji29] at H ⊢; exact H)
       have hji29_ : (if 1 < (Int.tmod a2 32) then (Int.tmod a2 32) else 1) = ji29 := hji29
       simp only [Option.some.injEq, Prod.mk.injEq] at H
       obtain ⟨rfl, rfl, rfl, rfl, rfl, rfl, rfl⟩ := H
       have hnb30 := NB176_177.out
       have hnc30 := NB177_176.out
       have hcz31_0 := zc0 BK176
       have hcz31_1 := zc1 BK176
       have hcz31_2 := zc2 BK176
       have hcz31_3 := zc3 BK176
       have hcz31_4 := zc4 BK176
       have hcz31_5 := zc5 BK176
       have hcz31_6 := zc6 BK176
       have hfz31_0 := blk_frozen BK176.out 0
       have hfz31_1 := blk_frozen BK176.out 1
       have hfz31_2 := blk_frozen BK176.out 2
       have hfz31_3 := blk_frozen BK176.out 3
       have hfz31_4 := blk_frozen BK176.out 4
       have hfz31_5 := blk_frozen BK176.out 5
       have hfz31_6 := blk_frozen BK176.out 6
       have hcz32_0 := zc0 BK177
       have hcz32_1 := zc1 BK177
       have hcz32_2 := zc2 BK177
       have hcz32_3 := zc3 BK177
       have hcz32_4 := zc4 BK177
       have hcz32_5 := zc5 BK177
       have hcz32_6 := zc6 BK177
       have hfz32_0 := blk_frozen BK177.out 0
       have hfz32_1 := blk_frozen BK177.out 1
       have hfz32_2 := blk_frozen BK177.out 2
       have hfz32_3 := blk_frozen BK177.out 3
       have hfz32_4 := blk_frozen BK177.out 4
       have hfz32_5 := blk_frozen BK177.out 5
       have hfz32_6 := blk_frozen BK177.out 6
       go_wp2
       refine bodyPost_ret (results_cell_row rfl _ _ gb177 32 #[.string a0_0, .int .i64 a0_1, .int .i64 ji29, .string a0_3, .int .i64 a0_4, .bool a0_5, .int .i64 a0_6] (0, 0) _ rfl (zw _) Try.underlying32 rfl (by kernel_rfl)) rfl ?_
       exact ⟨by first | rfl | (simp [errW_none, errW_some] <;> rfl) | (simp only [← hji29]; first | rfl | (simp [errW_none, errW_some] <;> rfl)) | (simp [*, errW_none, errW_some] <;> rfl), zb _⟩
      ·rw [if_neg c28] at H
       have c28b0 : decide (a1 < 256) = false := decide_eq_false c28
       clear c28
       by_cases c33 : a1 < 384
       ·rw [if_pos c33] at H
        have c33b0 : decide (a1 < 384) = true := decide_eq_true c33
        clear c33
        simp only [Option.some.injEq, Prod.mk.injEq] at H
        obtain ⟨rfl, rfl, rfl, rfl, rfl, rfl, rfl⟩ := H
        have hnb34 := NB176_177.out
        have hnc34 := NB177_176.out
        have hcz35_0 := zc0 BK176
        have hcz35_1 := zc1 BK176
        have hcz35_2 := zc2 BK176
        have hcz35_3 := zc3 BK176
        have hcz35_4 := zc4 BK176
        have hcz35_5 := zc5 BK176
        have hcz35_6 := zc6 BK176
        have hfz35_0 := blk_frozen BK176.out 0
        have hfz35_1 := blk_frozen BK176.out 1
        have hfz35_2 := blk_frozen BK176.out 2
        have hfz35_3 := blk_frozen BK176.out 3
        have hfz35_4 := blk_frozen BK176.out 4
        have hfz35_5 := blk_frozen BK176.out 5
        have hfz35_6 := blk_frozen BK176.out 6
        have hcz36_0 := zc0 BK177
        have hcz36_1 := zc1 BK177
        have hcz36_2 := zc2 BK177
        have hcz36_3 := zc3 BK177
        have hcz36_4 := zc4 BK177
        have hcz36_5 := zc5 BK177
        have hcz36_6 := zc6 BK177
        have hfz36_0 := blk_frozen BK177.out 0
        have hfz36_1 := blk_frozen BK177.out 1
        have hfz36_2 := blk_frozen BK177.out 2
        have hfz36_3 := blk_frozen BK177.out 3
        have hfz36_4 := blk_frozen BK177.out 4
        have hfz36_5 := blk_frozen BK177.out 5
        have hfz36_6 := blk_frozen BK177.out 6
        go_wp2
        refine bodyPost_ret (results_cell_row rfl _ _ gb177 32 #[.string a0_0, .int .i64 a0_1, .int .i64 a0_2, .string a0_3, .int .i64 (Int.tmod a2 4), .bool a0_5, .int .i64 a0_6] (0, 0) _ rfl (zw _) Try.underlying32 rfl (by kernel_rfl)) rfl ?_
        exact ⟨ze _, zb _⟩
       ·rw [if_neg c33] at H
        have c33b0 : decide (a1 < 384) = false := decide_eq_false c33
        clear c33
        by_cases c37 : a1 < 512
        ·rw [if_pos c37] at H
         have c37b0 : decide (a1 < 512) = true := decide_eq_true c37
         clear c37
         by_cases c38 : a0_1 = 1
         ·rw [if_pos c38] at H
          have c38b0 : (a0_1 == 1) = true := beq_iff_eq.mpr c38
          have c38b1 : (a0_1 != 1) = false := bne_eq_false_iff_eq.mpr c38
          clear c38
          simp only [Option.some.injEq, Prod.mk.injEq] at H
          obtain ⟨rfl, rfl, rfl, rfl, rfl, rfl, rfl⟩ := H
          have hnb39 := NB176_177.out
          have hnc39 := NB177_176.out
          have hcz40_0 := zc0 BK176
          have hcz40_1 := zc1 BK176
          have hcz40_2 := zc2 BK176
          have hcz40_3 := zc3 BK176
          have hcz40_4 := zc4 BK176
          have hcz40_5 := zc5 BK176
          have hcz40_6 := zc6 BK176
          have hfz40_0 := blk_frozen BK176.out 0
          have hfz40_1 := blk_frozen BK176.out 1
          have hfz40_2 := blk_frozen BK176.out 2
          have hfz40_3 := blk_frozen BK176.out 3
          have hfz40_4 := blk_frozen BK176.out 4
          have hfz40_5 := blk_frozen BK176.out 5
          have hfz40_6 := blk_frozen BK176.out 6
          have hcz41_0 := zc0 BK177
          have hcz41_1 := zc1 BK177
          have hcz41_2 := zc2 BK177
          have hcz41_3 := zc3 BK177
          have hcz41_4 := zc4 BK177
          have hcz41_5 := zc5 BK177
          have hcz41_6 := zc6 BK177
          have hfz41_0 := blk_frozen BK177.out 0
          have hfz41_1 := blk_frozen BK177.out 1
          have hfz41_2 := blk_frozen BK177.out 2
          have hfz41_3 := blk_frozen BK177.out 3
          have hfz41_4 := blk_frozen BK177.out 4
          have hfz41_5 := blk_frozen BK177.out 5
          have hfz41_6 := blk_frozen BK177.out 6
          go_wp2
          refine bodyPost_ret (results_cell_row rfl _ _ gb177 32 #[.string a0_0, .int .i64 a0_1, .int .i64 a0_2, .string a0_3, .int .i64 a0_4, .bool a0_5, .int .i64 (Int.tmod a2 2)] (0, 0) _ rfl (zw _) Try.underlying32 rfl (by kernel_rfl)) rfl ?_
          exact ⟨ze _, zb _⟩
         ·rw [if_neg c38] at H
          have c38b0 : (a0_1 == 1) = false := beq_eq_false_iff_ne.mpr c38
          have c38b1 : (a0_1 != 1) = true := bne_iff_ne.mpr c38
          simp only [Option.some.injEq, Prod.mk.injEq] at H
          obtain ⟨rfl, rfl, rfl, rfl, rfl, rfl, rfl⟩ := H
          have hnb42 := NB176_177.out
          have hnc42 := NB177_176.out
          have hcz43_0 := zc0 BK176
          have hcz43_1 := zc1 BK176
          have hcz43_2 := zc2 BK176
          have hcz43_3 := zc3 BK176
          have hcz43_4 := zc4 BK176
          have hcz43_5 := zc5 BK176
          have hcz43_6 := zc6 BK176
          have hfz43_0 := blk_frozen BK176.out 0
          have hfz43_1 := blk_frozen BK176.out 1
          have hfz43_2 := blk_frozen BK176.out 2
          have hfz43_3 := blk_frozen BK176.out 3
          have hfz43_4 := blk_frozen BK176.out 4
          have hfz43_5 := blk_frozen BK176.out 5
          have hfz43_6 := blk_frozen BK176.out 6
          have hcz44_0 := zc0 BK177
          have hcz44_1 := zc1 BK177
          have hcz44_2 := zc2 BK177
          have hcz44_3 := zc3 BK177
          have hcz44_4 := zc4 BK177
          have hcz44_5 := zc5 BK177
          have hcz44_6 := zc6 BK177
          have hfz44_0 := blk_frozen BK177.out 0
          have hfz44_1 := blk_frozen BK177.out 1
          have hfz44_2 := blk_frozen BK177.out 2
          have hfz44_3 := blk_frozen BK177.out 3
          have hfz44_4 := blk_frozen BK177.out 4
          have hfz44_5 := blk_frozen BK177.out 5
          have hfz44_6 := blk_frozen BK177.out 6
          go_wp2
          refine bodyPost_ret (results_cell_row rfl _ _ gb177 32 #[.string a0_0, .int .i64 a0_1, .int .i64 a0_2, .string a0_3, .int .i64 a0_4, .bool a0_5, .int .i64 a0_6] (0, 0) _ rfl (zw _) Try.underlying32 rfl (by kernel_rfl)) rfl ?_
          exact ⟨ze _, zb _⟩
        ·rw [if_neg c37] at H
         have c37b0 : decide (a1 < 512) = false := decide_eq_false c37
         clear c37
         have HC45 := Aside0.mk H
         clear H
         go_upto_region 14 with (fail)
         go_cut [50] (fun v50 wc => ∃ (kq : Nat) (x50_44 : Bool), v50 = .bool x50_44 ∧ Aside0 (spec_l5Write.j1 kq a1 a2 x50_44 a0_0 a0_1 a0_2 a0_3 a0_4 a0_5 a0_6 = some (r1, r2, r3, r4, r5, r6, r7)) ∧ Aside0 (kq ≤ kj15) ∧ Aside0 (wc.heap[gb176]? = some (.cells #[.string a0_0, .int .i64 a0_1, .int .i64 a0_2, .string a0_3, .int .i64 a0_4, .bool a0_5, .int .i64 a0_6] 32 (0, 0))) ∧ Aside0 (wc.heap[gb177]? = some (.cells #[.string (⟨#[]⟩ : ByteArray), .int .i64 0, .int .i64 0, .string (⟨#[]⟩ : ByteArray), .int .i64 0, .bool false, .int .i64 0] 32 (0, 0))) ∧ Aside0 (Below w.heap.size w wc))
         case first =>
          have H := HC45.out
          clear HC45
          by_cases c46 : a0_5 = true
          ·subst c46
           rw [if_pos rfl] at H
           obtain ⟨t178, A470, H⟩ := Option.bind_eq_some_iff.mp H
           have A47 := Aside0.mk A470
           clear A470
           have H' := Aside0.mk H
           clear H
           have hnb48 := NB176_177.out
           have hnc48 := NB177_176.out
           have hcz49_0 := zc0 BK176
           have hcz49_1 := zc1 BK176
           have hcz49_2 := zc2 BK176
           have hcz49_3 := zc3 BK176
           have hcz49_4 := zc4 BK176
           have hcz49_5 := zc5 BK176
           have hcz49_6 := zc6 BK176
           have hfz49_0 := blk_frozen BK176.out 0
           have hfz49_1 := blk_frozen BK176.out 1
           have hfz49_2 := blk_frozen BK176.out 2
           have hfz49_3 := blk_frozen BK176.out 3
           have hfz49_4 := blk_frozen BK176.out 4
           have hfz49_5 := blk_frozen BK176.out 5
           have hfz49_6 := blk_frozen BK176.out 6
           go_wp2_with (first | (go_at_call 25; (with_reducible refine (spec_l1In.calls a1 40960 41023 t178 _ A47.out).mono ?_); rintro e w' ⟨rfl, ⟨nd, rfl⟩⟩))
           go_meet
           case rel => exact ⟨_, (t178), (zE _), H', ⟨by have := HJ15.out; first | omega | exact Nat.le_refl _⟩, ⟨by (with_reducible repeat (first | refine blk_drewN ?_ _ | refine blk_drew ?_ | refine blk_alloc ?_ _)); exact BK176.out⟩, ⟨by (with_reducible repeat (first | refine blk_drewN ?_ _ | refine blk_drew ?_ | refine blk_alloc ?_ _)); exact BK177.out⟩, ⟨zb _⟩⟩
          ·replace c46 := Bool.eq_false_iff.mpr c46
           subst c46
           rw [if_neg (show ¬ (false = true) by decide)] at H
           have H' := Aside0.mk H
           clear H
           have hnb50 := NB176_177.out
           have hnc50 := NB177_176.out
           have hcz51_0 := zc0 BK176
           have hcz51_1 := zc1 BK176
           have hcz51_2 := zc2 BK176
           have hcz51_3 := zc3 BK176
           have hcz51_4 := zc4 BK176
           have hcz51_5 := zc5 BK176
           have hcz51_6 := zc6 BK176
           have hfz51_0 := blk_frozen BK176.out 0
           have hfz51_1 := blk_frozen BK176.out 1
           have hfz51_2 := blk_frozen BK176.out 2
           have hfz51_3 := blk_frozen BK176.out 3
           have hfz51_4 := blk_frozen BK176.out 4
           have hfz51_5 := blk_frozen BK176.out 5
           have hfz51_6 := blk_frozen BK176.out 6
           go_wp2
           go_meet
           case rel => exact ⟨_, (false), (zE _), H', ⟨by have := HJ15.out; first | omega | exact Nat.le_refl _⟩, ⟨by (with_reducible repeat (first | refine blk_drewN ?_ _ | refine blk_drew ?_ | refine blk_alloc ?_ _)); exact BK176.out⟩, ⟨by (with_reducible repeat (first | refine blk_drewN ?_ _ | refine blk_drew ?_ | refine blk_alloc ?_ _)); exact BK177.out⟩, ⟨zb _⟩⟩
         case rest =>
          clear HC45
          try clear c1
          try clear c2
          try clear p2
          try clear c3
          try clear c4
          try clear c4b0
          try clear c4b1
          try clear c5
          try clear c7
          try clear c10
          try clear c10b0
          try clear c13
          try clear c19
          try clear c21
          try clear c21b0
          try clear c22
          try clear c24
          try clear c25
          try clear c28
          try clear c28b0
          try clear c30
          try clear c33
          try clear c33b0
          try clear c34
          try clear c37
          try clear c37b0
          try clear c38
          try clear c38b0
          try clear c38b1
          try clear c39
          try clear c42
          try clear c46
          try clear c48
          try clear c50
          try clear hcz14_0
          try clear hcz14_1
          try clear hcz14_2
          try clear hcz14_3
          try clear hcz14_4
          try clear hcz14_5
          try clear hcz14_6
          try clear hcz15_0
          try clear hcz15_1
          try clear hcz15_2
          try clear hcz15_3
          try clear hcz15_4
          try clear hcz15_5
          try clear hcz15_6
          try clear hcz20_0
          try clear hcz20_1
          try clear hcz20_2
          try clear hcz20_3
          try clear hcz20_4
          try clear hcz20_5
          try clear hcz20_6
          try clear hcz23_0
          try clear hcz23_1
          try clear hcz23_2
          try clear hcz23_3
          try clear hcz23_4
          try clear hcz23_5
          try clear hcz23_6
          try clear hcz26_0
          try clear hcz26_1
          try clear hcz26_2
          try clear hcz26_3
          try clear hcz26_4
          try clear hcz26_5
          try clear hcz26_6
          try clear hcz27_0
          try clear hcz27_1
          try clear hcz27_2
          try clear hcz27_3
          try clear hcz27_4
          try clear hcz27_5
          try clear hcz27_6
          try clear hcz31_0
          try clear hcz31_1
          try clear hcz31_2
          try clear hcz31_3
          try clear hcz31_4
          try clear hcz31_5
          try clear hcz31_6
          try clear hcz32_0
          try clear hcz32_1
          try clear hcz32_2
          try clear hcz32_3
          try clear hcz32_4
          try clear hcz32_5
          try clear hcz32_6
          try clear hcz35_0
          try clear hcz35_1
          try clear hcz35_2
          try clear hcz35_3
          try clear hcz35_4
          try clear hcz35_5
          try clear hcz35_6
          try clear hcz36_0
          try clear hcz36_1
          try clear hcz36_2
          try clear hcz36_3
          try clear hcz36_4
          try clear hcz36_5
          try clear hcz36_6
          try clear hcz40_0
          try clear hcz40_1
          try clear hcz40_2
          try clear hcz40_3
          try clear hcz40_4
          try clear hcz40_5
          try clear hcz40_6
          try clear hcz41_0
          try clear hcz41_1
          try clear hcz41_2
          try clear hcz41_3
          try clear hcz41_4
          try clear hcz41_5
          try clear hcz41_6
          try clear hcz43_0
          try clear hcz43_1
          try clear hcz43_2
          try clear hcz43_3
          try clear hcz43_4
          try clear hcz43_5
          try clear hcz43_6
          try clear hcz44_0
          try clear hcz44_1
          try clear hcz44_2
          try clear hcz44_3
          try clear hcz44_4
          try clear hcz44_5
          try clear hcz44_6
          try clear hcz49_0
          try clear hcz49_1
          try clear hcz49_2
          try clear hcz49_3
          try clear hcz49_4
          try clear hcz49_5
          try clear hcz49_6
          try clear hcz51_0
          try clear hcz51_1
          try clear hcz51_2
          try clear hcz51_3
          try clear hcz51_4
          try clear hcz51_5
          try clear hcz51_6
          try clear hcz8_0
          try clear hcz8_1
          try clear hcz8_2
          try clear hcz8_3
          try clear hcz8_4
          try clear hcz8_5
          try clear hcz8_6
          try clear hcz9_0
          try clear hcz9_1
          try clear hcz9_2
          try clear hcz9_3
          try clear hcz9_4
          try clear hcz9_5
          try clear hcz9_6
          try clear hfz14_0
          try clear hfz14_1
          try clear hfz14_2
          try clear hfz14_3
          try clear hfz14_4
          try clear hfz14_5
          try clear hfz14_6
          try clear hfz15_0
          try clear hfz15_1
          try clear hfz15_2
          try clear hfz15_3
          try clear hfz15_4
          try clear hfz15_5
          try clear hfz15_6
          try clear hfz20_0
          try clear hfz20_1
          try clear hfz20_2
          try clear hfz20_3
          try clear hfz20_4
          try clear hfz20_5
          try clear hfz20_6
          try clear hfz23_0
          try clear hfz23_1
          try clear hfz23_2
          try clear hfz23_3
          try clear hfz23_4
          try clear hfz23_5
          try clear hfz23_6
          try clear hfz26_0
          try clear hfz26_1
          try clear hfz26_2
          try clear hfz26_3
          try clear hfz26_4
          try clear hfz26_5
          try clear hfz26_6
          try clear hfz27_0
          try clear hfz27_1
          try clear hfz27_2
          try clear hfz27_3
          try clear hfz27_4
          try clear hfz27_5
          try clear hfz27_6
          try clear hfz31_0
          try clear hfz31_1
          try clear hfz31_2
          try clear hfz31_3
          try clear hfz31_4
          try clear hfz31_5
          try clear hfz31_6
          try clear hfz32_0
          try clear hfz32_1
          try clear hfz32_2
          try clear hfz32_3
          try clear hfz32_4
          try clear hfz32_5
          try clear hfz32_6
          try clear hfz35_0
          try clear hfz35_1
          try clear hfz35_2
          try clear hfz35_3
          try clear hfz35_4
          try clear hfz35_5
          try clear hfz35_6
          try clear hfz36_0
          try clear hfz36_1
          try clear hfz36_2
          try clear hfz36_3
          try clear hfz36_4
          try clear hfz36_5
          try clear hfz36_6
          try clear hfz40_0
          try clear hfz40_1
          try clear hfz40_2
          try clear hfz40_3
          try clear hfz40_4
          try clear hfz40_5
          try clear hfz40_6
          try clear hfz41_0
          try clear hfz41_1
          try clear hfz41_2
          try clear hfz41_3
          try clear hfz41_4
          try clear hfz41_5
          try clear hfz41_6
          try clear hfz43_0
          try clear hfz43_1
          try clear hfz43_2
          try clear hfz43_3
          try clear hfz43_4
          try clear hfz43_5
          try clear hfz43_6
          try clear hfz44_0
          try clear hfz44_1
          try clear hfz44_2
          try clear hfz44_3
          try clear hfz44_4
          try clear hfz44_5
          try clear hfz44_6
          try clear hfz49_0
          try clear hfz49_1
          try clear hfz49_2
          try clear hfz49_3
          try clear hfz49_4
          try clear hfz49_5
          try clear hfz49_6
          try clear hfz51_0
          try clear hfz51_1
          try clear hfz51_2
          try clear hfz51_3
          try clear hfz51_4
          try clear hfz51_5
          try clear hfz51_6
          try clear hfz8_0
          try clear hfz8_1
          try clear hfz8_2
          try clear hfz8_3
          try clear hfz8_4
          try clear hfz8_5
          try clear hfz8_6
          try clear hfz9_0
          try clear hfz9_1
          try clear hfz9_2
          try clear hfz9_3
          try clear hfz9_4
          try clear hfz9_5
          try clear hfz9_6
          try clear p2
          obtain ⟨kq, x50_44, rfl, HA, HJ44, BK176, BK177, HB⟩ := hcut
          cases kq with
          | zero => exact absurd HA.out (by simp [spec_l5Write.j1])
          | succ kj44 =>
           have H := HA.out
           clear HA
           simp only [spec_l5Write.j1] at H
           by_cases c52 : x50_44 = true
           ·subst c52
            rw [if_pos rfl] at H
            obtain ⟨t179, A530, H⟩ := Option.bind_eq_some_iff.mp H
            have A53 := Aside0.mk A530
            clear A530
            obtain ⟨t180, A540, H⟩ := Option.bind_eq_some_iff.mp H
            have A54 := Aside0.mk A540
            clear A540
            simp only [Option.some.injEq, Prod.mk.injEq] at H
            obtain ⟨rfl, rfl, rfl, rfl, rfl, rfl, rfl⟩ := H
            try go_wp2
            have n0_ := Aside0.mk (blk_drew BK176.out)
            have n1_ := Aside0.mk (blk_drew BK177.out)
            have n2_ := Aside0.mk (below_drew1 HB.out)
            clear BK176
            clear BK177
            clear HB
            have BK176 := n0_
            have BK177 := n1_
            have HB := n2_
            clear n0_ n1_ n2_
            refine start_ (n := 12) (S := fun w' => w'.cell? ⟨gb176, 0, none⟩ = some (.string a0_0) ∧ w'.cell? ⟨gb176, 1, none⟩ = some (.int .i64 a0_1) ∧ w'.cell? ⟨gb176, 2, none⟩ = some (.int .i64 a0_2) ∧ w'.cell? ⟨gb176, 3, none⟩ = some (.string a0_3) ∧ w'.cell? ⟨gb176, 4, none⟩ = some (.int .i64 a0_4) ∧ w'.cell? ⟨gb176, 5, none⟩ = some (.bool a0_5) ∧ w'.cell? ⟨gb176, 6, none⟩ = some (.int .i64 a0_6)) (ds := [11]) (zm 12 0) (by kernel_rfl) rfl rfl ⟨(blk_cell BK176.out 0).trans rfl, (blk_cell BK176.out 1).trans rfl, (blk_cell BK176.out 2).trans rfl, (blk_cell BK176.out 3).trans rfl, (blk_cell BK176.out 4).trans rfl, (blk_cell BK176.out 5).trans rfl, (blk_cell BK176.out 6).trans rfl⟩ (fun hHeld => ?_); refine with_tabW spec_l5Write.tab15 spec_l5Write.bits15 (fun HT_ HW_ => ?_)
            generalize wc.drew = w55 at BK176 BK177 HB hHeld ⊢
            refine zp 0 57 (zm 12 1) ?_
            refine zp 5 62 (zm 12 33) ?_
            refine zp 8 65 (zm 12 289) ?_
            refine take_ (i := 1) (N := some 58) (v := ?_) (a' := ?_) (zm 12 291) rfl rfl (take_ofW HT_.out HW_.out (by kernel_rfl)) (fun _ _ _ h => h) (Or.inl ⟨by rfl, ?_⟩) hHeld ?_ ?_
            rotate_left
            ·rintro w' ⟨s0, s1, s2, s3, s4, s5, s6⟩
             go_simp
             with_reducible rfl
            rotate_left
            ·simp only [Act.put, List.setIfInBounds_toArray, List.set_cons_zero, List.set_cons_succ, i64_w, i32_w]
             rfl
            refine take_ (i := 2) (N := some 59) (v := ?_) (a' := ?_) (zm 12 295) rfl rfl (take_ofW HT_.out HW_.out (by kernel_rfl)) (fun _ _ _ h => h) (Or.inl ⟨by rfl, ?_⟩) hHeld ?_ ?_
            rotate_left
            ·rintro w' ⟨s0, s1, s2, s3, s4, s5, s6⟩
             go_simp
             with_reducible rfl
            rotate_left
            ·simp only [Act.put, List.setIfInBounds_toArray, List.set_cons_zero, List.set_cons_succ, i64_w, i32_w]
             rfl
            refine one_ (i := 3) (N := some 60) (zm 12 303) rfl rfl (one_of HT_.out (by kernel_rfl)) (by decide) (fun K hK => ?_)
            refine zi Try.func59 #[.agg #[.string a0_0, .int .i64 a0_1, .int .i64 a0_2, .string a0_3, .int .i64 a0_4, .bool a0_5, .int .i64 a0_6]] ?_
            with_reducible refine (spec_l5RamBank.calls a0_0 a0_1 a0_2 a0_3 a0_4 a0_5 a0_6 t179 _ A53.out).mono ?_
            rintro e w56 ⟨rfl, hb⟩
            refine ⟨_, rfl, ?_⟩
            have n0_ := zk BK176 hb
            have n1_ := zk BK177 hb
            have n2_ := zt w hb
            clear BK176
            clear BK177
            clear HB
            have BK176 := n0_
            have BK177 := n1_
            have HB := n2_
            clear n0_ n1_ n2_
            (try clear hb)
            (try clear hb2)
            (try clear hk)
            (try clear hi)
            refine hK.out _ _ ⟨(blk_cell BK176.out 0).trans rfl, (blk_cell BK176.out 1).trans rfl, (blk_cell BK176.out 2).trans rfl, (blk_cell BK176.out 3).trans rfl, (blk_cell BK176.out 4).trans rfl, (blk_cell BK176.out 5).trans rfl, (blk_cell BK176.out 6).trans rfl⟩ (fun hHeld => ?_)
            clear hK K
            refine zq ?_
            refine zp 4 61 (zm 12 319) ?_
            refine zp 6 63 (zm 12 383) ?_
            refine zp 7 64 (zm 12 511) ?_
            refine one_ (i := 9) (N := some 66) (zm 12 1023) rfl rfl (one_of HT_.out (by kernel_rfl)) (by decide) (fun K hK => ?_)
            refine zi Try.func53 #[.string a0_3, .int .i64 (wrap64 ((wrap64 ((wrap64 (t179 * 64)) + a1)) - 40960)), .int .i64 a2] ?_
            with_reducible refine (spec_l5Put.calls a0_3 (wrap64 ((wrap64 ((wrap64 (t179 * 64)) + a1)) - 40960)) a2 t180 _ A54.out).mono ?_
            rintro e w57 ⟨rfl, hb⟩
            refine ⟨_, rfl, ?_⟩
            have n0_ := zk BK176 hb
            have n1_ := zk BK177 hb
            have n2_ := zt w hb
            clear BK176
            clear BK177
            clear HB
            have BK176 := n0_
            have BK177 := n1_
            have HB := n2_
            clear n0_ n1_ n2_
            (try clear hb)
            (try clear hb2)
            (try clear hk)
            (try clear hi)
            refine hK.out _ _ ⟨(blk_cell BK176.out 0).trans rfl, (blk_cell BK176.out 1).trans rfl, (blk_cell BK176.out 2).trans rfl, (blk_cell BK176.out 3).trans rfl, (blk_cell BK176.out 4).trans rfl, (blk_cell BK176.out 5).trans rfl, (blk_cell BK176.out 6).trans rfl⟩ (fun hHeld => ?_)
            clear hK K
            refine zq ?_
            refine zp 10 67 (zm 12 2047) ?_
            refine last_ (i := 11) (N := none) (zm 12 4095) rfl rfl (one_of HT_.out (by kernel_rfl)) (by decide) (fun K hK => ?_)
            have hs58 : w57.cell? ⟨gb176, 3, none⟩ = some (.string a0_3) := (blk_cell BK176.out 3).trans rfl
            have hfs58 := blk_frozen BK176.out 3
            have hns58_1 := NB177_176.out
            have hms58_1 := NB176_177.out
            refine skip_ (w1 := ?_) (by rfl) rfl ?_ ?_
            rotate_left
            ·go_simp
             rfl
            refine hK.out _ _ ?_
            clear hK K
            refine done_ (done_of HT_.out (by kernel_rfl)) ?_
            have hnb59 := NB176_177.out
            have hnc59 := NB177_176.out
            have hcz60_0 := zc0 BK176
            have hcz60_1 := zc1 BK176
            have hcz60_2 := zc2 BK176
            have hcz60_3 := zc3 BK176
            have hcz60_4 := zc4 BK176
            have hcz60_5 := zc5 BK176
            have hcz60_6 := zc6 BK176
            have hfz60_0 := blk_frozen BK176.out 0
            have hfz60_1 := blk_frozen BK176.out 1
            have hfz60_2 := blk_frozen BK176.out 2
            have hfz60_3 := blk_frozen BK176.out 3
            have hfz60_4 := blk_frozen BK176.out 4
            have hfz60_5 := blk_frozen BK176.out 5
            have hfz60_6 := blk_frozen BK176.out 6
            have hcz61_0 := zc0 BK177
            have hcz61_1 := zc1 BK177
            have hcz61_2 := zc2 BK177
            have hcz61_3 := zc3 BK177
            have hcz61_4 := zc4 BK177
            have hcz61_5 := zc5 BK177
            have hcz61_6 := zc6 BK177
            have hfz61_0 := blk_frozen BK177.out 0
            have hfz61_1 := blk_frozen BK177.out 1
            have hfz61_2 := blk_frozen BK177.out 2
            have hfz61_3 := blk_frozen BK177.out 3
            have hfz61_4 := blk_frozen BK177.out 4
            have hfz61_5 := blk_frozen BK177.out 5
            have hfz61_6 := blk_frozen BK177.out 6
            try go_wp2
            refine bodyPost_ret (results_cell_row rfl _ _ gb177 32 #[.string a0_0, .int .i64 a0_1, .int .i64 a0_2, .string t180, .int .i64 a0_4, .bool a0_5, .int .i64 a0_6] (0, 0) _ rfl (zw _) Try.underlying32 rfl (by kernel_rfl)) rfl ?_
            exact ⟨ze _, zb _⟩
           ·replace c52 := Bool.eq_false_iff.mpr c52
            subst c52
            rw [if_neg (show ¬ (false = true) by decide)] at H
            simp only [Option.some.injEq, Prod.mk.injEq] at H
            obtain ⟨rfl, rfl, rfl, rfl, rfl, rfl, rfl⟩ := H
            have hnb62 := NB176_177.out
            have hnc62 := NB177_176.out
            have hcz63_0 := zc0 BK176
            have hcz63_1 := zc1 BK176
            have hcz63_2 := zc2 BK176
            have hcz63_3 := zc3 BK176
            have hcz63_4 := zc4 BK176
            have hcz63_5 := zc5 BK176
            have hcz63_6 := zc6 BK176
            have hfz63_0 := blk_frozen BK176.out 0
            have hfz63_1 := blk_frozen BK176.out 1
            have hfz63_2 := blk_frozen BK176.out 2
            have hfz63_3 := blk_frozen BK176.out 3
            have hfz63_4 := blk_frozen BK176.out 4
            have hfz63_5 := blk_frozen BK176.out 5
            have hfz63_6 := blk_frozen BK176.out 6
            have hcz64_0 := zc0 BK177
            have hcz64_1 := zc1 BK177
            have hcz64_2 := zc2 BK177
            have hcz64_3 := zc3 BK177
            have hcz64_4 := zc4 BK177
            have hcz64_5 := zc5 BK177
            have hcz64_6 := zc6 BK177
            have hfz64_0 := blk_frozen BK177.out 0
            have hfz64_1 := blk_frozen BK177.out 1
            have hfz64_2 := blk_frozen BK177.out 2
            have hfz64_3 := blk_frozen BK177.out 3
            have hfz64_4 := blk_frozen BK177.out 4
            have hfz64_5 := blk_frozen BK177.out 5
            have hfz64_6 := blk_frozen BK177.out 6
            go_wp2
            refine bodyPost_ret (results_cell_row rfl _ _ gb177 32 #[.string a0_0, .int .i64 a0_1, .int .i64 a0_2, .string a0_3, .int .i64 a0_4, .bool a0_5, .int .i64 a0_6] (0, 0) _ rfl (zw _) Try.underlying32 rfl (by kernel_rfl)) rfl ?_
            exact ⟨ze _, zb _⟩

end Go.Proofs.Ytmgbdbamfljjnaa.PFnExactBusWrite
