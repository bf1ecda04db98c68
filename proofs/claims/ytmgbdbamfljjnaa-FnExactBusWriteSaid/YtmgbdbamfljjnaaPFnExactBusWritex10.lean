/- What the Go functions that the law FnExactBusWrite reaches compute, function by function, and that Go comes to just that. -/
import Derived.Test.YtmgbdbamfljjnaaPFnExactBusWritex0
import Derived.Test.YtmgbdbamfljjnaaAidZ
import Derived.Test.YtmgbdbamfljjnaaPFnExactBusWritex8
import Derived.Test.YtmgbdbamfljjnaaPFnExactBusWritex9
namespace Go.Proofs.Ytmgbdbamfljjnaa.PFnExactBusWrite
open Go.RowKit Go.Proofs.Ytmgbdbamfljjnaa.Z Go.Proofs.YtmgbdbamfljjnaaW.PrintWords Go.Proofs.YtmgbdbamfljjnaaW.PrintLast Go.Proofs.YtmgbdbamfljjnaaW.PrintMore
attribute [local go_sem] max2_int min2_int max_two min_two max_three min_three max_four min_four   -- for this text's walks alone
set_option linter.unusedVariables false
set_option linter.unusedSimpArgs false

/-! ### impl_Cart_written: function 57 -/
mutual
def impl_Cart_written.j0 : Nat → Int → Int → Int → Bool → ByteArray → Int → Int → ByteArray → Int → Bool → Int → Option (ByteArray × Int × Int × ByteArray × Int × Bool × Int)
  | 0, _, _, _, _, _, _, _, _, _, _, _ => none
  | k + 1, x1, x2, x7, x22, x292000, x292001, x292002, x292003, x292004, x292005, x292006 => if x22 = true then (some (x292000, x292001, x2, x292003, x292004, x292005, x292006)) else (if x1 < 256 then (some (x292000, x292001, mx 1 (Int.tmod x2 32), x292003, x292004, x292005, x292006)) else (if x1 < 384 then (some (x292000, x292001, x292002, x292003, Int.tmod x2 4, x292005, x292006)) else (if x1 < 512 then (impl_Cart_written.j1 k x2 x7 (x292001 == 1) x292000 x292001 x292002 x292003 x292004 x292005 x292006) else (impl_Cart_written.j1 k x2 x7 false x292000 x292001 x292002 x292003 x292004 x292005 x292006))))
def impl_Cart_written.j1 : Nat → Int → Int → Bool → ByteArray → Int → Int → ByteArray → Int → Bool → Int → Option (ByteArray × Int × Int × ByteArray × Int × Bool × Int)
  | 0, _, _, _, _, _, _, _, _, _, _ => none
  | k + 1, x2, x7, x45, x292000, x292001, x292002, x292003, x292004, x292005, x292006 => if x45 = true then (some (x292000, x292001, x292002, x292003, x292004, x292005, Int.tmod x2 2)) else (if x7 ≥ 0 then ((impl_replaced.f x292003 x7 x2).bind fun t294 => (some (x292000, x292001, x292002, t294, x292004, x292005, x292006))) else (some (x292000, x292001, x292002, x292003, x292004, x292005, x292006)))
end
def impl_Cart_written.f (k : Nat) (a0_0 : ByteArray) (a0_1 : Int) (a0_2 : Int) (a0_3 : ByteArray) (a0_4 : Int) (a0_5 : Bool) (a0_6 : Int) (a1 : Int) (a2 : Int) : Option (ByteArray × Int × Int × ByteArray × Int × Bool × Int) := if a0_1 = 0 then (some (a0_0, a0_1, a0_2, a0_3, a0_4, a0_5, a0_6)) else ((impl_Cart_ramPlace.f k a0_0 a0_1 a0_2 a0_3 a0_4 a0_5 a0_6 a1).bind fun t293 => (if a1 < 128 then (some (a0_0, a0_1, a0_2, a0_3, a0_4, ((Go.bits .and .i64 a2 15) == 10), a0_6)) else (if a1 < 256 then (impl_Cart_written.j0 k a1 a2 t293 (a0_1 == 2) a0_0 a0_1 a0_2 a0_3 a0_4 a0_5 a0_6) else (impl_Cart_written.j0 k a1 a2 t293 false a0_0 a0_1 a0_2 a0_3 a0_4 a0_5 a0_6))))
theorem impl_Cart_written.mono_l : ∀ k, (∀ y0 y1 y2 y3 y4 y5 y6 y7 y8 y9 y10, LeO (impl_Cart_written.j0 k y0 y1 y2 y3 y4 y5 y6 y7 y8 y9 y10) (impl_Cart_written.j0 (k + 1) y0 y1 y2 y3 y4 y5 y6 y7 y8 y9 y10)) ∧ (∀ y0 y1 y2 y3 y4 y5 y6 y7 y8 y9, LeO (impl_Cart_written.j1 k y0 y1 y2 y3 y4 y5 y6 y7 y8 y9) (impl_Cart_written.j1 (k + 1) y0 y1 y2 y3 y4 y5 y6 y7 y8 y9))
  | 0 => ⟨fun _ _ _ _ _ _ _ _ _ _ _ r h => by simp [impl_Cart_written.j0] at h, fun _ _ _ _ _ _ _ _ _ _ r h => by simp [impl_Cart_written.j1] at h⟩
  | k + 1 => by
    obtain ⟨ih0, ih1⟩ := impl_Cart_written.mono_l k
    refine ⟨?_, ?_⟩
    · intro y0 y1 y2 y3 y4 y5 y6 y7 y8 y9 y10
      unfold impl_Cart_written.j0
      repeat' first
      | (with_reducible exact ih0 _ _ _ _ _ _ _ _ _ _ _)
      | (with_reducible exact ih1 _ _ _ _ _ _ _ _ _ _)
      | (with_reducible exact impl_Cart_ramPlace.mono _ _ _ _ _ _ _ _ _)
      | (with_reducible exact LeO.refl _)
      | (with_reducible exact LeO.none _)
      | (with_reducible refine LeO.ite ?_ ?_)
      | (with_reducible refine LeO.bind ?_ (fun _ => ?_))
      | exact ih0 _ _ _ _ _ _ _ _ _ _ _
      | exact ih1 _ _ _ _ _ _ _ _ _ _
      | exact impl_Cart_ramPlace.mono _ _ _ _ _ _ _ _ _
      | exact LeO.none _
      | refine LeO.ite ?_ ?_
      | refine LeO.bind ?_ (fun _ => ?_)
    · intro y0 y1 y2 y3 y4 y5 y6 y7 y8 y9
      unfold impl_Cart_written.j1
      repeat' first
      | (with_reducible exact ih0 _ _ _ _ _ _ _ _ _ _ _)
      | (with_reducible exact ih1 _ _ _ _ _ _ _ _ _ _)
      | (with_reducible exact impl_Cart_ramPlace.mono _ _ _ _ _ _ _ _ _)
      | (with_reducible exact LeO.refl _)
      | (with_reducible exact LeO.none _)
      | (with_reducible refine LeO.ite ?_ ?_)
      | (with_reducible refine LeO.bind ?_ (fun _ => ?_))
      | exact ih0 _ _ _ _ _ _ _ _ _ _ _
      | exact ih1 _ _ _ _ _ _ _ _ _ _
      | exact impl_Cart_ramPlace.mono _ _ _ _ _ _ _ _ _
      | exact LeO.none _
      | refine LeO.ite ?_ ?_
      | refine LeO.bind ?_ (fun _ => ?_)
theorem impl_Cart_written.mono : ∀ a0 a1 a2 a3 a4 a5 a6 a7 a8 k, LeO (impl_Cart_written.f k a0 a1 a2 a3 a4 a5 a6 a7 a8) (impl_Cart_written.f (k + 1) a0 a1 a2 a3 a4 a5 a6 a7 a8) := by
  intro a0 a1 a2 a3 a4 a5 a6 a7 a8 k
  obtain ⟨ih0, ih1⟩ := impl_Cart_written.mono_l k
  unfold impl_Cart_written.f
  repeat' first
      | (with_reducible exact ih0 _ _ _ _ _ _ _ _ _ _ _)
      | (with_reducible exact ih1 _ _ _ _ _ _ _ _ _ _)
      | (with_reducible exact impl_Cart_ramPlace.mono _ _ _ _ _ _ _ _ _)
      | (with_reducible exact LeO.refl _)
      | (with_reducible exact LeO.none _)
      | (with_reducible refine LeO.ite ?_ ?_)
      | (with_reducible refine LeO.bind ?_ (fun _ => ?_))
      | exact ih0 _ _ _ _ _ _ _ _ _ _ _
      | exact ih1 _ _ _ _ _ _ _ _ _ _
      | exact impl_Cart_ramPlace.mono _ _ _ _ _ _ _ _ _
      | exact LeO.none _
      | refine LeO.ite ?_ ?_
      | refine LeO.bind ?_ (fun _ => ?_)
open Go.Proofs.Ytmgbdbamfljjnaa.Aid in
set_option maxHeartbeats 8000000 in
set_option maxRecDepth 100000 in
theorem impl_Cart_written.calls (k : Nat) (a0_0 : ByteArray) (a0_1 : Int) (a0_2 : Int) (a0_3 : ByteArray) (a0_4 : Int) (a0_5 : Bool) (a0_6 : Int) (a1 : Int) (a2 : Int) (r1 : ByteArray) (r2 : Int) (r3 : Int) (r4 : ByteArray) (r5 : Int) (r6 : Bool) (r7 : Int) (w : World) (h : impl_Cart_written.f k a0_0 a0_1 a0_2 a0_3 a0_4 a0_5 a0_6 a1 a2 = some (r1, r2, r3, r4, r5, r6, r7)) :
 Calls Try.prog 57 #[.agg #[.string a0_0, .int .i64 a0_1, .int .i64 a0_2, .string a0_3, .int .i64 a0_4, .bool a0_5, .int .i64 a0_6], .int .i64 a1, .int .i64 a2] w fun e w' => e = .returned (.agg #[.string r1, .int .i64 r2, .int .i64 r3, .string r4, .int .i64 r5, .bool r6, .int .i64 r7]) ∧ Below w.heap.size w w' := by
 have hu32 := Try.underlying32
 have HB := Aside0.mk (Below.refl w.heap.size w)
 have H : (if a0_1 = 0 then (some (a0_0, a0_1, a0_2, a0_3, a0_4, a0_5, a0_6)) else ((impl_Cart_ramPlace.f k a0_0 a0_1 a0_2 a0_3 a0_4 a0_5 a0_6 a1).bind fun t293 => (if a1 < 128 then (some (a0_0, a0_1, a0_2, a0_3, a0_4, ((Go.bits .and .i64 a2 15) == 10), a0_6)) else (if a1 < 256 then (impl_Cart_written.j0 k a1 a2 t293 (a0_1 == 2) a0_0 a0_1 a0_2 a0_3 a0_4 a0_5 a0_6) else (impl_Cart_written.j0 k a1 a2 t293 false a0_0 a0_1 a0_2 a0_3 a0_4 a0_5 a0_6))))) = some (r1, r2, r3, r4, r5, r6, r7) := h
 clear h
 by_cases c4 : a0_1 = 0
 ·rw [if_pos c4] at H
  have c4b0 : (a0_1 == 0) = true := beq_iff_eq.mpr c4
  have c4b1 : (a0_1 != 0) = false := bne_eq_false_iff_eq.mpr c4
  clear c4
  simp only [Option.some.injEq, Prod.mk.injEq] at H
  obtain ⟨rfl, rfl, rfl, rfl, rfl, rfl, rfl⟩ := H
  go_enter Try.func57, Try.ntmps57
  go_wp2_with (first | ((with_reducible refine gate_dst (N := 3) rfl ?_); refine zbx 3 #[.string a0_0, .int .i64 a0_1, .int .i64 a0_2, .string a0_3, .int .i64 a0_4, .bool a0_5, .int .i64 a0_6] 32 ?_; intro gb291 hg w5 hbox hb; have BK291 := Aside0.mk (hbox); have GW291 := zs w hg; have GE291 := GW291; replace HB := zt w hb; clear hb hbox hg) | ((with_reducible refine gate_dst (N := 6) rfl ?_); refine zbx 6 #[.string (⟨#[]⟩ : ByteArray), .int .i64 0, .int .i64 0, .string (⟨#[]⟩ : ByteArray), .int .i64 0, .bool false, .int .i64 0] 32 ?_; intro gb292 hg w6 hbox hb; have BK292 := Aside0.mk (hbox); have GW292 := zs w hg; have GE292 := GW292; have NB291_292 := zlt BK291 hg; have NB292_291 := zgt (zlt BK291 hg); replace BK291 := zk BK291 hb; replace HB := zt w hb; clear hb hbox hg; have hnb7 := NB291_292.out; have hnc7 := NB292_291.out; have hZ8_ := cells_all BK291.out; simp only [allCells, Nat.zero_add, Nat.reduceAdd] at hZ8_; obtain ⟨hcz8_0, hfz8_0, hcz8_1, hfz8_1, hcz8_2, hfz8_2, hcz8_3, hfz8_3, hcz8_4, hfz8_4, hcz8_5, hfz8_5, hcz8_6, hfz8_6, _⟩ := hZ8_; have hZ9_ := cells_all BK292.out; simp only [allCells, Nat.zero_add, Nat.reduceAdd] at hZ9_; obtain ⟨hcz9_0, hfz9_0, hcz9_1, hfz9_1, hcz9_2, hfz9_2, hcz9_3, hfz9_3, hcz9_4, hfz9_4, hcz9_5, hfz9_5, hcz9_6, hfz9_6, _⟩ := hZ9_))
  refine bodyPost_ret (results_cell_row rfl _ _ gb292 32 #[.string a0_0, .int .i64 a0_1, .int .i64 a0_2, .string a0_3, .int .i64 a0_4, .bool a0_5, .int .i64 a0_6] (0, 0) _ rfl (zw _) Try.underlying32 rfl (by kernel_rfl)) rfl ?_
  exact ⟨ze _, zb _⟩
 ·rw [if_neg c4] at H
  have c4b0 : (a0_1 == 0) = false := beq_eq_false_iff_ne.mpr c4
  have c4b1 : (a0_1 != 0) = true := bne_iff_ne.mpr c4
  obtain ⟨t293, A100, H⟩ := Option.bind_eq_some_iff.mp H
  have A10 := Aside0.mk A100
  clear A100
  by_cases c11 : a1 < 128
  ·rw [if_pos c11] at H
   have c11b0 : decide (a1 < 128) = true := decide_eq_true c11
   clear c11
   simp only [Option.some.injEq, Prod.mk.injEq] at H
   obtain ⟨rfl, rfl, rfl, rfl, rfl, rfl, rfl⟩ := H
   go_enter Try.func57, Try.ntmps57
   go_wp2_with (first | ((with_reducible refine gate_dst (N := 3) rfl ?_); refine zbx 3 #[.string a0_0, .int .i64 a0_1, .int .i64 a0_2, .string a0_3, .int .i64 a0_4, .bool a0_5, .int .i64 a0_6] 32 ?_; intro gb291 hg w12 hbox hb; have BK291 := Aside0.mk (hbox); have GW291 := zs w hg; have GE291 := GW291; replace HB := zt w hb; clear hb hbox hg) | ((with_reducible refine gate_dst (N := 6) rfl ?_); refine zbx 6 #[.string (⟨#[]⟩ : ByteArray), .int .i64 0, .int .i64 0, .string (⟨#[]⟩ : ByteArray), .int .i64 0, .bool false, .int .i64 0] 32 ?_; intro gb292 hg w13 hbox hb; have BK292 := Aside0.mk (hbox); have GW292 := zs w hg; have GE292 := GW292; have NB291_292 := zlt BK291 hg; have NB292_291 := zgt (zlt BK291 hg); replace BK291 := zk BK291 hb; replace HB := zt w hb; clear hb hbox hg; have hnb14 := NB291_292.out; have hnc14 := NB292_291.out; have hZ15_ := cells_all BK291.out; simp only [allCells, Nat.zero_add, Nat.reduceAdd] at hZ15_; obtain ⟨hcz15_0, hfz15_0, hcz15_1, hfz15_1, hcz15_2, hfz15_2, hcz15_3, hfz15_3, hcz15_4, hfz15_4, hcz15_5, hfz15_5, hcz15_6, hfz15_6, _⟩ := hZ15_) | ((with_reducible refine gate_callee (f := 60) rfl ?_); refine zc (some 14) Try.func60 #[.agg #[.string a0_0, .int .i64 a0_1, .int .i64 a0_2, .string a0_3, .int .i64 a0_4, .bool a0_5, .int .i64 a0_6], .int .i64 a1] ?_; (with_reducible refine (impl_Cart_ramPlace.calls k a0_0 a0_1 a0_2 a0_3 a0_4 a0_5 a0_6 a1 t293 _ A10.out).mono ?_); rintro e w16 ⟨rfl, hb⟩; refine ⟨_, rfl, ?_⟩; replace BK291 := zk BK291 hb; replace BK292 := zk BK292 hb; replace HB := zt w hb; (try clear hb); (try clear hb2); (try clear hk); (try clear hi); have hZ17_ := cells_all BK291.out; simp only [allCells, Nat.zero_add, Nat.reduceAdd] at hZ17_; obtain ⟨hcz17_0, hfz17_0, hcz17_1, hfz17_1, hcz17_2, hfz17_2, hcz17_3, hfz17_3, hcz17_4, hfz17_4, hcz17_5, hfz17_5, hcz17_6, hfz17_6, _⟩ := hZ17_; have hZ18_ := cells_all BK292.out; simp only [allCells, Nat.zero_add, Nat.reduceAdd] at hZ18_; obtain ⟨hcz18_0, hfz18_0, hcz18_1, hfz18_1, hcz18_2, hfz18_2, hcz18_3, hfz18_3, hcz18_4, hfz18_4, hcz18_5, hfz18_5, hcz18_6, hfz18_6, _⟩ := hZ18_))
   refine bodyPost_ret (results_cell_row rfl _ _ gb292 32 #[.string a0_0, .int .i64 a0_1, .int .i64 a0_2, .string a0_3, .int .i64 a0_4, .bool ((Go.bits .and .i64 a2 15) == 10), .int .i64 a0_6] (0, 0) _ rfl (zw _) Try.underlying32 rfl (by kernel_rfl)) rfl ?_
   exact ⟨ze _, zb _⟩
  ·rw [if_neg c11] at H
   have c11b0 : decide (a1 < 128) = false := decide_eq_false c11
   clear c11
   have HC19 := Aside0.mk H
   clear H
   go_enter Try.func57, Try.ntmps57
   go_upto_region 6 with (first | ((with_reducible refine gate_dst (N := 3) rfl ?_); refine zbx 3 #[.string a0_0, .int .i64 a0_1, .int .i64 a0_2, .string a0_3, .int .i64 a0_4, .bool a0_5, .int .i64 a0_6] 32 ?_; intro gb291 hg w20 hbox hb; have BK291 := Aside0.mk (hbox); have GW291 := zs w hg; have GE291 := GW291; replace HB := zt w hb; clear hb hbox hg) | ((with_reducible refine gate_dst (N := 6) rfl ?_); refine zbx 6 #[.string (⟨#[]⟩ : ByteArray), .int .i64 0, .int .i64 0, .string (⟨#[]⟩ : ByteArray), .int .i64 0, .bool false, .int .i64 0] 32 ?_; intro gb292 hg w21 hbox hb; have BK292 := Aside0.mk (hbox); have GW292 := zs w hg; have GE292 := GW292; have NB291_292 := zlt BK291 hg; have NB292_291 := zgt (zlt BK291 hg); replace BK291 := zk BK291 hb; replace HB := zt w hb; clear hb hbox hg; have hnb22 := NB291_292.out; have hnc22 := NB292_291.out; have hZ23_ := cells_all BK291.out; simp only [allCells, Nat.zero_add, Nat.reduceAdd] at hZ23_; obtain ⟨hcz23_0, hfz23_0, hcz23_1, hfz23_1, hcz23_2, hfz23_2, hcz23_3, hfz23_3, hcz23_4, hfz23_4, hcz23_5, hfz23_5, hcz23_6, hfz23_6, _⟩ := hZ23_) | ((with_reducible refine gate_callee (f := 60) rfl ?_); refine zc (some 14) Try.func60 #[.agg #[.string a0_0, .int .i64 a0_1, .int .i64 a0_2, .string a0_3, .int .i64 a0_4, .bool a0_5, .int .i64 a0_6], .int .i64 a1] ?_; (with_reducible refine (impl_Cart_ramPlace.calls k a0_0 a0_1 a0_2 a0_3 a0_4 a0_5 a0_6 a1 t293 _ A10.out).mono ?_); rintro e w24 ⟨rfl, hb⟩; refine ⟨_, rfl, ?_⟩; replace BK291 := zk BK291 hb; replace BK292 := zk BK292 hb; replace HB := zt w hb; (try clear hb); (try clear hb2); (try clear hk); (try clear hi)))
   (try simp only [Act.put, List.setIfInBounds_toArray, List.set_cons_zero, List.set_cons_succ])
   go_cut [22] (fun v22 wc => ∃ (kq : Nat) (x22_18 : Bool), v22 = .bool x22_18 ∧ Aside0 (impl_Cart_written.j0 kq a1 a2 t293 x22_18 a0_0 a0_1 a0_2 a0_3 a0_4 a0_5 a0_6 = some (r1, r2, r3, r4, r5, r6, r7)) ∧ Aside0 (kq ≤ k) ∧ Aside0 (wc.heap[gb291]? = some (.cells #[.string a0_0, .int .i64 a0_1, .int .i64 a0_2, .string a0_3, .int .i64 a0_4, .bool a0_5, .int .i64 a0_6] 32 (0, 0))) ∧ Aside0 (wc.heap[gb292]? = some (.cells #[.string (⟨#[]⟩ : ByteArray), .int .i64 0, .int .i64 0, .string (⟨#[]⟩ : ByteArray), .int .i64 0, .bool false, .int .i64 0] 32 (0, 0))) ∧ Aside0 (Below w.heap.size w wc))
   case first =>
    have H := HC19.out
    clear HC19
    by_cases c25 : a1 < 256
    ·rw [if_pos c25] at H
     have c25b0 : decide (a1 < 256) = true := decide_eq_true c25
     clear c25
     (first | rw [c25b0] | (simp only [i64_w, i32_w]; rw [c25b0]) | skip)
     have H' := Aside0.mk H
     clear H
     have hnb26 := NB291_292.out
     have hnc26 := NB292_291.out
     have hcz27_0 := zc0 BK291
     have hcz27_1 := zc1 BK291
     have hcz27_2 := zc2 BK291
     have hcz27_3 := zc3 BK291
     have hcz27_4 := zc4 BK291
     have hcz27_5 := zc5 BK291
     have hcz27_6 := zc6 BK291
     have hfz27_0 := blk_frozen BK291.out 0
     have hfz27_1 := blk_frozen BK291.out 1
     have hfz27_2 := blk_frozen BK291.out 2
     have hfz27_3 := blk_frozen BK291.out 3
     have hfz27_4 := blk_frozen BK291.out 4
     have hfz27_5 := blk_frozen BK291.out 5
     have hfz27_6 := blk_frozen BK291.out 6
     go_wp2
     go_meet
     case rel => exact ⟨_, ((a0_1 == 2)), (zE _), H', ⟨by first | omega | exact Nat.le_refl _⟩, ⟨by (with_reducible repeat (first | refine blk_drewN ?_ _ | refine blk_drew ?_ | refine blk_alloc ?_ _)); exact BK291.out⟩, ⟨by (with_reducible repeat (first | refine blk_drewN ?_ _ | refine blk_drew ?_ | refine blk_alloc ?_ _)); exact BK292.out⟩, ⟨zb _⟩⟩
    ·rw [if_neg c25] at H
     have c25b0 : decide (a1 < 256) = false := decide_eq_false c25
     clear c25
     (first | rw [c25b0] | (simp only [i64_w, i32_w]; rw [c25b0]) | skip)
     have H' := Aside0.mk H
     clear H
     go_wp2
     go_meet
     case rel => exact ⟨_, (false), (zE _), H', ⟨by first | omega | exact Nat.le_refl _⟩, ⟨by (with_reducible repeat (first | refine blk_drewN ?_ _ | refine blk_drew ?_ | refine blk_alloc ?_ _)); exact BK291.out⟩, ⟨by (with_reducible repeat (first | refine blk_drewN ?_ _ | refine blk_drew ?_ | refine blk_alloc ?_ _)); exact BK292.out⟩, ⟨zb _⟩⟩
   case rest =>
    clear HC19
    try clear c1
    try clear c2
    try clear p2
    try clear c4
    try clear c4b0
    try clear c4b1
    try clear c5
    try clear c6
    try clear c7
    try clear c11
    try clear c11b0
    try clear c14
    try clear c22
    try clear c25
    try clear c25b0
    try clear c26
    try clear hcz15_0
    try clear hcz15_1
    try clear hcz15_2
    try clear hcz15_3
    try clear hcz15_4
    try clear hcz15_5
    try clear hcz15_6
    try clear hcz17_0
    try clear hcz17_1
    try clear hcz17_2
    try clear hcz17_3
    try clear hcz17_4
    try clear hcz17_5
    try clear hcz17_6
    try clear hcz18_0
    try clear hcz18_1
    try clear hcz18_2
    try clear hcz18_3
    try clear hcz18_4
    try clear hcz18_5
    try clear hcz18_6
    try clear hcz23_0
    try clear hcz23_1
    try clear hcz23_2
    try clear hcz23_3
    try clear hcz23_4
    try clear hcz23_5
    try clear hcz23_6
    try clear hcz27_0
    try clear hcz27_1
    try clear hcz27_2
    try clear hcz27_3
    try clear hcz27_4
    try clear hcz27_5
    try clear hcz27_6
    try clear hcz8_0
    try clear hcz8_1
    try clear hcz8_2
    try clear hcz8_3
    try clear hcz8_4
    try clear hcz8_5
    try clear hcz8_6
    try clear hcz9_0
    try clear hcz9_1
    try clear hcz9_2
    try clear hcz9_3
    try clear hcz9_4
    try clear hcz9_5
    try clear hcz9_6
    try clear hfz15_0
    try clear hfz15_1
    try clear hfz15_2
    try clear hfz15_3
    try clear hfz15_4
    try clear hfz15_5
    try clear hfz15_6
    try clear hfz17_0
    try clear hfz17_1
    try clear hfz17_2
    try clear hfz17_3
    try clear hfz17_4
    try clear hfz17_5
    try clear hfz17_6
    try clear hfz18_0
    try clear hfz18_1
    try clear hfz18_2
    try clear hfz18_3
    try clear hfz18_4
    try clear hfz18_5
    try clear hfz18_6
    try clear hfz23_0
    try clear hfz23_1
    try clear hfz23_2
    try clear hfz23_3
    try clear hfz23_4
    try clear hfz23_5
    try clear hfz23_6
    try clear hfz27_0
    try clear hfz27_1
    try clear hfz27_2
    try clear hfz27_3
    try clear hfz27_4
    try clear hfz27_5
    try clear hfz27_6
    try clear hfz8_0
    try clear hfz8_1
    try clear hfz8_2
    try clear hfz8_3
    try clear hfz8_4
    try clear hfz8_5
    try clear hfz8_6
    try clear hfz9_0
    try clear hfz9_1
    try clear hfz9_2
    try clear hfz9_3
    try clear hfz9_4
    try clear hfz9_5
    try clear hfz9_6
    obtain ⟨kq, x22_18, rfl, HA, HJ18, BK291, BK292, HB⟩ := hcut
    cases kq with
    | zero => exact absurd HA.out (by simp [impl_Cart_written.j0])
    | succ kj18 =>
     have H := HA.out
     clear HA
     simp only [impl_Cart_written.j0] at H
     by_cases c28 : x22_18 = true
     ·subst c28
      rw [if_pos rfl] at H
      simp only [Option.some.injEq, Prod.mk.injEq] at H
      obtain ⟨rfl, rfl, rfl, rfl, rfl, rfl, rfl⟩ := H
      have hnb29 := NB291_292.out
      have hnc29 := NB292_291.out
      have hcz30_0 := zc0 BK291
      have hcz30_1 := zc1 BK291
      have hcz30_2 := zc2 BK291
      have hcz30_3 := zc3 BK291
      have hcz30_4 := zc4 BK291
      have hcz30_5 := zc5 BK291
      have hcz30_6 := zc6 BK291
      have hfz30_0 := blk_frozen BK291.out 0
      have hfz30_1 := blk_frozen BK291.out 1
      have hfz30_2 := blk_frozen BK291.out 2
      have hfz30_3 := blk_frozen BK291.out 3
      have hfz30_4 := blk_frozen BK291.out 4
      have hfz30_5 := blk_frozen BK291.out 5
      have hfz30_6 := blk_frozen BK291.out 6
      have hcz31_0 := zc0 BK292
      have hcz31_1 := zc1 BK292
      have hcz31_2 := zc2 BK292
      have hcz31_3 := zc3 BK292
      have hcz31_4 := zc4 BK292
      have hcz31_5 := zc5 BK292
      have hcz31_6 := zc6 BK292
      have hfz31_0 := blk_frozen BK292.out 0
      have hfz31_1 := blk_frozen BK292.out 1
      have hfz31_2 := blk_frozen BK292.out 2
      have hfz31_3 := blk_frozen BK292.out 3
      have hfz31_4 := blk_frozen BK292.out 4
      have hfz31_5 := blk_frozen BK292.out 5
      have hfz31_6 := blk_frozen BK292.out 6
      go_wp2
      refine bodyPost_ret (results_cell_row rfl _ _ gb292 32 #[.string a0_0, .int .i64 a0_1, .int .i64 a2, .string a0_3, .int .i64 a0_4, .bool a0_5, .int .i64 a0_6] (0, 0) _ rfl (zw _) Try.underlying32 rfl (by kernel_rfl)) rfl ?_
      exact ⟨ze _, zb _⟩
     ·replace c28 := Bool.eq_false_iff.mpr c28
      subst c28
      rw [if_neg (show ¬ (false = true) by decide)] at H
      by_cases c32 : a1 < 256
      ·rw [if_pos c32] at H
       have c32b0 : decide (a1 < 256) = true := decide_eq_true c32
       clear c32
       obtain ⟨ji33, hji33⟩ : ∃ j_ : Int, (mx 1 (Int.tmod a2 32)) = j_ := ⟨_, rfl⟩
       replace H : (some (a0_0, a0_1, ji33, a0_3, a0_4, a0_5, a0_6)) = some (r1, r2, r3, r4, r5, r6, r7) := by first | (rw [hji33] at H; exact H) | (simp only [hji33] at H ⊢; exact H)
       have hji33_ : (if 1 < (Int.tmod a2 32) then (Int.tmod a2 32) else 1) = ji33 := hji33
       simp only [Option.some.injEq, Prod.mk.injEq] at H
       obtain ⟨rfl, rfl, rfl, rfl, rfl, rfl, rfl⟩ := H
       have hnb34 := NB291_292.out
       have hnc34 := NB292_291.out
       have hcz35_0 := zc0 BK291
       have hcz35_1 := zc1 BK291
       have hcz35_2 := zc2 BK291
       have hcz35_3 := zc3 BK291
       have hcz35_4 := zc4 BK291
       have hcz35_5 := zc5 BK291
       have hcz35_6 := zc6 BK291
       have hfz35_0 := blk_frozen BK291.out 0
       have hfz35_1 := blk_frozen BK291.out 1
       have hfz35_2 := blk_frozen BK291.out 2
       have hfz35_3 := blk_frozen BK291.out 3
       have hfz35_4 := blk_frozen BK291.out 4
       have hfz35_5 := blk_frozen BK291.out 5
       have hfz35_6 := blk_frozen BK291.out 6
       have hcz36_0 := zc0 BK292
       have hcz36_1 := zc1 BK292
       have hcz36_2 := zc2 BK292
       have hcz36_3 := zc3 BK292
       have hcz36_4 := zc4 BK292
       have hcz36_5 := zc5 BK292
       have hcz36_6 := zc6 BK292
       have hfz36_0 := blk_frozen BK292.out 0
       have hfz36_1 := blk_frozen BK292.out 1
       have hfz36_2 := blk_frozen BK292.out 2
       have hfz36_3 := blk_frozen BK292.out 3
       have hfz36_4 := blk_frozen BK292.out 4
       have hfz36_5 := blk_frozen BK292.out 5
       have hfz36_6 := blk_frozen BK292.out 6
       go_wp2
       refine bodyPost_ret (results_cell_row rfl _ _ gb292 32 #[.string a0_0, .int .i64 a0_1, .int .i64 ji33, .string a0_3, .int .i64 a0_4, .bool a0_5, .int .i64 a0_6] (0, 0) _ rfl (zw _) Try.underlying32 rfl (by kernel_rfl)) rfl ?_
       exact ⟨by first | rfl | (simp [errW_none, errW_some] <;> rfl) | (simp only [← hji33]; first | rfl | (simp [errW_none, errW_some] <;> rfl)) | (simp [*, errW_none, errW_some] <;> rfl), zb _⟩
      ·rw [if_neg c32] at H
       have c32b0 : decide (a1 < 256) = false := decide_eq_false c32
       clear c32
       by_cases c37 : a1 < 384
       ·rw [if_pos c37] at H
        have c37b0 : decide (a1 < 384) = true := decide_eq_true c37
        clear c37
        simp only [Option.some.injEq, Prod.mk.injEq] at H
        obtain ⟨rfl, rfl, rfl, rfl, rfl, rfl, rfl⟩ := H
        have hnb38 := NB291_292.out
        have hnc38 := NB292_291.out
        have hcz39_0 := zc0 BK291
        have hcz39_1 := zc1 BK291
        have hcz39_2 := zc2 BK291
        have hcz39_3 := zc3 BK291
        have hcz39_4 := zc4 BK291
        have hcz39_5 := zc5 BK291
        have hcz39_6 := zc6 BK291
        have hfz39_0 := blk_frozen BK291.out 0
        have hfz39_1 := blk_frozen BK291.out 1
        have hfz39_2 := blk_frozen BK291.out 2
        have hfz39_3 := blk_frozen BK291.out 3
        have hfz39_4 := blk_frozen BK291.out 4
        have hfz39_5 := blk_frozen BK291.out 5
        have hfz39_6 := blk_frozen BK291.out 6
        have hcz40_0 := zc0 BK292
        have hcz40_1 := zc1 BK292
        have hcz40_2 := zc2 BK292
        have hcz40_3 := zc3 BK292
        have hcz40_4 := zc4 BK292
        have hcz40_5 := zc5 BK292
        have hcz40_6 := zc6 BK292
        have hfz40_0 := blk_frozen BK292.out 0
        have hfz40_1 := blk_frozen BK292.out 1
        have hfz40_2 := blk_frozen BK292.out 2
        have hfz40_3 := blk_frozen BK292.out 3
        have hfz40_4 := blk_frozen BK292.out 4
        have hfz40_5 := blk_frozen BK292.out 5
        have hfz40_6 := blk_frozen BK292.out 6
        go_wp2
        refine bodyPost_ret (results_cell_row rfl _ _ gb292 32 #[.string a0_0, .int .i64 a0_1, .int .i64 a0_2, .string a0_3, .int .i64 (Int.tmod a2 4), .bool a0_5, .int .i64 a0_6] (0, 0) _ rfl (zw _) Try.underlying32 rfl (by kernel_rfl)) rfl ?_
        exact ⟨ze _, zb _⟩
       ·rw [if_neg c37] at H
        have c37b0 : decide (a1 < 384) = false := decide_eq_false c37
        clear c37
        have HC41 := Aside0.mk H
        clear H
        go_upto_region 12 with (fail)
        go_cut [45] (fun v45 wc => ∃ (kq : Nat) (x45_40 : Bool), v45 = .bool x45_40 ∧ Aside0 (impl_Cart_written.j1 kq a2 t293 x45_40 a0_0 a0_1 a0_2 a0_3 a0_4 a0_5 a0_6 = some (r1, r2, r3, r4, r5, r6, r7)) ∧ Aside0 (kq ≤ kj18) ∧ Aside0 (wc.heap[gb291]? = some (.cells #[.string a0_0, .int .i64 a0_1, .int .i64 a0_2, .string a0_3, .int .i64 a0_4, .bool a0_5, .int .i64 a0_6] 32 (0, 0))) ∧ Aside0 (wc.heap[gb292]? = some (.cells #[.string (⟨#[]⟩ : ByteArray), .int .i64 0, .int .i64 0, .string (⟨#[]⟩ : ByteArray), .int .i64 0, .bool false, .int .i64 0] 32 (0, 0))) ∧ Aside0 (Below w.heap.size w wc))
        case first =>
         have H := HC41.out
         clear HC41
         by_cases c42 : a1 < 512
         ·rw [if_pos c42] at H
          have c42b0 : decide (a1 < 512) = true := decide_eq_true c42
          clear c42
          (first | rw [c42b0] | (simp only [i64_w, i32_w]; rw [c42b0]) | skip)
          have H' := Aside0.mk H
          clear H
          have hnb43 := NB291_292.out
          have hnc43 := NB292_291.out
          have hcz44_0 := zc0 BK291
          have hcz44_1 := zc1 BK291
          have hcz44_2 := zc2 BK291
          have hcz44_3 := zc3 BK291
          have hcz44_4 := zc4 BK291
          have hcz44_5 := zc5 BK291
          have hcz44_6 := zc6 BK291
          have hfz44_0 := blk_frozen BK291.out 0
          have hfz44_1 := blk_frozen BK291.out 1
          have hfz44_2 := blk_frozen BK291.out 2
          have hfz44_3 := blk_frozen BK291.out 3
          have hfz44_4 := blk_frozen BK291.out 4
          have hfz44_5 := blk_frozen BK291.out 5
          have hfz44_6 := blk_frozen BK291.out 6
          go_wp2
          go_meet
          case rel => exact ⟨_, ((a0_1 == 1)), (zE _), H', ⟨by have := HJ18.out; first | omega | exact Nat.le_refl _⟩, ⟨by (with_reducible repeat (first | refine blk_drewN ?_ _ | refine blk_drew ?_ | refine blk_alloc ?_ _)); exact BK291.out⟩, ⟨by (with_reducible repeat (first | refine blk_drewN ?_ _ | refine blk_drew ?_ | refine blk_alloc ?_ _)); exact BK292.out⟩, ⟨zb _⟩⟩
         ·rw [if_neg c42] at H
          have c42b0 : decide (a1 < 512) = false := decide_eq_false c42
          clear c42
          (first | rw [c42b0] | (simp only [i64_w, i32_w]; rw [c42b0]) | skip)
          have H' := Aside0.mk H
          clear H
          go_wp2
          go_meet
          case rel => exact ⟨_, (false), (zE _), H', ⟨by have := HJ18.out; first | omega | exact Nat.le_refl _⟩, ⟨by (with_reducible repeat (first | refine blk_drewN ?_ _ | refine blk_drew ?_ | refine blk_alloc ?_ _)); exact BK291.out⟩, ⟨by (with_reducible repeat (first | refine blk_drewN ?_ _ | refine blk_drew ?_ | refine blk_alloc ?_ _)); exact BK292.out⟩, ⟨zb _⟩⟩
        case rest =>
         clear HC41
         try clear c1
         try clear c2
         try clear p2
         try clear c3
         try clear c4
         try clear c4b0
         try clear c4b1
         try clear c5
         try clear c6
         try clear c7
         try clear c11
         try clear c11b0
         try clear c14
         try clear c22
         try clear c25
         try clear c25b0
         try clear c26
         try clear c28
         try clear c29
         try clear c32
         try clear c32b0
         try clear c34
         try clear c37
         try clear c37b0
         try clear c38
         try clear c42
         try clear c42b0
         try clear c43
         try clear hcz15_0
         try clear hcz15_1
         try clear hcz15_2
         try clear hcz15_3
         try clear hcz15_4
         try clear hcz15_5
         try clear hcz15_6
         try clear hcz17_0
         try clear hcz17_1
         try clear hcz17_2
         try clear hcz17_3
         try clear hcz17_4
         try clear hcz17_5
         try clear hcz17_6
         try clear hcz18_0
         try clear hcz18_1
         try clear hcz18_2
         try clear hcz18_3
         try clear hcz18_4
         try clear hcz18_5
         try clear hcz18_6
         try clear hcz23_0
         try clear hcz23_1
         try clear hcz23_2
         try clear hcz23_3
         try clear hcz23_4
         try clear hcz23_5
         try clear hcz23_6
         try clear hcz27_0
         try clear hcz27_1
         try clear hcz27_2
         try clear hcz27_3
         try clear hcz27_4
         try clear hcz27_5
         try clear hcz27_6
         try clear hcz30_0
         try clear hcz30_1
         try clear hcz30_2
         try clear hcz30_3
         try clear hcz30_4
         try clear hcz30_5
         try clear hcz30_6
         try clear hcz31_0
         try clear hcz31_1
         try clear hcz31_2
         try clear hcz31_3
         try clear hcz31_4
         try clear hcz31_5
         try clear hcz31_6
         try clear hcz35_0
         try clear hcz35_1
         try clear hcz35_2
         try clear hcz35_3
         try clear hcz35_4
         try clear hcz35_5
         try clear hcz35_6
         try clear hcz36_0
         try clear hcz36_1
         try clear hcz36_2
         try clear hcz36_3
         try clear hcz36_4
         try clear hcz36_5
         try clear hcz36_6
         try clear hcz39_0
         try clear hcz39_1
         try clear hcz39_2
         try clear hcz39_3
         try clear hcz39_4
         try clear hcz39_5
         try clear hcz39_6
         try clear hcz40_0
         try clear hcz40_1
         try clear hcz40_2
         try clear hcz40_3
         try clear hcz40_4
         try clear hcz40_5
         try clear hcz40_6
         try clear hcz44_0
         try clear hcz44_1
         try clear hcz44_2
         try clear hcz44_3
         try clear hcz44_4
         try clear hcz44_5
         try clear hcz44_6
         try clear hcz8_0
         try clear hcz8_1
         try clear hcz8_2
         try clear hcz8_3
         try clear hcz8_4
         try clear hcz8_5
         try clear hcz8_6
         try clear hcz9_0
         try clear hcz9_1
         try clear hcz9_2
         try clear hcz9_3
         try clear hcz9_4
         try clear hcz9_5
         try clear hcz9_6
         try clear hfz15_0
         try clear hfz15_1
         try clear hfz15_2
         try clear hfz15_3
         try clear hfz15_4
         try clear hfz15_5
         try clear hfz15_6
         try clear hfz17_0
         try clear hfz17_1
         try clear hfz17_2
         try clear hfz17_3
         try clear hfz17_4
         try clear hfz17_5
         try clear hfz17_6
         try clear hfz18_0
         try clear hfz18_1
         try clear hfz18_2
         try clear hfz18_3
         try clear hfz18_4
         try clear hfz18_5
         try clear hfz18_6
         try clear hfz23_0
         try clear hfz23_1
         try clear hfz23_2
         try clear hfz23_3
         try clear hfz23_4
         try clear hfz23_5
         try clear hfz23_6
         try clear hfz27_0
         try clear hfz27_1
         try clear hfz27_2
         try clear hfz27_3
         try clear hfz27_4
         try clear hfz27_5
         try clear hfz27_6
         try clear hfz30_0
         try clear hfz30_1
         try clear hfz30_2
         try clear hfz30_3
         try clear hfz30_4
         try clear hfz30_5
         try clear hfz30_6
         try clear hfz31_0
         try clear hfz31_1
         try clear hfz31_2
         try clear hfz31_3
         try clear hfz31_4
         try clear hfz31_5
         try clear hfz31_6
         try clear hfz35_0
         try clear hfz35_1
         try clear hfz35_2
         try clear hfz35_3
         try clear hfz35_4
         try clear hfz35_5
         try clear hfz35_6
         try clear hfz36_0
         try clear hfz36_1
         try clear hfz36_2
         try clear hfz36_3
         try clear hfz36_4
         try clear hfz36_5
         try clear hfz36_6
         try clear hfz39_0
         try clear hfz39_1
         try clear hfz39_2
         try clear hfz39_3
         try clear hfz39_4
         try clear hfz39_5
         try clear hfz39_6
         try clear hfz40_0
         try clear hfz40_1
         try clear hfz40_2
         try clear hfz40_3
         try clear hfz40_4
         try clear hfz40_5
         try clear hfz40_6
         try clear hfz44_0
         try clear hfz44_1
         try clear hfz44_2
         try clear hfz44_3
         try clear hfz44_4
         try clear hfz44_5
         try clear hfz44_6
         try clear hfz8_0
         try clear hfz8_1
         try clear hfz8_2
         try clear hfz8_3
         try clear hfz8_4
         try clear hfz8_5
         try clear hfz8_6
         try clear hfz9_0
         try clear hfz9_1
         try clear hfz9_2
         try clear hfz9_3
         try clear hfz9_4
         try clear hfz9_5
         try clear hfz9_6
         try clear p2
         obtain ⟨kq, x45_40, rfl, HA, HJ40, BK291, BK292, HB⟩ := hcut
         cases kq with
         | zero => exact absurd HA.out (by simp [impl_Cart_written.j1])
         | succ kj40 =>
          have H := HA.out
          clear HA
          simp only [impl_Cart_written.j1] at H
          by_cases c45 : x45_40 = true
          ·subst c45
           rw [if_pos rfl] at H
           simp only [Option.some.injEq, Prod.mk.injEq] at H
           obtain ⟨rfl, rfl, rfl, rfl, rfl, rfl, rfl⟩ := H
           have hnb46 := NB291_292.out
           have hnc46 := NB292_291.out
           have hcz47_0 := zc0 BK291
           have hcz47_1 := zc1 BK291
           have hcz47_2 := zc2 BK291
           have hcz47_3 := zc3 BK291
           have hcz47_4 := zc4 BK291
           have hcz47_5 := zc5 BK291
           have hcz47_6 := zc6 BK291
           have hfz47_0 := blk_frozen BK291.out 0
           have hfz47_1 := blk_frozen BK291.out 1
           have hfz47_2 := blk_frozen BK291.out 2
           have hfz47_3 := blk_frozen BK291.out 3
           have hfz47_4 := blk_frozen BK291.out 4
           have hfz47_5 := blk_frozen BK291.out 5
           have hfz47_6 := blk_frozen BK291.out 6
           have hcz48_0 := zc0 BK292
           have hcz48_1 := zc1 BK292
           have hcz48_2 := zc2 BK292
           have hcz48_3 := zc3 BK292
           have hcz48_4 := zc4 BK292
           have hcz48_5 := zc5 BK292
           have hcz48_6 := zc6 BK292
           have hfz48_0 := blk_frozen BK292.out 0
           have hfz48_1 := blk_frozen BK292.out 1
           have hfz48_2 := blk_frozen BK292.out 2
           have hfz48_3 := blk_frozen BK292.out 3
           have hfz48_4 := blk_frozen BK292.out 4
           have hfz48_5 := blk_frozen BK292.out 5
           have hfz48_6 := blk_frozen BK292.out 6
           go_wp2
           refine bodyPost_ret (results_cell_row rfl _ _ gb292 32 #[.string a0_0, .int .i64 a0_1, .int .i64 a0_2, .string a0_3, .int .i64 a0_4, .bool a0_5, .int .i64 (Int.tmod a2 2)] (0, 0) _ rfl (zw _) Try.underlying32 rfl (by kernel_rfl)) rfl ?_
           exact ⟨ze _, zb _⟩
          ·replace c45 := Bool.eq_false_iff.mpr c45
           subst c45
           rw [if_neg (show ¬ (false = true) by decide)] at H
           by_cases c49 : t293 ≥ 0
           ·rw [if_pos c49] at H
            have c49b0 : decide (0 ≤ t293) = true := decide_eq_true c49
            clear c49
            obtain ⟨t294, A500, H⟩ := Option.bind_eq_some_iff.mp H
            have A50 := Aside0.mk A500
            clear A500
            simp only [Option.some.injEq, Prod.mk.injEq] at H
            obtain ⟨rfl, rfl, rfl, rfl, rfl, rfl, rfl⟩ := H
            have hnb51 := NB291_292.out
            have hnc51 := NB292_291.out
            have hcz52_0 := zc0 BK291
            have hcz52_1 := zc1 BK291
            have hcz52_2 := zc2 BK291
            have hcz52_3 := zc3 BK291
            have hcz52_4 := zc4 BK291
            have hcz52_5 := zc5 BK291
            have hcz52_6 := zc6 BK291
            have hfz52_0 := blk_frozen BK291.out 0
            have hfz52_1 := blk_frozen BK291.out 1
            have hfz52_2 := blk_frozen BK291.out 2
            have hfz52_3 := blk_frozen BK291.out 3
            have hfz52_4 := blk_frozen BK291.out 4
            have hfz52_5 := blk_frozen BK291.out 5
            have hfz52_6 := blk_frozen BK291.out 6
            go_wp2_with (first | ((with_reducible refine gate_callee (f := 55) rfl ?_); refine zc (some 63) Try.func55 #[.string a0_3, .int .i64 t293, .int .i64 a2] ?_; (with_reducible refine (impl_replaced.calls a0_3 t293 a2 t294 _ A50.out).mono ?_); rintro e w53 ⟨rfl, hb⟩; refine ⟨_, rfl, ?_⟩; replace BK291 := zk BK291 hb; replace BK292 := zk BK292 hb; replace HB := zt w hb; (try clear hb); (try clear hb2); (try clear hk); (try clear hi); have hZ54_ := cells_all BK291.out; simp only [allCells, Nat.zero_add, Nat.reduceAdd] at hZ54_; obtain ⟨hcz54_0, hfz54_0, hcz54_1, hfz54_1, hcz54_2, hfz54_2, hcz54_3, hfz54_3, hcz54_4, hfz54_4, hcz54_5, hfz54_5, hcz54_6, hfz54_6, _⟩ := hZ54_; have hZ55_ := cells_all BK292.out; simp only [allCells, Nat.zero_add, Nat.reduceAdd] at hZ55_; obtain ⟨hcz55_0, hfz55_0, hcz55_1, hfz55_1, hcz55_2, hfz55_2, hcz55_3, hfz55_3, hcz55_4, hfz55_4, hcz55_5, hfz55_5, hcz55_6, hfz55_6, _⟩ := hZ55_))
            refine bodyPost_ret (results_cell_row rfl _ _ gb292 32 #[.string a0_0, .int .i64 a0_1, .int .i64 a0_2, .string t294, .int .i64 a0_4, .bool a0_5, .int .i64 a0_6] (0, 0) _ rfl (zw _) Try.underlying32 rfl (by kernel_rfl)) rfl ?_
            exact ⟨ze _, zb _⟩
           ·rw [if_neg c49] at H
            have c49b0 : decide (0 ≤ t293) = false := decide_eq_false c49
            clear c49
            simp only [Option.some.injEq, Prod.mk.injEq] at H
            obtain ⟨rfl, rfl, rfl, rfl, rfl, rfl, rfl⟩ := H
            have hnb56 := NB291_292.out
            have hnc56 := NB292_291.out
            have hcz57_0 := zc0 BK291
            have hcz57_1 := zc1 BK291
            have hcz57_2 := zc2 BK291
            have hcz57_3 := zc3 BK291
            have hcz57_4 := zc4 BK291
            have hcz57_5 := zc5 BK291
            have hcz57_6 := zc6 BK291
            have hfz57_0 := blk_frozen BK291.out 0
            have hfz57_1 := blk_frozen BK291.out 1
            have hfz57_2 := blk_frozen BK291.out 2
            have hfz57_3 := blk_frozen BK291.out 3
            have hfz57_4 := blk_frozen BK291.out 4
            have hfz57_5 := blk_frozen BK291.out 5
            have hfz57_6 := blk_frozen BK291.out 6
            have hcz58_0 := zc0 BK292
            have hcz58_1 := zc1 BK292
            have hcz58_2 := zc2 BK292
            have hcz58_3 := zc3 BK292
            have hcz58_4 := zc4 BK292
            have hcz58_5 := zc5 BK292
            have hcz58_6 := zc6 BK292
            have hfz58_0 := blk_frozen BK292.out 0
            have hfz58_1 := blk_frozen BK292.out 1
            have hfz58_2 := blk_frozen BK292.out 2
            have hfz58_3 := blk_frozen BK292.out 3
            have hfz58_4 := blk_frozen BK292.out 4
            have hfz58_5 := blk_frozen BK292.out 5
            have hfz58_6 := blk_frozen BK292.out 6
            go_wp2
            refine bodyPost_ret (results_cell_row rfl _ _ gb292 32 #[.string a0_0, .int .i64 a0_1, .int .i64 a0_2, .string a0_3, .int .i64 a0_4, .bool a0_5, .int .i64 a0_6] (0, 0) _ rfl (zw _) Try.underlying32 rfl (by kernel_rfl)) rfl ?_
            exact ⟨ze _, zb _⟩

end Go.Proofs.Ytmgbdbamfljjnaa.PFnExactBusWrite
