/- What the Go functions that the law FnExactObjectOk reaches compute, function by function, and that Go comes to just that. -/
import Derived.Test.YtbbngeooodcbcaaPFnExactObjectOkx0
import Derived.Test.YtbbngeooodcbcaaAidZ
namespace Go.Proofs.Ytbbngeooodcbcaa.PFnExactObjectOk
open Go.RowKit Go.Proofs.Ytbbngeooodcbcaa.Z Go.Proofs.YtbbngeooodcbcaaW.PrintWords Go.Proofs.YtbbngeooodcbcaaW.PrintLast Go.Proofs.YtbbngeooodcbcaaW.PrintMore
attribute [local go_sem] max2_int min2_int max_two min_two max_three min_three max_four min_four   -- for this text's walks alone
set_option linter.unusedVariables false
set_option linter.unusedSimpArgs false

/-! ### laws_eqENode: function 63 -/
def laws_eqENode.f (a0_0 : Int) (a0_1 : Int) (a0_2 : ByteArray) (a1_0 : Int) (a1_1 : Int) (a1_2 : ByteArray) : Option (Bool) := if a0_0 = a1_0 then (if a0_1 = a1_1 then (if a0_2.toList = a1_2.toList then (some true) else (some false)) else (some false)) else (some false)
set_option maxHeartbeats 8000000 in
set_option maxRecDepth 100000 in
theorem laws_eqENode.calls (a0_0 : Int) (a0_1 : Int) (a0_2 : ByteArray) (a1_0 : Int) (a1_1 : Int) (a1_2 : ByteArray) (r : Bool) (w : World) (h : laws_eqENode.f a0_0 a0_1 a0_2 a1_0 a1_1 a1_2 = some r) :
 Calls Try.prog 63 #[.agg #[.int .i64 a0_0, .int .i64 a0_1, .string a0_2], .agg #[.int .i64 a1_0, .int .i64 a1_1, .string a1_2]] w fun e w' => e = .returned (.bool r) ∧ Below w.heap.size w w' := by
 have hu74 := Try.underlying74
 have HB := Aside0.mk (Below.refl w.heap.size w)
 have H : (if a0_0 = a1_0 then (if a0_1 = a1_1 then (if a0_2.toList = a1_2.toList then (some true) else (some false)) else (some false)) else (some false)) = some r := h
 clear h
 by_cases c3 : a0_0 = a1_0
 ·rw [if_pos c3] at H
  have c3b0 : (a0_0 == a1_0) = true := beq_iff_eq.mpr c3
  have c3b1 : (a0_0 != a1_0) = false := bne_eq_false_iff_eq.mpr c3
  clear c3
  by_cases c4 : a0_1 = a1_1
  ·rw [if_pos c4] at H
   have c4b0 : (a0_1 == a1_1) = true := beq_iff_eq.mpr c4
   have c4b1 : (a0_1 != a1_1) = false := bne_eq_false_iff_eq.mpr c4
   clear c4
   by_cases c5 : a0_2.toList = a1_2.toList
   ·rw [if_pos c5] at H
    have c5b0 : (a0_2.toList == a1_2.toList) = true := beq_iff_eq.mpr c5
    have c5b1 : (a0_2.toList != a1_2.toList) = false := bne_eq_false_iff_eq.mpr c5
    clear c5
    obtain rfl := Option.some.inj H
    go_enter Try.func63, Try.ntmps63
    go_wp2_with (first | ((with_reducible refine gate_dst (N := 2) rfl ?_); refine zbx 2 #[.int .i64 a0_0, .int .i64 a0_1, .string a0_2] 74 ?_; intro gb291 hg w6 hbox hb; have BK291 := Aside0.mk (hbox); have GW291 := zs w hg; have GE291 := GW291; replace HB := zt w hb; clear hb hbox hg) | ((with_reducible refine gate_dst (N := 3) rfl ?_); refine zbx 3 #[.int .i64 a1_0, .int .i64 a1_1, .string a1_2] 74 ?_; intro gb292 hg w7 hbox hb; have BK292 := Aside0.mk (hbox); have GW292 := zs w hg; have GE292 := GW292; have NB291_292 := zlt BK291 hg; have NB292_291 := zgt (zlt BK291 hg); replace BK291 := zk BK291 hb; replace HB := zt w hb; clear hb hbox hg; have hnb8 := NB291_292.out; have hnc8 := NB292_291.out; have hcz9_0 := zc0 BK291; have hcz9_1 := zc1 BK291; have hcz9_2 := zc2 BK291; have hfz9_0 := blk_frozen BK291.out 0; have hfz9_1 := blk_frozen BK291.out 1; have hfz9_2 := blk_frozen BK291.out 2; have hcz10_0 := zc0 BK292; have hcz10_1 := zc1 BK292; have hcz10_2 := zc2 BK292; have hfz10_0 := blk_frozen BK292.out 0; have hfz10_1 := blk_frozen BK292.out 1; have hfz10_2 := blk_frozen BK292.out 2))
    go_ret
    exact ⟨ze _, zb _⟩
   ·rw [if_neg c5] at H
    have c5b0 : (a0_2.toList == a1_2.toList) = false := beq_eq_false_iff_ne.mpr c5
    have c5b1 : (a0_2.toList != a1_2.toList) = true := bne_iff_ne.mpr c5
    obtain rfl := Option.some.inj H
    go_enter Try.func63, Try.ntmps63
    go_wp2_with (first | ((with_reducible refine gate_dst (N := 2) rfl ?_); refine zbx 2 #[.int .i64 a0_0, .int .i64 a0_1, .string a0_2] 74 ?_; intro gb291 hg w11 hbox hb; have BK291 := Aside0.mk (hbox); have GW291 := zs w hg; have GE291 := GW291; replace HB := zt w hb; clear hb hbox hg) | ((with_reducible refine gate_dst (N := 3) rfl ?_); refine zbx 3 #[.int .i64 a1_0, .int .i64 a1_1, .string a1_2] 74 ?_; intro gb292 hg w12 hbox hb; have BK292 := Aside0.mk (hbox); have GW292 := zs w hg; have GE292 := GW292; have NB291_292 := zlt BK291 hg; have NB292_291 := zgt (zlt BK291 hg); replace BK291 := zk BK291 hb; replace HB := zt w hb; clear hb hbox hg; have hnb13 := NB291_292.out; have hnc13 := NB292_291.out; have hcz14_0 := zc0 BK291; have hcz14_1 := zc1 BK291; have hcz14_2 := zc2 BK291; have hfz14_0 := blk_frozen BK291.out 0; have hfz14_1 := blk_frozen BK291.out 1; have hfz14_2 := blk_frozen BK291.out 2; have hcz15_0 := zc0 BK292; have hcz15_1 := zc1 BK292; have hcz15_2 := zc2 BK292; have hfz15_0 := blk_frozen BK292.out 0; have hfz15_1 := blk_frozen BK292.out 1; have hfz15_2 := blk_frozen BK292.out 2))
    go_ret
    exact ⟨ze _, zb _⟩
  ·rw [if_neg c4] at H
   have c4b0 : (a0_1 == a1_1) = false := beq_eq_false_iff_ne.mpr c4
   have c4b1 : (a0_1 != a1_1) = true := bne_iff_ne.mpr c4
   obtain rfl := Option.some.inj H
   go_enter Try.func63, Try.ntmps63
   go_wp2_with (first | ((with_reducible refine gate_dst (N := 2) rfl ?_); refine zbx 2 #[.int .i64 a0_0, .int .i64 a0_1, .string a0_2] 74 ?_; intro gb291 hg w16 hbox hb; have BK291 := Aside0.mk (hbox); have GW291 := zs w hg; have GE291 := GW291; replace HB := zt w hb; clear hb hbox hg) | ((with_reducible refine gate_dst (N := 3) rfl ?_); refine zbx 3 #[.int .i64 a1_0, .int .i64 a1_1, .string a1_2] 74 ?_; intro gb292 hg w17 hbox hb; have BK292 := Aside0.mk (hbox); have GW292 := zs w hg; have GE292 := GW292; have NB291_292 := zlt BK291 hg; have NB292_291 := zgt (zlt BK291 hg); replace BK291 := zk BK291 hb; replace HB := zt w hb; clear hb hbox hg; have hnb18 := NB291_292.out; have hnc18 := NB292_291.out; have hcz19_0 := zc0 BK291; have hcz19_1 := zc1 BK291; have hcz19_2 := zc2 BK291; have hfz19_0 := blk_frozen BK291.out 0; have hfz19_1 := blk_frozen BK291.out 1; have hfz19_2 := blk_frozen BK291.out 2; have hcz20_0 := zc0 BK292; have hcz20_1 := zc1 BK292; have hcz20_2 := zc2 BK292; have hfz20_0 := blk_frozen BK292.out 0; have hfz20_1 := blk_frozen BK292.out 1; have hfz20_2 := blk_frozen BK292.out 2))
   go_ret
   exact ⟨ze _, zb _⟩
 ·rw [if_neg c3] at H
  have c3b0 : (a0_0 == a1_0) = false := beq_eq_false_iff_ne.mpr c3
  have c3b1 : (a0_0 != a1_0) = true := bne_iff_ne.mpr c3
  obtain rfl := Option.some.inj H
  go_enter Try.func63, Try.ntmps63
  go_wp2_with (first | ((with_reducible refine gate_dst (N := 2) rfl ?_); refine zbx 2 #[.int .i64 a0_0, .int .i64 a0_1, .string a0_2] 74 ?_; intro gb291 hg w21 hbox hb; have BK291 := Aside0.mk (hbox); have GW291 := zs w hg; have GE291 := GW291; replace HB := zt w hb; clear hb hbox hg) | ((with_reducible refine gate_dst (N := 3) rfl ?_); refine zbx 3 #[.int .i64 a1_0, .int .i64 a1_1, .string a1_2] 74 ?_; intro gb292 hg w22 hbox hb; have BK292 := Aside0.mk (hbox); have GW292 := zs w hg; have GE292 := GW292; have NB291_292 := zlt BK291 hg; have NB292_291 := zgt (zlt BK291 hg); replace BK291 := zk BK291 hb; replace HB := zt w hb; clear hb hbox hg; have hnb23 := NB291_292.out; have hnc23 := NB292_291.out; have hcz24_0 := zc0 BK291; have hcz24_1 := zc1 BK291; have hcz24_2 := zc2 BK291; have hfz24_0 := blk_frozen BK291.out 0; have hfz24_1 := blk_frozen BK291.out 1; have hfz24_2 := blk_frozen BK291.out 2; have hcz25_0 := zc0 BK292; have hcz25_1 := zc1 BK292; have hcz25_2 := zc2 BK292; have hfz25_0 := blk_frozen BK292.out 0; have hfz25_1 := blk_frozen BK292.out 1; have hfz25_2 := blk_frozen BK292.out 2))
  go_ret
  exact ⟨ze _, zb _⟩

/-! ### laws_eqENodeS: function 52 -/
def laws_eqENodeS.l0 : Nat → List (S74) → List (S74) → Int → Option (Bool)
  | 0, _, _, _ => none
  | k + 1, x0, x1, x5 => if x5 < (x0.length : Int) then (if 0 ≤ x5 then (if x5 < (x1.length : Int) then ((laws_eqENode.f ((rd_T74 x0 x5).f0) ((rd_T74 x0 x5).f1) ((rd_T74 x0 x5).f2) ((rd_T74 x1 x5).f0) ((rd_T74 x1 x5).f1) ((rd_T74 x1 x5).f2)).bind fun t295 => (if t295 = true then (laws_eqENodeS.l0 k x0 x1 (wrap64 (x5 + 1))) else (some false))) else (none)) else (none)) else (some true)
def laws_eqENodeS.f (k : Nat) (l0 : List (S74)) (l1 : List (S74)) : Option (Bool) := if (l0.length : Int) = (l1.length : Int) then (laws_eqENodeS.l0 k l0 l1 0) else (some false)
theorem laws_eqENodeS.mono_l : ∀ k, (∀ y0 y1 y2, LeO (laws_eqENodeS.l0 k y0 y1 y2) (laws_eqENodeS.l0 (k + 1) y0 y1 y2))
  | 0 => fun _ _ _ r h => by simp [laws_eqENodeS.l0] at h
  | k + 1 => by
    have ih0 := laws_eqENodeS.mono_l k
    · intro y0 y1 y2
      unfold laws_eqENodeS.l0
      repeat' first
      | (with_reducible exact ih0 _ _ _)
      | (with_reducible exact LeO.refl _)
      | (with_reducible exact LeO.none _)
      | (with_reducible refine LeO.ite ?_ ?_)
      | (with_reducible refine LeO.bind ?_ (fun _ => ?_))
      | exact ih0 _ _ _
      | exact LeO.none _
      | refine LeO.ite ?_ ?_
      | refine LeO.bind ?_ (fun _ => ?_)
theorem laws_eqENodeS.mono : ∀ a0 a1 k, LeO (laws_eqENodeS.f k a0 a1) (laws_eqENodeS.f (k + 1) a0 a1) := by
  intro a0 a1 k
  have ih0 := laws_eqENodeS.mono_l k
  unfold laws_eqENodeS.f
  repeat' first
      | (with_reducible exact ih0 _ _ _)
      | (with_reducible exact LeO.refl _)
      | (with_reducible exact LeO.none _)
      | (with_reducible refine LeO.ite ?_ ?_)
      | (with_reducible refine LeO.bind ?_ (fun _ => ?_))
      | exact ih0 _ _ _
      | exact LeO.none _
      | refine LeO.ite ?_ ?_
      | refine LeO.bind ?_ (fun _ => ?_)
def laws_eqENodeS.T6 : Bool × List (List Nat × List Nat) := (true, [([], []), ([], []), ([0, 1], [0, 1]), ([2], [2]), ([], []), ([], []), ([4, 5], [4, 5]), ([6], [6]), ([3, 7], [3, 7]), ([8], [8])])
def laws_eqENodeS.B6 : List Nat := [0, 0, 3, 7, 0, 0, 48, 112, 255, 511]
theorem laws_eqENodeS.tab6 : rtab .any (opsOf Try.f52 6) = laws_eqENodeS.T6 := by kernel_rfl
theorem laws_eqENodeS.bits6 : waitsOk laws_eqENodeS.T6.2 laws_eqENodeS.B6 = true := by kernel_rfl
set_option maxHeartbeats 8000000 in
set_option maxRecDepth 100000 in
theorem laws_eqENodeS.calls (k : Nat) (A0 : Option Addr) (c0 : Nat) (l0 : List (S74)) (A1 : Option Addr) (c1 : Nat) (l1 : List (S74)) (r : Bool) (w : World) (hr0 : Kd.C k74 w A0 l0.length l0) (hc0 : l0.length ≤ c0) (hr1 : Kd.C k74 w A1 l1.length l1) (hc1 : l1.length ≤ c1) (h : laws_eqENodeS.f k l0 l1 = some r) :
 Calls Try.prog 52 #[.slice A0 l0.length c0, .slice A1 l1.length c1] w fun e w' => e = .returned (.bool r) ∧ Below w.heap.size w w' := by
 have hu74 := Try.underlying74
 have HR0 := Aside0.mk hr0
 have HC0 := Aside0.mk hc0
 clear hr0 hc0
 have HR1 := Aside0.mk hr1
 have HC1 := Aside0.mk hc1
 clear hr1 hc1
 have HB := Aside0.mk (Below.refl w.heap.size w)
 have H : (if (l0.length : Int) = (l1.length : Int) then (laws_eqENodeS.l0 k l0 l1 0) else (some false)) = some r := h
 clear h
 by_cases c3 : (l0.length : Int) = (l1.length : Int)
 ·rw [if_pos c3] at H
  have c3b0 : ((l0.length : Int) == (l1.length : Int)) = true := beq_iff_eq.mpr c3
  have c3b1 : ((l0.length : Int) != (l1.length : Int)) = false := bne_eq_false_iff_eq.mpr c3
  have c3b2 : (l0.length == l1.length) = true := by first | simpa using c3 | (simp at c3 ⊢; omega)
  clear c3
  have H' := Aside0.mk H
  clear H
  go_enter Try.func52, Try.ntmps52
  go_wp2
  go_loopg [5] k (fun kq v5 w' => ∃ (x5_1 : Int), v5 = .int .i64 x5_1 ∧ Aside0 (laws_eqENodeS.l0 kq l0 l1 x5_1 = some r) ∧ Aside0 (kq ≤ k) ∧ Aside0 (Below w.heap.size w w'))
  case atStart => exact ⟨(0), (zE _), H', ⟨Nat.le_refl _⟩, ⟨zb _⟩⟩
  case round =>
   clear H'
   try clear c1
   try clear p2
   try clear c3
   try clear c3b0
   try clear c3b1
   try clear c3b2
   obtain ⟨x5_1, rfl, HA, HK1, HB⟩ := hrel
   cases gk with
   | zero => exact absurd HA.out (by simp [laws_eqENodeS.l0])
   | succ k1 =>
    have H := HA.out
    clear HA
    simp only [laws_eqENodeS.l0] at H
    by_cases c4 : x5_1 < (l0.length : Int)
    ·rw [if_pos c4] at H
     have c4b0 : decide (x5_1 < (l0.length : Int)) = true := decide_eq_true c4
     clear c4
     by_cases c5 : 0 ≤ x5_1
     ·rw [if_pos c5] at H
      have c5b0 : decide (0 ≤ x5_1) = true := decide_eq_true c5
      clear c5
      by_cases c6 : x5_1 < (l1.length : Int)
      ·rw [if_pos c6] at H
       have c6b0 : decide (x5_1 < (l1.length : Int)) = true := decide_eq_true c6
       clear c6
       obtain ⟨t295, A70, H⟩ := Option.bind_eq_some_iff.mp H
       have A7 := Aside0.mk A70
       clear A70
       by_cases c8 : t295 = true
       ·subst c8
        rw [if_pos rfl] at H
        have H' := Aside0.mk H
        clear H
        try go_wp2
        have n0_ := Aside0.mk (below_drew1 HB.out)
        clear HB
        have HB := n0_
        clear n0_
        have p293 : 0 ≤ (x5_1 : Int) := of_decide_eq_true (za _)
        have q293 : x5_1 < (l0.length : Int) := of_decide_eq_true (za _)
        obtain ⟨ad293, e293, hx293_0, hx293_1, hx293_2⟩ := at_T74 HR0.out x5_1 p293 q293
        have hw293_2 := hx293_2
        have hw293_1 := hx293_1
        have hw293_0 := hx293_0
        cases e293
        replace hx293_0 := (HB.out.cell (World.block_lt_of_cell? w _ hx293_0)).trans hx293_0
        replace hx293_1 := (HB.out.cell (World.block_lt_of_cell? w _ hx293_1)).trans hx293_1
        replace hx293_2 := (HB.out.cell (World.block_lt_of_cell? w _ hx293_2)).trans hx293_2
        replace p293 := eq_true p293
        replace q293 := eq_true q293
        have p294 : 0 ≤ (x5_1 : Int) := of_decide_eq_true (za _)
        have q294 : x5_1 < (l1.length : Int) := of_decide_eq_true (za _)
        obtain ⟨ad294, e294, hx294_0, hx294_1, hx294_2⟩ := at_T74 HR1.out x5_1 p294 q294
        have hw294_2 := hx294_2
        have hw294_1 := hx294_1
        have hw294_0 := hx294_0
        cases e294
        replace hx294_0 := (HB.out.cell (World.block_lt_of_cell? w _ hx294_0)).trans hx294_0
        replace hx294_1 := (HB.out.cell (World.block_lt_of_cell? w _ hx294_1)).trans hx294_1
        replace hx294_2 := (HB.out.cell (World.block_lt_of_cell? w _ hx294_2)).trans hx294_2
        replace p294 := eq_true p294
        replace q294 := eq_true q294
        refine start_ (n := 10) (S := fun w' => w'.cell? (ad293.add ((x5_1).toNat * 3)) = some (.int .i64 ((rd_T74 l0 x5_1).f0)) ∧ w'.cell? ⟨(ad293.add ((x5_1).toNat * 3)).block, (ad293.add ((x5_1).toNat * 3)).off + 1, none⟩ = some (.int .i64 ((rd_T74 l0 x5_1).f1)) ∧ w'.cell? ⟨(ad293.add ((x5_1).toNat * 3)).block, (ad293.add ((x5_1).toNat * 3)).off + 2, none⟩ = some (.string ((rd_T74 l0 x5_1).f2)) ∧ w'.cell? (ad294.add ((x5_1).toNat * 3)) = some (.int .i64 ((rd_T74 l1 x5_1).f0)) ∧ w'.cell? ⟨(ad294.add ((x5_1).toNat * 3)).block, (ad294.add ((x5_1).toNat * 3)).off + 1, none⟩ = some (.int .i64 ((rd_T74 l1 x5_1).f1)) ∧ w'.cell? ⟨(ad294.add ((x5_1).toNat * 3)).block, (ad294.add ((x5_1).toNat * 3)).off + 2, none⟩ = some (.string ((rd_T74 l1 x5_1).f2))) (ds := []) (zm 10 0) (by kernel_rfl) rfl rfl ⟨((HB.out.cell (World.block_lt_of_cell? w _ hw293_0)).trans hw293_0), ((HB.out.cell (World.block_lt_of_cell? w _ hw293_1)).trans hw293_1), ((HB.out.cell (World.block_lt_of_cell? w _ hw293_2)).trans hw293_2), ((HB.out.cell (World.block_lt_of_cell? w _ hw294_0)).trans hw294_0), ((HB.out.cell (World.block_lt_of_cell? w _ hw294_1)).trans hw294_1), ((HB.out.cell (World.block_lt_of_cell? w _ hw294_2)).trans hw294_2)⟩ (fun hHeld => ?_); refine with_tabW laws_eqENodeS.tab6 laws_eqENodeS.bits6 (fun HT_ HW_ => ?_)
        generalize wr.drew = w9 at HB hx293_0 hx293_1 hx293_2 hx294_0 hx294_1 hx294_2 hHeld ⊢
        refine zp 0 17 (zm 10 1) ?_
        refine zp 1 18 (zm 10 3) ?_
        refine zp 2 19 (zm 10 7) ?_
        refine zp 4 21 (zm 10 23) ?_
        refine zp 5 22 (zm 10 55) ?_
        refine zp 6 23 (zm 10 119) ?_
        refine take_ (i := 3) (N := some 20) (v := ?_) (a' := ?_) (zm 10 127) rfl rfl (take_ofW HT_.out HW_.out (by kernel_rfl)) (fun _ _ _ h => h) (Or.inl ⟨by rfl, ?_⟩) hHeld ?_ ?_
        rotate_left
        ·rintro w' ⟨s0, s1, s2, s3, s4, s5⟩
         go_simp
         with_reducible rfl
        rotate_left
        ·simp only [Act.put, List.setIfInBounds_toArray, List.set_cons_zero, List.set_cons_succ, i64_w, i32_w]
         rfl
        refine take_ (i := 7) (N := some 24) (v := ?_) (a' := ?_) (zm 10 255) rfl rfl (take_ofW HT_.out HW_.out (by kernel_rfl)) (fun _ _ _ h => h) (Or.inl ⟨by rfl, ?_⟩) hHeld ?_ ?_
        rotate_left
        ·rintro w' ⟨s0, s1, s2, s3, s4, s5⟩
         go_simp
         with_reducible rfl
        rotate_left
        ·simp only [Act.put, List.setIfInBounds_toArray, List.set_cons_zero, List.set_cons_succ, i64_w, i32_w]
         rfl
        refine one_ (i := 8) (N := some 25) (zm 10 511) rfl rfl (one_of HT_.out (by kernel_rfl)) (by decide) (fun K hK => ?_)
        refine zi Try.func63 #[.agg #[.int .i64 ((rd_T74 l0 x5_1).f0), .int .i64 ((rd_T74 l0 x5_1).f1), .string ((rd_T74 l0 x5_1).f2)], .agg #[.int .i64 ((rd_T74 l1 x5_1).f0), .int .i64 ((rd_T74 l1 x5_1).f1), .string ((rd_T74 l1 x5_1).f2)]] ?_
        with_reducible refine (laws_eqENode.calls ((rd_T74 l0 x5_1).f0) ((rd_T74 l0 x5_1).f1) ((rd_T74 l0 x5_1).f2) ((rd_T74 l1 x5_1).f0) ((rd_T74 l1 x5_1).f1) ((rd_T74 l1 x5_1).f2) true _ A7.out).mono ?_
        rintro e w10 ⟨rfl, hb⟩
        refine ⟨_, rfl, ?_⟩
        have n0_ := zt w hb
        clear HB
        have HB := n0_
        clear n0_
        (try clear hb)
        (try clear hb2)
        (try clear hk)
        (try clear hi)
        refine hK.out _ _ ⟨((HB.out.cell (World.block_lt_of_cell? w _ hw293_0)).trans hw293_0), ((HB.out.cell (World.block_lt_of_cell? w _ hw293_1)).trans hw293_1), ((HB.out.cell (World.block_lt_of_cell? w _ hw293_2)).trans hw293_2), ((HB.out.cell (World.block_lt_of_cell? w _ hw294_0)).trans hw294_0), ((HB.out.cell (World.block_lt_of_cell? w _ hw294_1)).trans hw294_1), ((HB.out.cell (World.block_lt_of_cell? w _ hw294_2)).trans hw294_2)⟩ (fun hHeld => ?_)
        clear hK K
        refine zq ?_
        refine zp 9 26 (zm 10 1023) ?_
        refine done_ (done_of HT_.out (by kernel_rfl)) ?_
        try go_wp2
        go_roundg k1
        case measure => have := HK1.out; omega
        case rel => exact ⟨(wrap64 (x5_1 + 1)), (zE _), H', ⟨by have := HK1.out; omega⟩, ⟨zb _⟩⟩
       ·replace c8 := Bool.eq_false_iff.mpr c8
        subst c8
        rw [if_neg (show ¬ (false = true) by decide)] at H
        obtain rfl := Option.some.inj H
        try go_wp2
        have n0_ := Aside0.mk (below_drew1 HB.out)
        clear HB
        have HB := n0_
        clear n0_
        have p293 : 0 ≤ (x5_1 : Int) := of_decide_eq_true (za _)
        have q293 : x5_1 < (l0.length : Int) := of_decide_eq_true (za _)
        obtain ⟨ad293, e293, hx293_0, hx293_1, hx293_2⟩ := at_T74 HR0.out x5_1 p293 q293
        have hw293_2 := hx293_2
        have hw293_1 := hx293_1
        have hw293_0 := hx293_0
        cases e293
        replace hx293_0 := (HB.out.cell (World.block_lt_of_cell? w _ hx293_0)).trans hx293_0
        replace hx293_1 := (HB.out.cell (World.block_lt_of_cell? w _ hx293_1)).trans hx293_1
        replace hx293_2 := (HB.out.cell (World.block_lt_of_cell? w _ hx293_2)).trans hx293_2
        replace p293 := eq_true p293
        replace q293 := eq_true q293
        have p294 : 0 ≤ (x5_1 : Int) := of_decide_eq_true (za _)
        have q294 : x5_1 < (l1.length : Int) := of_decide_eq_true (za _)
        obtain ⟨ad294, e294, hx294_0, hx294_1, hx294_2⟩ := at_T74 HR1.out x5_1 p294 q294
        have hw294_2 := hx294_2
        have hw294_1 := hx294_1
        have hw294_0 := hx294_0
        cases e294
        replace hx294_0 := (HB.out.cell (World.block_lt_of_cell? w _ hx294_0)).trans hx294_0
        replace hx294_1 := (HB.out.cell (World.block_lt_of_cell? w _ hx294_1)).trans hx294_1
        replace hx294_2 := (HB.out.cell (World.block_lt_of_cell? w _ hx294_2)).trans hx294_2
        replace p294 := eq_true p294
        replace q294 := eq_true q294
        refine start_ (n := 10) (S := fun w' => w'.cell? (ad293.add ((x5_1).toNat * 3)) = some (.int .i64 ((rd_T74 l0 x5_1).f0)) ∧ w'.cell? ⟨(ad293.add ((x5_1).toNat * 3)).block, (ad293.add ((x5_1).toNat * 3)).off + 1, none⟩ = some (.int .i64 ((rd_T74 l0 x5_1).f1)) ∧ w'.cell? ⟨(ad293.add ((x5_1).toNat * 3)).block, (ad293.add ((x5_1).toNat * 3)).off + 2, none⟩ = some (.string ((rd_T74 l0 x5_1).f2)) ∧ w'.cell? (ad294.add ((x5_1).toNat * 3)) = some (.int .i64 ((rd_T74 l1 x5_1).f0)) ∧ w'.cell? ⟨(ad294.add ((x5_1).toNat * 3)).block, (ad294.add ((x5_1).toNat * 3)).off + 1, none⟩ = some (.int .i64 ((rd_T74 l1 x5_1).f1)) ∧ w'.cell? ⟨(ad294.add ((x5_1).toNat * 3)).block, (ad294.add ((x5_1).toNat * 3)).off + 2, none⟩ = some (.string ((rd_T74 l1 x5_1).f2))) (ds := []) (zm 10 0) (by kernel_rfl) rfl rfl ⟨((HB.out.cell (World.block_lt_of_cell? w _ hw293_0)).trans hw293_0), ((HB.out.cell (World.block_lt_of_cell? w _ hw293_1)).trans hw293_1), ((HB.out.cell (World.block_lt_of_cell? w _ hw293_2)).trans hw293_2), ((HB.out.cell (World.block_lt_of_cell? w _ hw294_0)).trans hw294_0), ((HB.out.cell (World.block_lt_of_cell? w _ hw294_1)).trans hw294_1), ((HB.out.cell (World.block_lt_of_cell? w _ hw294_2)).trans hw294_2)⟩ (fun hHeld => ?_); refine with_tabW laws_eqENodeS.tab6 laws_eqENodeS.bits6 (fun HT_ HW_ => ?_)
        generalize wr.drew = w11 at HB hx293_0 hx293_1 hx293_2 hx294_0 hx294_1 hx294_2 hHeld ⊢
        refine zp 0 17 (zm 10 1) ?_
        refine zp 1 18 (zm 10 3) ?_
        refine zp 2 19 (zm 10 7) ?_
        refine zp 4 21 (zm 10 23) ?_
        refine zp 5 22 (zm 10 55) ?_
        refine zp 6 23 (zm 10 119) ?_
        refine take_ (i := 3) (N := some 20) (v := ?_) (a' := ?_) (zm 10 127) rfl rfl (take_ofW HT_.out HW_.out (by kernel_rfl)) (fun _ _ _ h => h) (Or.inl ⟨by rfl, ?_⟩) hHeld ?_ ?_
        rotate_left
        ·rintro w' ⟨s0, s1, s2, s3, s4, s5⟩
         go_simp
         with_reducible rfl
        rotate_left
        ·simp only [Act.put, List.setIfInBounds_toArray, List.set_cons_zero, List.set_cons_succ, i64_w, i32_w]
         rfl
        refine take_ (i := 7) (N := some 24) (v := ?_) (a' := ?_) (zm 10 255) rfl rfl (take_ofW HT_.out HW_.out (by kernel_rfl)) (fun _ _ _ h => h) (Or.inl ⟨by rfl, ?_⟩) hHeld ?_ ?_
        rotate_left
        ·rintro w' ⟨s0, s1, s2, s3, s4, s5⟩
         go_simp
         with_reducible rfl
        rotate_left
        ·simp only [Act.put, List.setIfInBounds_toArray, List.set_cons_zero, List.set_cons_succ, i64_w, i32_w]
         rfl
        refine one_ (i := 8) (N := some 25) (zm 10 511) rfl rfl (one_of HT_.out (by kernel_rfl)) (by decide) (fun K hK => ?_)
        refine zi Try.func63 #[.agg #[.int .i64 ((rd_T74 l0 x5_1).f0), .int .i64 ((rd_T74 l0 x5_1).f1), .string ((rd_T74 l0 x5_1).f2)], .agg #[.int .i64 ((rd_T74 l1 x5_1).f0), .int .i64 ((rd_T74 l1 x5_1).f1), .string ((rd_T74 l1 x5_1).f2)]] ?_
        with_reducible refine (laws_eqENode.calls ((rd_T74 l0 x5_1).f0) ((rd_T74 l0 x5_1).f1) ((rd_T74 l0 x5_1).f2) ((rd_T74 l1 x5_1).f0) ((rd_T74 l1 x5_1).f1) ((rd_T74 l1 x5_1).f2) false _ A7.out).mono ?_
        rintro e w12 ⟨rfl, hb⟩
        refine ⟨_, rfl, ?_⟩
        have n0_ := zt w hb
        clear HB
        have HB := n0_
        clear n0_
        (try clear hb)
        (try clear hb2)
        (try clear hk)
        (try clear hi)
        refine hK.out _ _ ⟨((HB.out.cell (World.block_lt_of_cell? w _ hw293_0)).trans hw293_0), ((HB.out.cell (World.block_lt_of_cell? w _ hw293_1)).trans hw293_1), ((HB.out.cell (World.block_lt_of_cell? w _ hw293_2)).trans hw293_2), ((HB.out.cell (World.block_lt_of_cell? w _ hw294_0)).trans hw294_0), ((HB.out.cell (World.block_lt_of_cell? w _ hw294_1)).trans hw294_1), ((HB.out.cell (World.block_lt_of_cell? w _ hw294_2)).trans hw294_2)⟩ (fun hHeld => ?_)
        clear hK K
        refine zq ?_
        refine zp 9 26 (zm 10 1023) ?_
        refine done_ (done_of HT_.out (by kernel_rfl)) ?_
        try go_wp2
        go_ret
        exact ⟨ze _, zb _⟩
      ·rw [if_neg c6] at H
       exact absurd H (by simp)
     ·rw [if_neg c5] at H
      exact absurd H (by simp)
    ·rw [if_neg c4] at H
     have c4b0 : decide (x5_1 < (l0.length : Int)) = false := decide_eq_false c4
     clear c4
     obtain rfl := Option.some.inj H
     go_wp2
     go_ret
     exact ⟨ze _, zb _⟩
 ·rw [if_neg c3] at H
  have c3b0 : ((l0.length : Int) == (l1.length : Int)) = false := beq_eq_false_iff_ne.mpr c3
  have c3b1 : ((l0.length : Int) != (l1.length : Int)) = true := bne_iff_ne.mpr c3
  have c3b2 : (l0.length == l1.length) = false := by first | simpa using c3 | (simp at c3 ⊢; omega)
  obtain rfl := Option.some.inj H
  go_enter Try.func52, Try.ntmps52
  go_wp2
  go_ret
  exact ⟨ze _, zb _⟩

/-! ### laws_eqPatch: function 72 -/
def laws_eqPatch.f (k : Nat) (a0_0 : Int) (a0_1 : Int) (l0_2 : List (S74)) (a1_0 : Int) (a1_1 : Int) (l1_2 : List (S74)) : Option (Bool) := if a0_0 = a1_0 then (if a0_1 = a1_1 then ((laws_eqENodeS.f k l0_2 l1_2).bind fun t298 => (if t298 = true then (some true) else (some false))) else (some false)) else (some false)
theorem laws_eqPatch.mono : ∀ a0 a1 a2 a3 a4 a5 k, LeO (laws_eqPatch.f k a0 a1 a2 a3 a4 a5) (laws_eqPatch.f (k + 1) a0 a1 a2 a3 a4 a5) := by
  intro a0 a1 a2 a3 a4 a5 k
  unfold laws_eqPatch.f
  repeat' first
      | (with_reducible exact laws_eqENodeS.mono _ _ _)
      | (with_reducible exact LeO.refl _)
      | (with_reducible exact LeO.none _)
      | (with_reducible refine LeO.ite ?_ ?_)
      | (with_reducible refine LeO.bind ?_ (fun _ => ?_))
      | exact laws_eqENodeS.mono _ _ _
      | exact LeO.none _
      | refine LeO.ite ?_ ?_
      | refine LeO.bind ?_ (fun _ => ?_)
set_option maxHeartbeats 8000000 in
set_option maxRecDepth 100000 in
theorem laws_eqPatch.calls (k : Nat) (a0_0 : Int) (a0_1 : Int) (A0_2 : Option Addr) (c0_2 : Nat) (l0_2 : List (S74)) (a1_0 : Int) (a1_1 : Int) (A1_2 : Option Addr) (c1_2 : Nat) (l1_2 : List (S74)) (r : Bool) (w : World) (hr0_2 : Kd.C k74 w A0_2 l0_2.length l0_2) (hc0_2 : l0_2.length ≤ c0_2) (hr1_2 : Kd.C k74 w A1_2 l1_2.length l1_2) (hc1_2 : l1_2.length ≤ c1_2) (h : laws_eqPatch.f k a0_0 a0_1 l0_2 a1_0 a1_1 l1_2 = some r) :
 Calls Try.prog 72 #[.agg #[.int .i64 a0_0, .int .i64 a0_1, .slice A0_2 l0_2.length c0_2], .agg #[.int .i64 a1_0, .int .i64 a1_1, .slice A1_2 l1_2.length c1_2]] w fun e w' => e = .returned (.bool r) ∧ Below w.heap.size w w' := by
 have hu70 := Try.underlying70
 have HR0_2 := Aside0.mk hr0_2
 have HC0_2 := Aside0.mk hc0_2
 clear hr0_2 hc0_2
 have HR1_2 := Aside0.mk hr1_2
 have HC1_2 := Aside0.mk hc1_2
 clear hr1_2 hc1_2
 have HB := Aside0.mk (Below.refl w.heap.size w)
 have H : (if a0_0 = a1_0 then (if a0_1 = a1_1 then ((laws_eqENodeS.f k l0_2 l1_2).bind fun t298 => (if t298 = true then (some true) else (some false))) else (some false)) else (some false)) = some r := h
 clear h
 by_cases c3 : a0_0 = a1_0
 ·rw [if_pos c3] at H
  have c3b0 : (a0_0 == a1_0) = true := beq_iff_eq.mpr c3
  have c3b1 : (a0_0 != a1_0) = false := bne_eq_false_iff_eq.mpr c3
  clear c3
  by_cases c4 : a0_1 = a1_1
  ·rw [if_pos c4] at H
   have c4b0 : (a0_1 == a1_1) = true := beq_iff_eq.mpr c4
   have c4b1 : (a0_1 != a1_1) = false := bne_eq_false_iff_eq.mpr c4
   clear c4
   obtain ⟨t298, A50, H⟩ := Option.bind_eq_some_iff.mp H
   have A5 := Aside0.mk A50
   clear A50
   by_cases c6 : t298 = true
   ·subst c6
    rw [if_pos rfl] at H
    obtain rfl := Option.some.inj H
    go_enter Try.func72, Try.ntmps72
    go_wp2_with (first | ((with_reducible refine gate_dst (N := 2) rfl ?_); refine zbx 2 #[.int .i64 a0_0, .int .i64 a0_1, .slice A0_2 l0_2.length c0_2] 70 ?_; intro gb296 hg w7 hbox hb; have BK296 := Aside0.mk (hbox); have GW296 := zs w hg; have GE296 := GW296; replace HB := zt w hb; clear hb hbox hg) | ((with_reducible refine gate_dst (N := 3) rfl ?_); refine zbx 3 #[.int .i64 a1_0, .int .i64 a1_1, .slice A1_2 l1_2.length c1_2] 70 ?_; intro gb297 hg w8 hbox hb; have BK297 := Aside0.mk (hbox); have GW297 := zs w hg; have GE297 := GW297; have NB296_297 := zlt BK296 hg; have NB297_296 := zgt (zlt BK296 hg); replace BK296 := zk BK296 hb; replace HB := zt w hb; clear hb hbox hg; have hnb9 := NB296_297.out; have hnc9 := NB297_296.out; have hcz10_0 := zc0 BK296; have hcz10_1 := zc1 BK296; have hcz10_2 := zc2 BK296; have hfz10_0 := blk_frozen BK296.out 0; have hfz10_1 := blk_frozen BK296.out 1; have hfz10_2 := blk_frozen BK296.out 2; have hcz11_0 := zc0 BK297; have hcz11_1 := zc1 BK297; have hcz11_2 := zc2 BK297; have hfz11_0 := blk_frozen BK297.out 0; have hfz11_1 := blk_frozen BK297.out 1; have hfz11_2 := blk_frozen BK297.out 2) | ((with_reducible refine gate_callee (f := 52) rfl ?_); refine zc (some 19) Try.func52 #[.slice A0_2 l0_2.length c0_2, .slice A1_2 l1_2.length c1_2] ?_; (with_reducible refine (laws_eqENodeS.calls k _ _ l0_2 _ _ l1_2 true _ ?side1 ?side2 ?side3 ?side4 A5.out).mono ?_); (case side1 => repeat (first | exact (Kd.C_below HR0_2.out HB.out) | (with_reducible refine Kd.C_alloc ?_ _) | (with_reducible refine Kd.C_drewN ?_ _) | (with_reducible refine Kd.C_drew ?_))); (case side2 => exact HC0_2.out); (case side3 => repeat (first | exact (Kd.C_below HR1_2.out HB.out) | (with_reducible refine Kd.C_alloc ?_ _) | (with_reducible refine Kd.C_drewN ?_ _) | (with_reducible refine Kd.C_drew ?_))); (case side4 => exact HC1_2.out); rintro e w12 ⟨rfl, hb⟩; refine ⟨_, rfl, ?_⟩; replace BK296 := zk BK296 hb; replace BK297 := zk BK297 hb; replace HB := zt w hb; (try clear hb); (try clear hb2); (try clear hk); (try clear hi)))
    go_ret
    exact ⟨ze _, zb _⟩
   ·replace c6 := Bool.eq_false_iff.mpr c6
    subst c6
    rw [if_neg (show ¬ (false = true) by decide)] at H
    obtain rfl := Option.some.inj H
    go_enter Try.func72, Try.ntmps72
    go_wp2_with (first | ((with_reducible refine gate_dst (N := 2) rfl ?_); refine zbx 2 #[.int .i64 a0_0, .int .i64 a0_1, .slice A0_2 l0_2.length c0_2] 70 ?_; intro gb296 hg w13 hbox hb; have BK296 := Aside0.mk (hbox); have GW296 := zs w hg; have GE296 := GW296; replace HB := zt w hb; clear hb hbox hg) | ((with_reducible refine gate_dst (N := 3) rfl ?_); refine zbx 3 #[.int .i64 a1_0, .int .i64 a1_1, .slice A1_2 l1_2.length c1_2] 70 ?_; intro gb297 hg w14 hbox hb; have BK297 := Aside0.mk (hbox); have GW297 := zs w hg; have GE297 := GW297; have NB296_297 := zlt BK296 hg; have NB297_296 := zgt (zlt BK296 hg); replace BK296 := zk BK296 hb; replace HB := zt w hb; clear hb hbox hg; have hnb15 := NB296_297.out; have hnc15 := NB297_296.out; have hcz16_0 := zc0 BK296; have hcz16_1 := zc1 BK296; have hcz16_2 := zc2 BK296; have hfz16_0 := blk_frozen BK296.out 0; have hfz16_1 := blk_frozen BK296.out 1; have hfz16_2 := blk_frozen BK296.out 2; have hcz17_0 := zc0 BK297; have hcz17_1 := zc1 BK297; have hcz17_2 := zc2 BK297; have hfz17_0 := blk_frozen BK297.out 0; have hfz17_1 := blk_frozen BK297.out 1; have hfz17_2 := blk_frozen BK297.out 2) | ((with_reducible refine gate_callee (f := 52) rfl ?_); refine zc (some 19) Try.func52 #[.slice A0_2 l0_2.length c0_2, .slice A1_2 l1_2.length c1_2] ?_; (with_reducible refine (laws_eqENodeS.calls k _ _ l0_2 _ _ l1_2 false _ ?side1 ?side2 ?side3 ?side4 A5.out).mono ?_); (case side1 => repeat (first | exact (Kd.C_below HR0_2.out HB.out) | (with_reducible refine Kd.C_alloc ?_ _) | (with_reducible refine Kd.C_drewN ?_ _) | (with_reducible refine Kd.C_drew ?_))); (case side2 => exact HC0_2.out); (case side3 => repeat (first | exact (Kd.C_below HR1_2.out HB.out) | (with_reducible refine Kd.C_alloc ?_ _) | (with_reducible refine Kd.C_drewN ?_ _) | (with_reducible refine Kd.C_drew ?_))); (case side4 => exact HC1_2.out); rintro e w18 ⟨rfl, hb⟩; refine ⟨_, rfl, ?_⟩; replace BK296 := zk BK296 hb; replace BK297 := zk BK297 hb; replace HB := zt w hb; (try clear hb); (try clear hb2); (try clear hk); (try clear hi)))
    go_ret
    exact ⟨ze _, zb _⟩
  ·rw [if_neg c4] at H
   have c4b0 : (a0_1 == a1_1) = false := beq_eq_false_iff_ne.mpr c4
   have c4b1 : (a0_1 != a1_1) = true := bne_iff_ne.mpr c4
   obtain rfl := Option.some.inj H
   go_enter Try.func72, Try.ntmps72
   go_wp2_with (first | ((with_reducible refine gate_dst (N := 2) rfl ?_); refine zbx 2 #[.int .i64 a0_0, .int .i64 a0_1, .slice A0_2 l0_2.length c0_2] 70 ?_; intro gb296 hg w19 hbox hb; have BK296 := Aside0.mk (hbox); have GW296 := zs w hg; have GE296 := GW296; replace HB := zt w hb; clear hb hbox hg) | ((with_reducible refine gate_dst (N := 3) rfl ?_); refine zbx 3 #[.int .i64 a1_0, .int .i64 a1_1, .slice A1_2 l1_2.length c1_2] 70 ?_; intro gb297 hg w20 hbox hb; have BK297 := Aside0.mk (hbox); have GW297 := zs w hg; have GE297 := GW297; have NB296_297 := zlt BK296 hg; have NB297_296 := zgt (zlt BK296 hg); replace BK296 := zk BK296 hb; replace HB := zt w hb; clear hb hbox hg; have hnb21 := NB296_297.out; have hnc21 := NB297_296.out; have hcz22_0 := zc0 BK296; have hcz22_1 := zc1 BK296; have hcz22_2 := zc2 BK296; have hfz22_0 := blk_frozen BK296.out 0; have hfz22_1 := blk_frozen BK296.out 1; have hfz22_2 := blk_frozen BK296.out 2; have hcz23_0 := zc0 BK297; have hcz23_1 := zc1 BK297; have hcz23_2 := zc2 BK297; have hfz23_0 := blk_frozen BK297.out 0; have hfz23_1 := blk_frozen BK297.out 1; have hfz23_2 := blk_frozen BK297.out 2))
   go_ret
   exact ⟨ze _, zb _⟩
 ·rw [if_neg c3] at H
  have c3b0 : (a0_0 == a1_0) = false := beq_eq_false_iff_ne.mpr c3
  have c3b1 : (a0_0 != a1_0) = true := bne_iff_ne.mpr c3
  obtain rfl := Option.some.inj H
  go_enter Try.func72, Try.ntmps72
  go_wp2_with (first | ((with_reducible refine gate_dst (N := 2) rfl ?_); refine zbx 2 #[.int .i64 a0_0, .int .i64 a0_1, .slice A0_2 l0_2.length c0_2] 70 ?_; intro gb296 hg w24 hbox hb; have BK296 := Aside0.mk (hbox); have GW296 := zs w hg; have GE296 := GW296; replace HB := zt w hb; clear hb hbox hg) | ((with_reducible refine gate_dst (N := 3) rfl ?_); refine zbx 3 #[.int .i64 a1_0, .int .i64 a1_1, .slice A1_2 l1_2.length c1_2] 70 ?_; intro gb297 hg w25 hbox hb; have BK297 := Aside0.mk (hbox); have GW297 := zs w hg; have GE297 := GW297; have NB296_297 := zlt BK296 hg; have NB297_296 := zgt (zlt BK296 hg); replace BK296 := zk BK296 hb; replace HB := zt w hb; clear hb hbox hg; have hnb26 := NB296_297.out; have hnc26 := NB297_296.out; have hcz27_0 := zc0 BK296; have hcz27_1 := zc1 BK296; have hcz27_2 := zc2 BK296; have hfz27_0 := blk_frozen BK296.out 0; have hfz27_1 := blk_frozen BK296.out 1; have hfz27_2 := blk_frozen BK296.out 2; have hcz28_0 := zc0 BK297; have hcz28_1 := zc1 BK297; have hcz28_2 := zc2 BK297; have hfz28_0 := blk_frozen BK297.out 0; have hfz28_1 := blk_frozen BK297.out 1; have hfz28_2 := blk_frozen BK297.out 2))
  go_ret
  exact ⟨ze _, zb _⟩

end Go.Proofs.Ytbbngeooodcbcaa.PFnExactObjectOk
