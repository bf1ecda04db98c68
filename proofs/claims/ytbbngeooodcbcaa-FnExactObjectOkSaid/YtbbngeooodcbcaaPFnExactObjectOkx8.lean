/- What the Go functions that the law FnExactObjectOk reaches compute, function by function, and that Go comes to just that. -/
import Derived.Test.YtbbngeooodcbcaaPFnExactObjectOkx0
import Derived.Test.YtbbngeooodcbcaaAidZ
import Derived.Test.YtbbngeooodcbcaaPFnExactObjectOkx6
import Derived.Test.YtbbngeooodcbcaaPFnExactObjectOkx7
namespace Go.Proofs.Ytbbngeooodcbcaa.PFnExactObjectOk
open Go.RowKit Go.Proofs.Ytbbngeooodcbcaa.Z Go.Proofs.YtbbngeooodcbcaaW.PrintWords Go.Proofs.YtbbngeooodcbcaaW.PrintLast Go.Proofs.YtbbngeooodcbcaaW.PrintMore
attribute [local go_sem] max2_int min2_int max_two min_two max_three min_three max_four min_four   -- for this text's walks alone
set_option linter.unusedVariables false
set_option linter.unusedSimpArgs false

/-! ### impl_ExprOk: function 25 -/
def impl_ExprOk.l0 : Nat → Int → List (S74) → Int → Int → Option (Bool)
  | 0, _, _, _, _ => none
  | k + 1, x3, x9, x10, x11 => if x11 < x10 then (if 0 ≤ x11 then (if x11 < (x9.length : Int) then ((impl_isNode.f k ((rd_T74 x9 x11).f0) ((rd_T74 x9 x11).f1) ((rd_T74 x9 x11).f2)).bind fun t263 => (if t263 = true then (if ((rd_T74 x9 x11).f0) ≤ 3 then (impl_ExprOk.l0 k (wrap64 (x3 + 1)) x9 x10 (wrap64 (x11 + 1))) else (if ((rd_T74 x9 x11).f0) ≤ 7 then (if x3 < 1 then (some false) else (impl_ExprOk.l0 k x3 x9 x10 (wrap64 (x11 + 1)))) else (if x3 < 2 then (some false) else (impl_ExprOk.l0 k (wrap64 (x3 - 1)) x9 x10 (wrap64 (x11 + 1)))))) else (some false))) else (none)) else (none)) else (some (x3 == 1))
def impl_ExprOk.f (k : Nat) (l0 : List (S74)) : Option (Bool) := if (l0.length : Int) > 30 then (some false) else (impl_ExprOk.l0 k 0 l0 (l0.length : Int) 0)
theorem impl_ExprOk.mono_l : ∀ k, (∀ y0 y1 y2 y3, LeO (impl_ExprOk.l0 k y0 y1 y2 y3) (impl_ExprOk.l0 (k + 1) y0 y1 y2 y3))
  | 0 => fun _ _ _ _ r h => by simp [impl_ExprOk.l0] at h
  | k + 1 => by
    have ih0 := impl_ExprOk.mono_l k
    · intro y0 y1 y2 y3
      unfold impl_ExprOk.l0
      repeat' first
      | (with_reducible exact ih0 _ _ _ _)
      | (with_reducible exact impl_isNode.mono _ _ _ _)
      | (with_reducible exact LeO.refl _)
      | (with_reducible exact LeO.none _)
      | (with_reducible refine LeO.ite ?_ ?_)
      | (with_reducible refine LeO.bind ?_ (fun _ => ?_))
      | exact ih0 _ _ _ _
      | exact impl_isNode.mono _ _ _ _
      | exact LeO.none _
      | refine LeO.ite ?_ ?_
      | refine LeO.bind ?_ (fun _ => ?_)
theorem impl_ExprOk.mono : ∀ a0 k, LeO (impl_ExprOk.f k a0) (impl_ExprOk.f (k + 1) a0) := by
  intro a0 k
  have ih0 := impl_ExprOk.mono_l k
  unfold impl_ExprOk.f
  repeat' first
      | (with_reducible exact ih0 _ _ _ _)
      | (with_reducible exact impl_isNode.mono _ _ _ _)
      | (with_reducible exact LeO.refl _)
      | (with_reducible exact LeO.none _)
      | (with_reducible refine LeO.ite ?_ ?_)
      | (with_reducible refine LeO.bind ?_ (fun _ => ?_))
      | exact ih0 _ _ _ _
      | exact impl_isNode.mono _ _ _ _
      | exact LeO.none _
      | refine LeO.ite ?_ ?_
      | refine LeO.bind ?_ (fun _ => ?_)
set_option maxHeartbeats 8000000 in
set_option maxRecDepth 100000 in
theorem impl_ExprOk.calls (k : Nat) (A0 : Option Addr) (c0 : Nat) (l0 : List (S74)) (r : Bool) (w : World) (hr0 : Kd.C k74 w A0 l0.length l0) (hc0 : l0.length ≤ c0) (h : impl_ExprOk.f k l0 = some r) :
 Calls Try.prog 25 #[.slice A0 l0.length c0] w fun e w' => e = .returned (.bool r) ∧ Below w.heap.size w w' := by
 have hu74 := Try.underlying74
 have HR0 := Aside0.mk hr0
 have HC0 := Aside0.mk hc0
 clear hr0 hc0
 have HB := Aside0.mk (Below.refl w.heap.size w)
 have H : (if (l0.length : Int) > 30 then (some false) else (impl_ExprOk.l0 k 0 l0 (l0.length : Int) 0)) = some r := h
 clear h
 by_cases c2 : (l0.length : Int) > 30
 ·rw [if_pos c2] at H
  have c2b0 : decide (30 < (l0.length : Int)) = true := decide_eq_true c2
  have c2b1 : decide (30 < l0.length) = true := decide_eq_true (by omega)
  clear c2
  obtain rfl := Option.some.inj H
  go_enter Try.func25, Try.ntmps25
  go_wp2
  go_ret
  exact ⟨ze _, zb _⟩
 ·rw [if_neg c2] at H
  have c2b0 : decide (30 < (l0.length : Int)) = false := decide_eq_false c2
  have c2b1 : decide (30 < l0.length) = false := decide_eq_false (by omega)
  clear c2
  have H' := Aside0.mk H
  clear H
  go_enter Try.func25, Try.ntmps25
  go_wp2
  go_loopg [3, 11] k (fun kq v3 v11 w' => ∃ (x3_1 : Int) (x11_1 : Int), v3 = .int .i64 x3_1 ∧ v11 = .int .i64 x11_1 ∧ Aside0 (impl_ExprOk.l0 kq x3_1 l0 (l0.length : Int) x11_1 = some r) ∧ Aside0 (kq ≤ k) ∧ Aside0 (Below w.heap.size w w'))
  case atStart => exact ⟨(0), (0), (zE _), (zE _), H', ⟨Nat.le_refl _⟩, ⟨zb _⟩⟩
  case round =>
   clear H'
   try clear c2
   try clear c2b0
   try clear c2b1
   try clear p2
   obtain ⟨x3_1, x11_1, rfl, rfl, HA, HK1, HB⟩ := hrel
   cases gk with
   | zero => exact absurd HA.out (by simp [impl_ExprOk.l0])
   | succ k1 =>
    have H := HA.out
    clear HA
    simp only [impl_ExprOk.l0] at H
    by_cases c3 : x11_1 < (l0.length : Int)
    ·rw [if_pos c3] at H
     have c3b0 : decide (x11_1 < (l0.length : Int)) = true := decide_eq_true c3
     clear c3
     by_cases c4 : 0 ≤ x11_1
     ·rw [if_pos c4] at H
      have c4b0 : decide (0 ≤ x11_1) = true := decide_eq_true c4
      clear c4
      by_cases c5 : x11_1 < (l0.length : Int)
      ·rw [if_pos c5] at H
       have c5b0 : decide (x11_1 < (l0.length : Int)) = true := decide_eq_true c5
       clear c5
       obtain ⟨t263, A60, H⟩ := Option.bind_eq_some_iff.mp H
       have A6 := Aside0.mk A60
       clear A60
       by_cases c7 : t263 = true
       ·subst c7
        rw [if_pos rfl] at H
        by_cases c8 : ((rd_T74 l0 x11_1).f0) ≤ 3
        ·rw [if_pos c8] at H
         have c8b0 : decide (((rd_T74 l0 x11_1).f0) ≤ 3) = true := decide_eq_true c8
         clear c8
         have H' := Aside0.mk H
         clear H
         have p261 : 0 ≤ (x11_1 : Int) := of_decide_eq_true (za _)
         have q261 : x11_1 < (l0.length : Int) := of_decide_eq_true (za _)
         obtain ⟨ad261, e261, hx261_0, hx261_1, hx261_2⟩ := at_T74 HR0.out x11_1 p261 q261
         cases e261
         replace hx261_0 := (HB.out.cell (World.block_lt_of_cell? w _ hx261_0)).trans hx261_0
         replace hx261_1 := (HB.out.cell (World.block_lt_of_cell? w _ hx261_1)).trans hx261_1
         replace hx261_2 := (HB.out.cell (World.block_lt_of_cell? w _ hx261_2)).trans hx261_2
         replace p261 := eq_true p261
         replace q261 := eq_true q261
         go_wp2_with (first | ((with_reducible refine gate_dst (N := 5) rfl ?_); refine zbx 5 #[.int .i64 0, .int .i64 0, .string (⟨#[]⟩ : ByteArray)] 74 ?_; intro gb262 hg w9 hbox hb; have BK262 := Aside0.mk (hbox); have GW262 := zs w hg; have GE262 := GW262; replace HB := zt w hb; clear hb hbox hg; have hcz10_0 := zc0 BK262; have hcz10_1 := zc1 BK262; have hcz10_2 := zc2 BK262; have hfz10_0 := blk_frozen BK262.out 0; have hfz10_1 := blk_frozen BK262.out 1; have hfz10_2 := blk_frozen BK262.out 2) | ((with_reducible refine gate_callee (f := 49) rfl ?_); refine zc (some 16) Try.func49 #[.agg #[.int .i64 ((rd_T74 l0 x11_1).f0), .int .i64 ((rd_T74 l0 x11_1).f1), .string ((rd_T74 l0 x11_1).f2)]] ?_; (with_reducible refine (impl_isNode.calls k1 ((rd_T74 l0 x11_1).f0) ((rd_T74 l0 x11_1).f1) ((rd_T74 l0 x11_1).f2) true _ A6.out).mono ?_); rintro e w11 ⟨rfl, hb⟩; refine ⟨_, rfl, ?_⟩; replace BK262 := zkw (g := gb262) (o := .cells #[.int .i64 ((rd_T74 l0 x11_1).f0), .int .i64 ((rd_T74 l0 x11_1).f1), .string ((rd_T74 l0 x11_1).f2)] 74 (0, 0)) hb; replace HB := zt w hb; (try clear hb); (try clear hb2); (try clear hk); (try clear hi); have hcz12_0 := zc0 BK262; have hcz12_1 := zc1 BK262; have hcz12_2 := zc2 BK262; have hfz12_0 := blk_frozen BK262.out 0; have hfz12_1 := blk_frozen BK262.out 1; have hfz12_2 := blk_frozen BK262.out 2))
         go_roundg k1
         case measure => have := HK1.out; omega
         case rel => exact ⟨(wrap64 (x3_1 + 1)), (wrap64 (x11_1 + 1)), (zE _), (zE _), H', ⟨by have := HK1.out; omega⟩, ⟨zb _⟩⟩
        ·rw [if_neg c8] at H
         have c8b0 : decide (((rd_T74 l0 x11_1).f0) ≤ 3) = false := decide_eq_false c8
         clear c8
         by_cases c13 : ((rd_T74 l0 x11_1).f0) ≤ 7
         ·rw [if_pos c13] at H
          have c13b0 : decide (((rd_T74 l0 x11_1).f0) ≤ 7) = true := decide_eq_true c13
          clear c13
          by_cases c14 : x3_1 < 1
          ·rw [if_pos c14] at H
           have c14b0 : decide (x3_1 < 1) = true := decide_eq_true c14
           clear c14
           obtain rfl := Option.some.inj H
           have p261 : 0 ≤ (x11_1 : Int) := of_decide_eq_true (za _)
           have q261 : x11_1 < (l0.length : Int) := of_decide_eq_true (za _)
           obtain ⟨ad261, e261, hx261_0, hx261_1, hx261_2⟩ := at_T74 HR0.out x11_1 p261 q261
           cases e261
           replace hx261_0 := (HB.out.cell (World.block_lt_of_cell? w _ hx261_0)).trans hx261_0
           replace hx261_1 := (HB.out.cell (World.block_lt_of_cell? w _ hx261_1)).trans hx261_1
           replace hx261_2 := (HB.out.cell (World.block_lt_of_cell? w _ hx261_2)).trans hx261_2
           replace p261 := eq_true p261
           replace q261 := eq_true q261
           go_wp2_with (first | ((with_reducible refine gate_dst (N := 5) rfl ?_); refine zbx 5 #[.int .i64 0, .int .i64 0, .string (⟨#[]⟩ : ByteArray)] 74 ?_; intro gb262 hg w15 hbox hb; have BK262 := Aside0.mk (hbox); have GW262 := zs w hg; have GE262 := GW262; replace HB := zt w hb; clear hb hbox hg; have hcz16_0 := zc0 BK262; have hcz16_1 := zc1 BK262; have hcz16_2 := zc2 BK262; have hfz16_0 := blk_frozen BK262.out 0; have hfz16_1 := blk_frozen BK262.out 1; have hfz16_2 := blk_frozen BK262.out 2) | ((with_reducible refine gate_callee (f := 49) rfl ?_); refine zc (some 16) Try.func49 #[.agg #[.int .i64 ((rd_T74 l0 x11_1).f0), .int .i64 ((rd_T74 l0 x11_1).f1), .string ((rd_T74 l0 x11_1).f2)]] ?_; (with_reducible refine (impl_isNode.calls k1 ((rd_T74 l0 x11_1).f0) ((rd_T74 l0 x11_1).f1) ((rd_T74 l0 x11_1).f2) true _ A6.out).mono ?_); rintro e w17 ⟨rfl, hb⟩; refine ⟨_, rfl, ?_⟩; replace BK262 := zkw (g := gb262) (o := .cells #[.int .i64 ((rd_T74 l0 x11_1).f0), .int .i64 ((rd_T74 l0 x11_1).f1), .string ((rd_T74 l0 x11_1).f2)] 74 (0, 0)) hb; replace HB := zt w hb; (try clear hb); (try clear hb2); (try clear hk); (try clear hi); have hcz18_0 := zc0 BK262; have hcz18_1 := zc1 BK262; have hcz18_2 := zc2 BK262; have hfz18_0 := blk_frozen BK262.out 0; have hfz18_1 := blk_frozen BK262.out 1; have hfz18_2 := blk_frozen BK262.out 2))
           go_ret
           exact ⟨ze _, zb _⟩
          ·rw [if_neg c14] at H
           have c14b0 : decide (x3_1 < 1) = false := decide_eq_false c14
           clear c14
           have H' := Aside0.mk H
           clear H
           have p261 : 0 ≤ (x11_1 : Int) := of_decide_eq_true (za _)
           have q261 : x11_1 < (l0.length : Int) := of_decide_eq_true (za _)
           obtain ⟨ad261, e261, hx261_0, hx261_1, hx261_2⟩ := at_T74 HR0.out x11_1 p261 q261
           cases e261
           replace hx261_0 := (HB.out.cell (World.block_lt_of_cell? w _ hx261_0)).trans hx261_0
           replace hx261_1 := (HB.out.cell (World.block_lt_of_cell? w _ hx261_1)).trans hx261_1
           replace hx261_2 := (HB.out.cell (World.block_lt_of_cell? w _ hx261_2)).trans hx261_2
           replace p261 := eq_true p261
           replace q261 := eq_true q261
           go_wp2_with (first | ((with_reducible refine gate_dst (N := 5) rfl ?_); refine zbx 5 #[.int .i64 0, .int .i64 0, .string (⟨#[]⟩ : ByteArray)] 74 ?_; intro gb262 hg w19 hbox hb; have BK262 := Aside0.mk (hbox); have GW262 := zs w hg; have GE262 := GW262; replace HB := zt w hb; clear hb hbox hg; have hcz20_0 := zc0 BK262; have hcz20_1 := zc1 BK262; have hcz20_2 := zc2 BK262; have hfz20_0 := blk_frozen BK262.out 0; have hfz20_1 := blk_frozen BK262.out 1; have hfz20_2 := blk_frozen BK262.out 2) | ((with_reducible refine gate_callee (f := 49) rfl ?_); refine zc (some 16) Try.func49 #[.agg #[.int .i64 ((rd_T74 l0 x11_1).f0), .int .i64 ((rd_T74 l0 x11_1).f1), .string ((rd_T74 l0 x11_1).f2)]] ?_; (with_reducible refine (impl_isNode.calls k1 ((rd_T74 l0 x11_1).f0) ((rd_T74 l0 x11_1).f1) ((rd_T74 l0 x11_1).f2) true _ A6.out).mono ?_); rintro e w21 ⟨rfl, hb⟩; refine ⟨_, rfl, ?_⟩; replace BK262 := zkw (g := gb262) (o := .cells #[.int .i64 ((rd_T74 l0 x11_1).f0), .int .i64 ((rd_T74 l0 x11_1).f1), .string ((rd_T74 l0 x11_1).f2)] 74 (0, 0)) hb; replace HB := zt w hb; (try clear hb); (try clear hb2); (try clear hk); (try clear hi); have hcz22_0 := zc0 BK262; have hcz22_1 := zc1 BK262; have hcz22_2 := zc2 BK262; have hfz22_0 := blk_frozen BK262.out 0; have hfz22_1 := blk_frozen BK262.out 1; have hfz22_2 := blk_frozen BK262.out 2))
           go_roundg k1
           case measure => have := HK1.out; omega
           case rel => exact ⟨(x3_1), (wrap64 (x11_1 + 1)), (zE _), (zE _), H', ⟨by have := HK1.out; omega⟩, ⟨zb _⟩⟩
         ·rw [if_neg c13] at H
          have c13b0 : decide (((rd_T74 l0 x11_1).f0) ≤ 7) = false := decide_eq_false c13
          clear c13
          by_cases c23 : x3_1 < 2
          ·rw [if_pos c23] at H
           have c23b0 : decide (x3_1 < 2) = true := decide_eq_true c23
           clear c23
           obtain rfl := Option.some.inj H
           have p261 : 0 ≤ (x11_1 : Int) := of_decide_eq_true (za _)
           have q261 : x11_1 < (l0.length : Int) := of_decide_eq_true (za _)
           obtain ⟨ad261, e261, hx261_0, hx261_1, hx261_2⟩ := at_T74 HR0.out x11_1 p261 q261
           cases e261
           replace hx261_0 := (HB.out.cell (World.block_lt_of_cell? w _ hx261_0)).trans hx261_0
           replace hx261_1 := (HB.out.cell (World.block_lt_of_cell? w _ hx261_1)).trans hx261_1
           replace hx261_2 := (HB.out.cell (World.block_lt_of_cell? w _ hx261_2)).trans hx261_2
           replace p261 := eq_true p261
           replace q261 := eq_true q261
           go_wp2_with (first | ((with_reducible refine gate_dst (N := 5) rfl ?_); refine zbx 5 #[.int .i64 0, .int .i64 0, .string (⟨#[]⟩ : ByteArray)] 74 ?_; intro gb262 hg w24 hbox hb; have BK262 := Aside0.mk (hbox); have GW262 := zs w hg; have GE262 := GW262; replace HB := zt w hb; clear hb hbox hg; have hcz25_0 := zc0 BK262; have hcz25_1 := zc1 BK262; have hcz25_2 := zc2 BK262; have hfz25_0 := blk_frozen BK262.out 0; have hfz25_1 := blk_frozen BK262.out 1; have hfz25_2 := blk_frozen BK262.out 2) | ((with_reducible refine gate_callee (f := 49) rfl ?_); refine zc (some 16) Try.func49 #[.agg #[.int .i64 ((rd_T74 l0 x11_1).f0), .int .i64 ((rd_T74 l0 x11_1).f1), .string ((rd_T74 l0 x11_1).f2)]] ?_; (with_reducible refine (impl_isNode.calls k1 ((rd_T74 l0 x11_1).f0) ((rd_T74 l0 x11_1).f1) ((rd_T74 l0 x11_1).f2) true _ A6.out).mono ?_); rintro e w26 ⟨rfl, hb⟩; refine ⟨_, rfl, ?_⟩; replace BK262 := zkw (g := gb262) (o := .cells #[.int .i64 ((rd_T74 l0 x11_1).f0), .int .i64 ((rd_T74 l0 x11_1).f1), .string ((rd_T74 l0 x11_1).f2)] 74 (0, 0)) hb; replace HB := zt w hb; (try clear hb); (try clear hb2); (try clear hk); (try clear hi); have hcz27_0 := zc0 BK262; have hcz27_1 := zc1 BK262; have hcz27_2 := zc2 BK262; have hfz27_0 := blk_frozen BK262.out 0; have hfz27_1 := blk_frozen BK262.out 1; have hfz27_2 := blk_frozen BK262.out 2))
           go_ret
           exact ⟨ze _, zb _⟩
          ·rw [if_neg c23] at H
           have c23b0 : decide (x3_1 < 2) = false := decide_eq_false c23
           clear c23
           have H' := Aside0.mk H
           clear H
           have p261 : 0 ≤ (x11_1 : Int) := of_decide_eq_true (za _)
           have q261 : x11_1 < (l0.length : Int) := of_decide_eq_true (za _)
           obtain ⟨ad261, e261, hx261_0, hx261_1, hx261_2⟩ := at_T74 HR0.out x11_1 p261 q261
           cases e261
           replace hx261_0 := (HB.out.cell (World.block_lt_of_cell? w _ hx261_0)).trans hx261_0
           replace hx261_1 := (HB.out.cell (World.block_lt_of_cell? w _ hx261_1)).trans hx261_1
           replace hx261_2 := (HB.out.cell (World.block_lt_of_cell? w _ hx261_2)).trans hx261_2
           replace p261 := eq_true p261
           replace q261 := eq_true q261
           go_wp2_with (first | ((with_reducible refine gate_dst (N := 5) rfl ?_); refine zbx 5 #[.int .i64 0, .int .i64 0, .string (⟨#[]⟩ : ByteArray)] 74 ?_; intro gb262 hg w28 hbox hb; have BK262 := Aside0.mk (hbox); have GW262 := zs w hg; have GE262 := GW262; replace HB := zt w hb; clear hb hbox hg; have hcz29_0 := zc0 BK262; have hcz29_1 := zc1 BK262; have hcz29_2 := zc2 BK262; have hfz29_0 := blk_frozen BK262.out 0; have hfz29_1 := blk_frozen BK262.out 1; have hfz29_2 := blk_frozen BK262.out 2) | ((with_reducible refine gate_callee (f := 49) rfl ?_); refine zc (some 16) Try.func49 #[.agg #[.int .i64 ((rd_T74 l0 x11_1).f0), .int .i64 ((rd_T74 l0 x11_1).f1), .string ((rd_T74 l0 x11_1).f2)]] ?_; (with_reducible refine (impl_isNode.calls k1 ((rd_T74 l0 x11_1).f0) ((rd_T74 l0 x11_1).f1) ((rd_T74 l0 x11_1).f2) true _ A6.out).mono ?_); rintro e w30 ⟨rfl, hb⟩; refine ⟨_, rfl, ?_⟩; replace BK262 := zkw (g := gb262) (o := .cells #[.int .i64 ((rd_T74 l0 x11_1).f0), .int .i64 ((rd_T74 l0 x11_1).f1), .string ((rd_T74 l0 x11_1).f2)] 74 (0, 0)) hb; replace HB := zt w hb; (try clear hb); (try clear hb2); (try clear hk); (try clear hi); have hcz31_0 := zc0 BK262; have hcz31_1 := zc1 BK262; have hcz31_2 := zc2 BK262; have hfz31_0 := blk_frozen BK262.out 0; have hfz31_1 := blk_frozen BK262.out 1; have hfz31_2 := blk_frozen BK262.out 2))
           go_roundg k1
           case measure => have := HK1.out; omega
           case rel => exact ⟨(wrap64 (x3_1 - 1)), (wrap64 (x11_1 + 1)), (zE _), (zE _), H', ⟨by have := HK1.out; omega⟩, ⟨zb _⟩⟩
       ·replace c7 := Bool.eq_false_iff.mpr c7
        subst c7
        rw [if_neg (show ¬ (false = true) by decide)] at H
        obtain rfl := Option.some.inj H
        have p261 : 0 ≤ (x11_1 : Int) := of_decide_eq_true (za _)
        have q261 : x11_1 < (l0.length : Int) := of_decide_eq_true (za _)
        obtain ⟨ad261, e261, hx261_0, hx261_1, hx261_2⟩ := at_T74 HR0.out x11_1 p261 q261
        cases e261
        replace hx261_0 := (HB.out.cell (World.block_lt_of_cell? w _ hx261_0)).trans hx261_0
        replace hx261_1 := (HB.out.cell (World.block_lt_of_cell? w _ hx261_1)).trans hx261_1
        replace hx261_2 := (HB.out.cell (World.block_lt_of_cell? w _ hx261_2)).trans hx261_2
        replace p261 := eq_true p261
        replace q261 := eq_true q261
        go_wp2_with (first | ((with_reducible refine gate_dst (N := 5) rfl ?_); refine zbx 5 #[.int .i64 0, .int .i64 0, .string (⟨#[]⟩ : ByteArray)] 74 ?_; intro gb262 hg w32 hbox hb; have BK262 := Aside0.mk (hbox); have GW262 := zs w hg; have GE262 := GW262; replace HB := zt w hb; clear hb hbox hg; have hcz33_0 := zc0 BK262; have hcz33_1 := zc1 BK262; have hcz33_2 := zc2 BK262; have hfz33_0 := blk_frozen BK262.out 0; have hfz33_1 := blk_frozen BK262.out 1; have hfz33_2 := blk_frozen BK262.out 2) | ((with_reducible refine gate_callee (f := 49) rfl ?_); refine zc (some 16) Try.func49 #[.agg #[.int .i64 ((rd_T74 l0 x11_1).f0), .int .i64 ((rd_T74 l0 x11_1).f1), .string ((rd_T74 l0 x11_1).f2)]] ?_; (with_reducible refine (impl_isNode.calls k1 ((rd_T74 l0 x11_1).f0) ((rd_T74 l0 x11_1).f1) ((rd_T74 l0 x11_1).f2) false _ A6.out).mono ?_); rintro e w34 ⟨rfl, hb⟩; refine ⟨_, rfl, ?_⟩; replace BK262 := zkw (g := gb262) (o := .cells #[.int .i64 ((rd_T74 l0 x11_1).f0), .int .i64 ((rd_T74 l0 x11_1).f1), .string ((rd_T74 l0 x11_1).f2)] 74 (0, 0)) hb; replace HB := zt w hb; (try clear hb); (try clear hb2); (try clear hk); (try clear hi)))
        go_ret
        exact ⟨ze _, zb _⟩
      ·rw [if_neg c5] at H
       exact absurd H (by simp)
     ·rw [if_neg c4] at H
      exact absurd H (by simp)
    ·rw [if_neg c3] at H
     have c3b0 : decide (x11_1 < (l0.length : Int)) = false := decide_eq_false c3
     clear c3
     obtain rfl := Option.some.inj H
     go_wp2
     go_ret
     exact ⟨ze _, zb _⟩

/-! ### impl_isPatch: function 47 -/
def impl_isPatch.f (k : Nat) (a0_0 : ByteArray) (a0_1 : Int) (a0_2 : Int) (a0_3 : Int) (a0_4 : ByteArray) (l0_5 : List (S70)) (a1_0 : Int) (a1_1 : Int) (l1_2 : List (S74)) : Option (Bool) := if a1_1 = 2 then ((impl_within.f a1_1 1 3).bind fun t266 => (if t266 = true then ((impl_within.f a1_0 0 (wrap64 ((a0_4.size : Int) - 2))).bind fun t267 => (if t267 = true then ((impl_ExprOk.f k l1_2).bind fun t268 => (some t268)) else (some false))) else (some false))) else ((impl_within.f a1_1 1 3).bind fun t269 => (if t269 = true then ((impl_within.f a1_0 0 (wrap64 ((a0_4.size : Int) - 1))).bind fun t270 => (if t270 = true then ((impl_ExprOk.f k l1_2).bind fun t271 => (some t271)) else (some false))) else (some false)))
theorem impl_isPatch.mono : ∀ a0 a1 a2 a3 a4 a5 a6 a7 a8 k, LeO (impl_isPatch.f k a0 a1 a2 a3 a4 a5 a6 a7 a8) (impl_isPatch.f (k + 1) a0 a1 a2 a3 a4 a5 a6 a7 a8) := by
  intro a0 a1 a2 a3 a4 a5 a6 a7 a8 k
  unfold impl_isPatch.f
  repeat' first
      | (with_reducible exact impl_ExprOk.mono _ _)
      | (with_reducible exact LeO.refl _)
      | (with_reducible exact LeO.none _)
      | (with_reducible refine LeO.ite ?_ ?_)
      | (with_reducible refine LeO.bind ?_ (fun _ => ?_))
      | exact impl_ExprOk.mono _ _
      | exact LeO.none _
      | refine LeO.ite ?_ ?_
      | refine LeO.bind ?_ (fun _ => ?_)
set_option maxHeartbeats 8000000 in
set_option maxRecDepth 100000 in
theorem impl_isPatch.calls (k : Nat) (a0_0 : ByteArray) (a0_1 : Int) (a0_2 : Int) (a0_3 : Int) (a0_4 : ByteArray) (A0_5 : Option Addr) (c0_5 : Nat) (l0_5 : List (S70)) (a1_0 : Int) (a1_1 : Int) (A1_2 : Option Addr) (c1_2 : Nat) (l1_2 : List (S74)) (r : Bool) (w : World) (hr0_5 : Kd.C k70 w A0_5 l0_5.length l0_5) (hc0_5 : l0_5.length ≤ c0_5) (hr1_2 : Kd.C k74 w A1_2 l1_2.length l1_2) (hc1_2 : l1_2.length ≤ c1_2) (h : impl_isPatch.f k a0_0 a0_1 a0_2 a0_3 a0_4 l0_5 a1_0 a1_1 l1_2 = some r) :
 Calls Try.prog 47 #[.agg #[.string a0_0, .int .i64 a0_1, .int .i64 a0_2, .int .i64 a0_3, .string a0_4, .slice A0_5 l0_5.length c0_5], .agg #[.int .i64 a1_0, .int .i64 a1_1, .slice A1_2 l1_2.length c1_2]] w fun e w' => e = .returned (.bool r) ∧ Below w.heap.size w w' := by
 have hu43 := Try.underlying43
 have hu70 := Try.underlying70
 have HR0_5 := Aside0.mk hr0_5
 have HC0_5 := Aside0.mk hc0_5
 clear hr0_5 hc0_5
 have HR1_2 := Aside0.mk hr1_2
 have HC1_2 := Aside0.mk hc1_2
 clear hr1_2 hc1_2
 have HB := Aside0.mk (Below.refl w.heap.size w)
 have H : (if a1_1 = 2 then ((impl_within.f a1_1 1 3).bind fun t266 => (if t266 = true then ((impl_within.f a1_0 0 (wrap64 ((a0_4.size : Int) - 2))).bind fun t267 => (if t267 = true then ((impl_ExprOk.f k l1_2).bind fun t268 => (some t268)) else (some false))) else (some false))) else ((impl_within.f a1_1 1 3).bind fun t269 => (if t269 = true then ((impl_within.f a1_0 0 (wrap64 ((a0_4.size : Int) - 1))).bind fun t270 => (if t270 = true then ((impl_ExprOk.f k l1_2).bind fun t271 => (some t271)) else (some false))) else (some false)))) = some r := h
 clear h
 by_cases c3 : a1_1 = 2
 ·rw [if_pos c3] at H
  have c3b0 : (a1_1 == 2) = true := beq_iff_eq.mpr c3
  have c3b1 : (a1_1 != 2) = false := bne_eq_false_iff_eq.mpr c3
  clear c3
  obtain ⟨t266, A40, H⟩ := Option.bind_eq_some_iff.mp H
  have A4 := Aside0.mk A40
  clear A40
  by_cases c5 : t266 = true
  ·subst c5
   rw [if_pos rfl] at H
   obtain ⟨t267, A60, H⟩ := Option.bind_eq_some_iff.mp H
   have A6 := Aside0.mk A60
   clear A60
   by_cases c7 : t267 = true
   ·subst c7
    rw [if_pos rfl] at H
    obtain ⟨t268, A80, H⟩ := Option.bind_eq_some_iff.mp H
    have A8 := Aside0.mk A80
    clear A80
    obtain rfl := Option.some.inj H
    go_enter Try.func47, Try.ntmps47
    go_wp2_with (first | ((with_reducible refine gate_dst (N := 2) rfl ?_); (try (refine gate_guard (by rfl) ?_; dsimp only)); refine zbx 2 #[.string a0_0, .int .i64 a0_1, .int .i64 a0_2, .int .i64 a0_3, .string a0_4, .slice A0_5 l0_5.length c0_5] 43 ?_; intro gb264 hg w9 hbox hb; have BK264 := Aside0.mk (hbox); have GW264 := zs w hg; have GE264 := GW264; replace HB := zt w hb; clear hb hbox hg) | ((with_reducible refine gate_dst (N := 3) rfl ?_); (try (refine gate_guard (by rfl) ?_; dsimp only)); refine zbx 3 #[.int .i64 a1_0, .int .i64 a1_1, .slice A1_2 l1_2.length c1_2] 70 ?_; intro gb265 hg w10 hbox hb; have BK265 := Aside0.mk (hbox); have GW265 := zs w hg; have GE265 := GW265; have NB264_265 := zlt BK264 hg; have NB265_264 := zgt (zlt BK264 hg); replace BK264 := zk BK264 hb; replace HB := zt w hb; clear hb hbox hg; have hnb11 := NB265_264.out; have hnc11 := NB264_265.out; have hcz12_0 := zc0 BK265; have hcz12_1 := zc1 BK265; have hcz12_2 := zc2 BK265; have hfz12_0 := blk_frozen BK265.out 0; have hfz12_1 := blk_frozen BK265.out 1; have hfz12_2 := blk_frozen BK265.out 2) | ((with_reducible refine gate_callee (f := 41) rfl ?_); refine zc (some 11) Try.func41 #[.int .i64 a1_1, .int .i64 1, .int .i64 3] ?_; (with_reducible refine (impl_within.calls a1_1 1 3 true _ A4.out).mono ?_); rintro e w' ⟨rfl, ⟨nd, rfl⟩⟩; refine ⟨_, rfl, ?_⟩; have hcz13_0 := zc0 BK264; have hcz13_1 := zc1 BK264; have hcz13_2 := zc2 BK264; have hcz13_3 := zc3 BK264; have hcz13_4 := zc4 BK264; have hcz13_5 := zc5 BK264; have hfz13_0 := blk_frozen BK264.out 0; have hfz13_1 := blk_frozen BK264.out 1; have hfz13_2 := blk_frozen BK264.out 2; have hfz13_3 := blk_frozen BK264.out 3; have hfz13_4 := blk_frozen BK264.out 4; have hfz13_5 := blk_frozen BK264.out 5) | (go_at_call 41; (with_reducible refine (impl_within.calls a1_0 0 (wrap64 ((a0_4.size : Int) - 2)) true _ A6.out).mono ?_); rintro e w' ⟨rfl, ⟨nd, rfl⟩⟩) | (go_at_call 25; (with_reducible refine (impl_ExprOk.calls k _ _ l1_2 t268 _ ?side1 ?side2 A8.out).mono ?_); (case side1 => repeat (first | exact (Kd.C_below HR1_2.out (zb _)) | (with_reducible refine Kd.C_alloc ?_ _) | (with_reducible refine Kd.C_drewN ?_ _) | (with_reducible refine Kd.C_drew ?_))); (case side2 => exact HC1_2.out); rintro e w14 ⟨rfl, hb⟩; replace BK264 := zk BK264 hb; replace BK265 := zk BK265 hb; replace HB := zt w hb; (try clear hb); (try clear hb2); (try clear hk); (try clear hi)))
    go_ret
    exact ⟨ze _, zb _⟩
   ·replace c7 := Bool.eq_false_iff.mpr c7
    subst c7
    rw [if_neg (show ¬ (false = true) by decide)] at H
    obtain rfl := Option.some.inj H
    go_enter Try.func47, Try.ntmps47
    go_wp2_with (first | ((with_reducible refine gate_dst (N := 2) rfl ?_); (try (refine gate_guard (by rfl) ?_; dsimp only)); refine zbx 2 #[.string a0_0, .int .i64 a0_1, .int .i64 a0_2, .int .i64 a0_3, .string a0_4, .slice A0_5 l0_5.length c0_5] 43 ?_; intro gb264 hg w15 hbox hb; have BK264 := Aside0.mk (hbox); have GW264 := zs w hg; have GE264 := GW264; replace HB := zt w hb; clear hb hbox hg) | ((with_reducible refine gate_dst (N := 3) rfl ?_); (try (refine gate_guard (by rfl) ?_; dsimp only)); refine zbx 3 #[.int .i64 a1_0, .int .i64 a1_1, .slice A1_2 l1_2.length c1_2] 70 ?_; intro gb265 hg w16 hbox hb; have BK265 := Aside0.mk (hbox); have GW265 := zs w hg; have GE265 := GW265; have NB264_265 := zlt BK264 hg; have NB265_264 := zgt (zlt BK264 hg); replace BK264 := zk BK264 hb; replace HB := zt w hb; clear hb hbox hg; have hnb17 := NB265_264.out; have hnc17 := NB264_265.out; have hcz18_0 := zc0 BK265; have hcz18_1 := zc1 BK265; have hcz18_2 := zc2 BK265; have hfz18_0 := blk_frozen BK265.out 0; have hfz18_1 := blk_frozen BK265.out 1; have hfz18_2 := blk_frozen BK265.out 2) | ((with_reducible refine gate_callee (f := 41) rfl ?_); refine zc (some 11) Try.func41 #[.int .i64 a1_1, .int .i64 1, .int .i64 3] ?_; (with_reducible refine (impl_within.calls a1_1 1 3 true _ A4.out).mono ?_); rintro e w' ⟨rfl, ⟨nd, rfl⟩⟩; refine ⟨_, rfl, ?_⟩; have hcz19_0 := zc0 BK264; have hcz19_1 := zc1 BK264; have hcz19_2 := zc2 BK264; have hcz19_3 := zc3 BK264; have hcz19_4 := zc4 BK264; have hcz19_5 := zc5 BK264; have hfz19_0 := blk_frozen BK264.out 0; have hfz19_1 := blk_frozen BK264.out 1; have hfz19_2 := blk_frozen BK264.out 2; have hfz19_3 := blk_frozen BK264.out 3; have hfz19_4 := blk_frozen BK264.out 4; have hfz19_5 := blk_frozen BK264.out 5) | (go_at_call 41; (with_reducible refine (impl_within.calls a1_0 0 (wrap64 ((a0_4.size : Int) - 2)) false _ A6.out).mono ?_); rintro e w' ⟨rfl, ⟨nd, rfl⟩⟩))
    go_ret
    exact ⟨ze _, zb _⟩
  ·replace c5 := Bool.eq_false_iff.mpr c5
   subst c5
   rw [if_neg (show ¬ (false = true) by decide)] at H
   obtain rfl := Option.some.inj H
   go_enter Try.func47, Try.ntmps47
   go_wp2_with (first | ((with_reducible refine gate_dst (N := 2) rfl ?_); (try (refine gate_guard (by rfl) ?_; dsimp only)); refine zbx 2 #[.string a0_0, .int .i64 a0_1, .int .i64 a0_2, .int .i64 a0_3, .string a0_4, .slice A0_5 l0_5.length c0_5] 43 ?_; intro gb264 hg w20 hbox hb; have BK264 := Aside0.mk (hbox); have GW264 := zs w hg; have GE264 := GW264; replace HB := zt w hb; clear hb hbox hg) | ((with_reducible refine gate_dst (N := 3) rfl ?_); (try (refine gate_guard (by rfl) ?_; dsimp only)); refine zbx 3 #[.int .i64 a1_0, .int .i64 a1_1, .slice A1_2 l1_2.length c1_2] 70 ?_; intro gb265 hg w21 hbox hb; have BK265 := Aside0.mk (hbox); have GW265 := zs w hg; have GE265 := GW265; have NB264_265 := zlt BK264 hg; have NB265_264 := zgt (zlt BK264 hg); replace BK264 := zk BK264 hb; replace HB := zt w hb; clear hb hbox hg; have hnb22 := NB265_264.out; have hnc22 := NB264_265.out; have hcz23_0 := zc0 BK265; have hcz23_1 := zc1 BK265; have hcz23_2 := zc2 BK265; have hfz23_0 := blk_frozen BK265.out 0; have hfz23_1 := blk_frozen BK265.out 1; have hfz23_2 := blk_frozen BK265.out 2) | ((with_reducible refine gate_callee (f := 41) rfl ?_); refine zc (some 11) Try.func41 #[.int .i64 a1_1, .int .i64 1, .int .i64 3] ?_; (with_reducible refine (impl_within.calls a1_1 1 3 false _ A4.out).mono ?_); rintro e w' ⟨rfl, ⟨nd, rfl⟩⟩; refine ⟨_, rfl, ?_⟩))
   go_ret
   exact ⟨ze _, zb _⟩
 ·rw [if_neg c3] at H
  have c3b0 : (a1_1 == 2) = false := beq_eq_false_iff_ne.mpr c3
  have c3b1 : (a1_1 != 2) = true := bne_iff_ne.mpr c3
  obtain ⟨t269, A240, H⟩ := Option.bind_eq_some_iff.mp H
  have A24 := Aside0.mk A240
  clear A240
  by_cases c25 : t269 = true
  ·subst c25
   rw [if_pos rfl] at H
   obtain ⟨t270, A260, H⟩ := Option.bind_eq_some_iff.mp H
   have A26 := Aside0.mk A260
   clear A260
   by_cases c27 : t270 = true
   ·subst c27
    rw [if_pos rfl] at H
    obtain ⟨t271, A280, H⟩ := Option.bind_eq_some_iff.mp H
    have A28 := Aside0.mk A280
    clear A280
    obtain rfl := Option.some.inj H
    go_enter Try.func47, Try.ntmps47
    go_wp2_with (first | ((with_reducible refine gate_dst (N := 2) rfl ?_); (try (refine gate_guard (by rfl) ?_; dsimp only)); refine zbx 2 #[.string a0_0, .int .i64 a0_1, .int .i64 a0_2, .int .i64 a0_3, .string a0_4, .slice A0_5 l0_5.length c0_5] 43 ?_; intro gb264 hg w29 hbox hb; have BK264 := Aside0.mk (hbox); have GW264 := zs w hg; have GE264 := GW264; replace HB := zt w hb; clear hb hbox hg) | ((with_reducible refine gate_dst (N := 3) rfl ?_); (try (refine gate_guard (by rfl) ?_; dsimp only)); refine zbx 3 #[.int .i64 a1_0, .int .i64 a1_1, .slice A1_2 l1_2.length c1_2] 70 ?_; intro gb265 hg w30 hbox hb; have BK265 := Aside0.mk (hbox); have GW265 := zs w hg; have GE265 := GW265; have NB264_265 := zlt BK264 hg; have NB265_264 := zgt (zlt BK264 hg); replace BK264 := zk BK264 hb; replace HB := zt w hb; clear hb hbox hg; have hnb31 := NB265_264.out; have hnc31 := NB264_265.out; have hcz32_0 := zc0 BK265; have hcz32_1 := zc1 BK265; have hcz32_2 := zc2 BK265; have hfz32_0 := blk_frozen BK265.out 0; have hfz32_1 := blk_frozen BK265.out 1; have hfz32_2 := blk_frozen BK265.out 2) | ((with_reducible refine gate_callee (f := 41) rfl ?_); refine zc (some 11) Try.func41 #[.int .i64 a1_1, .int .i64 1, .int .i64 3] ?_; (with_reducible refine (impl_within.calls a1_1 1 3 true _ A24.out).mono ?_); rintro e w' ⟨rfl, ⟨nd, rfl⟩⟩; refine ⟨_, rfl, ?_⟩; have hcz33_0 := zc0 BK264; have hcz33_1 := zc1 BK264; have hcz33_2 := zc2 BK264; have hcz33_3 := zc3 BK264; have hcz33_4 := zc4 BK264; have hcz33_5 := zc5 BK264; have hfz33_0 := blk_frozen BK264.out 0; have hfz33_1 := blk_frozen BK264.out 1; have hfz33_2 := blk_frozen BK264.out 2; have hfz33_3 := blk_frozen BK264.out 3; have hfz33_4 := blk_frozen BK264.out 4; have hfz33_5 := blk_frozen BK264.out 5) | (go_at_call 41; (with_reducible refine (impl_within.calls a1_0 0 (wrap64 ((a0_4.size : Int) - 1)) true _ A26.out).mono ?_); rintro e w' ⟨rfl, ⟨nd, rfl⟩⟩) | (go_at_call 25; (with_reducible refine (impl_ExprOk.calls k _ _ l1_2 t271 _ ?side1 ?side2 A28.out).mono ?_); (case side1 => repeat (first | exact (Kd.C_below HR1_2.out (zb _)) | (with_reducible refine Kd.C_alloc ?_ _) | (with_reducible refine Kd.C_drewN ?_ _) | (with_reducible refine Kd.C_drew ?_))); (case side2 => exact HC1_2.out); rintro e w34 ⟨rfl, hb⟩; replace BK264 := zk BK264 hb; replace BK265 := zk BK265 hb; replace HB := zt w hb; (try clear hb); (try clear hb2); (try clear hk); (try clear hi)))
    go_ret
    exact ⟨ze _, zb _⟩
   ·replace c27 := Bool.eq_false_iff.mpr c27
    subst c27
    rw [if_neg (show ¬ (false = true) by decide)] at H
    obtain rfl := Option.some.inj H
    go_enter Try.func47, Try.ntmps47
    go_wp2_with (first | ((with_reducible refine gate_dst (N := 2) rfl ?_); (try (refine gate_guard (by rfl) ?_; dsimp only)); refine zbx 2 #[.string a0_0, .int .i64 a0_1, .int .i64 a0_2, .int .i64 a0_3, .string a0_4, .slice A0_5 l0_5.length c0_5] 43 ?_; intro gb264 hg w35 hbox hb; have BK264 := Aside0.mk (hbox); have GW264 := zs w hg; have GE264 := GW264; replace HB := zt w hb; clear hb hbox hg) | ((with_reducible refine gate_dst (N := 3) rfl ?_); (try (refine gate_guard (by rfl) ?_; dsimp only)); refine zbx 3 #[.int .i64 a1_0, .int .i64 a1_1, .slice A1_2 l1_2.length c1_2] 70 ?_; intro gb265 hg w36 hbox hb; have BK265 := Aside0.mk (hbox); have GW265 := zs w hg; have GE265 := GW265; have NB264_265 := zlt BK264 hg; have NB265_264 := zgt (zlt BK264 hg); replace BK264 := zk BK264 hb; replace HB := zt w hb; clear hb hbox hg; have hnb37 := NB265_264.out; have hnc37 := NB264_265.out; have hcz38_0 := zc0 BK265; have hcz38_1 := zc1 BK265; have hcz38_2 := zc2 BK265; have hfz38_0 := blk_frozen BK265.out 0; have hfz38_1 := blk_frozen BK265.out 1; have hfz38_2 := blk_frozen BK265.out 2) | ((with_reducible refine gate_callee (f := 41) rfl ?_); refine zc (some 11) Try.func41 #[.int .i64 a1_1, .int .i64 1, .int .i64 3] ?_; (with_reducible refine (impl_within.calls a1_1 1 3 true _ A24.out).mono ?_); rintro e w' ⟨rfl, ⟨nd, rfl⟩⟩; refine ⟨_, rfl, ?_⟩; have hcz39_0 := zc0 BK264; have hcz39_1 := zc1 BK264; have hcz39_2 := zc2 BK264; have hcz39_3 := zc3 BK264; have hcz39_4 := zc4 BK264; have hcz39_5 := zc5 BK264; have hfz39_0 := blk_frozen BK264.out 0; have hfz39_1 := blk_frozen BK264.out 1; have hfz39_2 := blk_frozen BK264.out 2; have hfz39_3 := blk_frozen BK264.out 3; have hfz39_4 := blk_frozen BK264.out 4; have hfz39_5 := blk_frozen BK264.out 5) | (go_at_call 41; (with_reducible refine (impl_within.calls a1_0 0 (wrap64 ((a0_4.size : Int) - 1)) false _ A26.out).mono ?_); rintro e w' ⟨rfl, ⟨nd, rfl⟩⟩))
    go_ret
    exact ⟨ze _, zb _⟩
  ·replace c25 := Bool.eq_false_iff.mpr c25
   subst c25
   rw [if_neg (show ¬ (false = true) by decide)] at H
   obtain rfl := Option.some.inj H
   go_enter Try.func47, Try.ntmps47
   go_wp2_with (first | ((with_reducible refine gate_dst (N := 2) rfl ?_); (try (refine gate_guard (by rfl) ?_; dsimp only)); refine zbx 2 #[.string a0_0, .int .i64 a0_1, .int .i64 a0_2, .int .i64 a0_3, .string a0_4, .slice A0_5 l0_5.length c0_5] 43 ?_; intro gb264 hg w40 hbox hb; have BK264 := Aside0.mk (hbox); have GW264 := zs w hg; have GE264 := GW264; replace HB := zt w hb; clear hb hbox hg) | ((with_reducible refine gate_dst (N := 3) rfl ?_); (try (refine gate_guard (by rfl) ?_; dsimp only)); refine zbx 3 #[.int .i64 a1_0, .int .i64 a1_1, .slice A1_2 l1_2.length c1_2] 70 ?_; intro gb265 hg w41 hbox hb; have BK265 := Aside0.mk (hbox); have GW265 := zs w hg; have GE265 := GW265; have NB264_265 := zlt BK264 hg; have NB265_264 := zgt (zlt BK264 hg); replace BK264 := zk BK264 hb; replace HB := zt w hb; clear hb hbox hg; have hnb42 := NB265_264.out; have hnc42 := NB264_265.out; have hcz43_0 := zc0 BK265; have hcz43_1 := zc1 BK265; have hcz43_2 := zc2 BK265; have hfz43_0 := blk_frozen BK265.out 0; have hfz43_1 := blk_frozen BK265.out 1; have hfz43_2 := blk_frozen BK265.out 2) | ((with_reducible refine gate_callee (f := 41) rfl ?_); refine zc (some 11) Try.func41 #[.int .i64 a1_1, .int .i64 1, .int .i64 3] ?_; (with_reducible refine (impl_within.calls a1_1 1 3 false _ A24.out).mono ?_); rintro e w' ⟨rfl, ⟨nd, rfl⟩⟩; refine ⟨_, rfl, ?_⟩))
   go_ret
   exact ⟨ze _, zb _⟩

/-! ### impl_Patch: function 45 -/
set_option maxHeartbeats 2000000 in
theorem impl_Patch.pred (k : Nat) (y : S70) (A2 : Option Addr) (c2 : Nat) (g : Nat) (A0 : Option Addr) (c0 : Nat) (l0 : List S70) (a1 : ByteArray) (a2 a3 a4 : Int) (a5 : ByteArray) (b : Bool) (w : World) (hb : w.heap[g]? = some (.cells #[.string a1, .int .i64 a2, .int .i64 a3, .int .i64 a4, .string a5, .slice A0 l0.length c0] 43 (0, 0))) (hr : Kd.C k70 w A0 l0.length l0) (hc : l0.length ≤ c0) (hr2 : Kd.C k74 w A2 y.f2.length y.f2) (hc2 : y.f2.length ≤ c2) (h : impl_isPatch.f k a1 a2 a3 a4 a5 l0 y.f0 y.f1 y.f2 = some b) :
    Calls Try.prog 46 #[.agg #[.int .i64 y.f0, .int .i64 y.f1, .slice A2 y.f2.length c2], .pointer (some ⟨g, 0, none⟩)] w fun e w' => e = .returned (.bool (!b)) ∧ Below w.heap.size w w' := by
  have hu_s := Try.underlying43
  have hu_p := Try.underlying70
  have HR := Aside0.mk hr
  have HC := Aside0.mk hc
  have HR2 := Aside0.mk hr2
  have HC2 := Aside0.mk hc2
  have H := Aside0.mk h
  have BK := Aside0.mk hb
  have q0 := pw_cell_below (below_alloc (Below.refl _ _) (Obj.cells #[.int .i64 y.f0, .int .i64 y.f1, .slice A2 y.f2.length c2] 70)) (show w.cell? ⟨g, 0, none⟩ = some (.string a1) from by rw [blk_cell hb]; rfl)
  have q1 := pw_cell_below (below_alloc (Below.refl _ _) (Obj.cells #[.int .i64 y.f0, .int .i64 y.f1, .slice A2 y.f2.length c2] 70)) (show w.cell? ⟨g, 1, none⟩ = some (.int .i64 a2) from by rw [blk_cell hb]; rfl)
  have q2 := pw_cell_below (below_alloc (Below.refl _ _) (Obj.cells #[.int .i64 y.f0, .int .i64 y.f1, .slice A2 y.f2.length c2] 70)) (show w.cell? ⟨g, 2, none⟩ = some (.int .i64 a3) from by rw [blk_cell hb]; rfl)
  have q3 := pw_cell_below (below_alloc (Below.refl _ _) (Obj.cells #[.int .i64 y.f0, .int .i64 y.f1, .slice A2 y.f2.length c2] 70)) (show w.cell? ⟨g, 3, none⟩ = some (.int .i64 a4) from by rw [blk_cell hb]; rfl)
  have q4 := pw_cell_below (below_alloc (Below.refl _ _) (Obj.cells #[.int .i64 y.f0, .int .i64 y.f1, .slice A2 y.f2.length c2] 70)) (show w.cell? ⟨g, 4, none⟩ = some (.string a5) from by rw [blk_cell hb]; rfl)
  have q5 := pw_cell_below (below_alloc (Below.refl _ _) (Obj.cells #[.int .i64 y.f0, .int .i64 y.f1, .slice A2 y.f2.length c2] 70)) (show w.cell? ⟨g, 5, none⟩ = some (.slice A0 l0.length c0) from by rw [blk_cell hb]; rfl)
  clear hr hc hr2 hc2 h hb
  go_enter Try.func46, Try.ntmps46
  go_wp2_with (go_at_call 47; refine (impl_isPatch.calls k a1 a2 a3 a4 a5 A0 c0 l0 y.f0 y.f1 A2 c2 y.f2 b _ ?h1 HC.out ?h3 HC2.out H.out).mono ?_; (case h1 => exact Kd.C_below HR.out (by repeat (first | exact Below.refl _ _ | apply below_alloc | apply pw_below_drewN | apply below_drew))); (case h3 => exact Kd.C_below HR2.out (by repeat (first | exact Below.refl _ _ | apply below_alloc | apply pw_below_drewN | apply below_drew))); rintro e w9 ⟨rfl, hb9⟩; have HB := Aside0.mk (below_step (show Below w.heap.size w _ from by repeat (first | exact Below.refl _ _ | apply below_alloc | apply pw_below_drewN | apply below_drew)) hb9); clear hb9)
  go_wp2
  go_ret
  exact ⟨rfl, by repeat (first | exact HB.out | apply below_alloc | apply pw_below_drewN | apply below_drew1)⟩
def impl_Patch.go (k : Nat) (a1 : ByteArray) (a2 a3 a4 : Int) (a5 : ByteArray) (l : List S70) : List S70 → Int → Option Int
  | [], _ => some (-1)
  | x :: r, i => (impl_isPatch.f k a1 a2 a3 a4 a5 l x.f0 x.f1 x.f2).bind fun b => if b = true then impl_Patch.go k a1 a2 a3 a4 a5 l r (i + 1) else some i
def impl_Patch.f (k : Nat) (l0 : List S70) (a1 : ByteArray) (a2 a3 a4 : Int) (a5 : ByteArray) (l6 : List S70) : Option Bool := (impl_Patch.go k a1 a2 a3 a4 a5 l0 l0 0).bind fun i => some (decide (0 ≤ i))
theorem impl_Patch.go_mono (a1 : ByteArray) (a2 a3 a4 : Int) (a5 : ByteArray) (l : List S70) (k : Nat) : ∀ (y : List S70) (i : Int), LeO (impl_Patch.go k a1 a2 a3 a4 a5 l y i) (impl_Patch.go (k + 1) a1 a2 a3 a4 a5 l y i)
  | [], _ => LeO.refl _
  | x :: r, i => LeO.bind (impl_isPatch.mono _ _ _ _ _ _ _ _ _ _) (fun _ => LeO.ite (impl_Patch.go_mono a1 a2 a3 a4 a5 l k r (i + 1)) (LeO.refl _))
theorem impl_Patch.mono : ∀ a0 a1 a2 a3 a4 a5 a6 k, LeO (impl_Patch.f k a0 a1 a2 a3 a4 a5 a6) (impl_Patch.f (k + 1) a0 a1 a2 a3 a4 a5 a6) := by
  intro a0 a1 a2 a3 a4 a5 a6 k
  unfold impl_Patch.f
  exact LeO.bind (impl_Patch.go_mono a1 a2 a3 a4 a5 a0 k a0 0) (fun _ => LeO.refl _)
open Go.Shelf in
set_option maxHeartbeats 4000000 in
set_option maxRecDepth 100000 in
theorem impl_Patch.walk (k : Nat) (A0 : Option Addr) (c0 : Nat) (l0 : List S70) (g : Nat) (a1 : ByteArray) (a2 a3 a4 : Int) (a5 : ByteArray) (r : Int) (w : World) (hr0 : Kd.C k70 w A0 l0.length l0) (hc0 : l0.length ≤ c0) (hb : w.heap[g]? = some (.cells #[.string a1, .int .i64 a2, .int .i64 a3, .int .i64 a4, .string a5, .slice A0 l0.length c0] 43 (0, 0))) (h : impl_Patch.go k a1 a2 a3 a4 a5 l0 l0 0 = some r) :
    Calls Try.prog 60 #[.slice A0 l0.length c0, .func (.func 46) #[] #[.pointer (some ⟨g, 0, none⟩)]] w fun e w' => e = .returned (.int .i64 r) ∧ Below w.heap.size w w' := by
  have hu_p := Try.underlying70
  have eg := enters_of Try.func46 (by kernel_rfl) rfl
  have hbig : l0.length ≤ 9223372036854775807 := hr0.2.1
  have HR := Aside0.mk hr0
  have HC0 := Aside0.mk hc0
  have BK := Aside0.mk hb
  have HF := Aside0.mk h
  clear hr0 hb hc0 h
  go_enter Try.func60, Try.ntmps60
  go_wp2
  go_loopg [5, 8] l0.length (fun gg _ s8 wr => ∃ kk : Nat, kk ≤ l0.length ∧ l0.length - kk ≤ gg ∧ s8 = .int .i64 kk ∧ Aside0 (Below w.heap.size w wr) ∧ Aside0 (impl_Patch.go k a1 a2 a3 a4 a5 l0 (l0.drop kk) kk = some r))
  case atStart => exact ⟨0, Nat.zero_le _, by omega, rfl, ⟨by repeat (first | exact Below.refl _ _ | apply pw_below_drewN | apply below_drew)⟩, HF⟩
  case round =>
    clear HF
    obtain ⟨kk, hkk, hg, rfl, HW, HA⟩ := hrel
    by_cases hlt : kk < l0.length
    · have hltz : (kk : Int) < (l0.length : Int) := by omega
      obtain ⟨ad, A2, c2, eA, hcell, hcell1, hcell2, hl2, hi2⟩ := at_T70 HR.out (kk : Int) (by omega) (by omega)
      have hd : l0.drop kk = rd_T70 l0 kk :: l0.drop (kk + 1) := by
        rw [List.drop_eq_getElem_cons hlt, rd_T70, Int.toNat_natCast, List.getD_eq_getElem?_getD, List.getElem?_eq_getElem hlt]
        rfl
      have HA1 := HA.out
      rw [hd, impl_Patch.go] at HA1
      rw [Int.toNat_natCast] at hcell hcell1 hcell2
      replace hcell := pw_cell_below HW.out hcell
      replace hcell1 := pw_cell_below HW.out hcell1
      replace hcell2 := pw_cell_below HW.out hcell2
      have HI2 := Aside0.mk hi2
      have HL2 := Aside0.mk hl2
      generalize rd_T70 l0 kk = y at hcell hcell1 hcell2 HA1 HI2 HL2
      clear hd HA hi2 hl2
      obtain ⟨b, hp, HA2⟩ := Option.bind_eq_some_iff.1 HA1
      have HP := Aside0.mk hp
      clear HA1 hp
      subst eA
      cases b with
      | true =>
        rw [if_pos rfl] at HA2
        have HA3 := Aside0.mk HA2
        clear HA2
        go_wp2_with (go_at_call 46; refine (impl_Patch.pred k y A2 c2 g (some ad) c0 l0 a1 a2 a3 a4 a5 true _ ?hb ?hr HC0.out ?hr2 HL2.out HP.out).mono ?_; (case hb => exact blk_below BK.out (by repeat (first | exact HW.out | apply below_alloc | apply pw_below_drewN | apply below_drew1))); (case hr => exact Kd.C_below HR.out (by repeat (first | exact HW.out | apply below_alloc | apply pw_below_drewN | apply below_drew1))); (case hr2 => exact Kd.C_below HI2.out (by repeat (first | exact HW.out | apply below_alloc | apply pw_below_drewN | apply below_drew1))); rintro e w9 ⟨rfl, hb9⟩; have HWn := Aside0.mk (below_step (by repeat (first | exact HW.out | apply below_alloc | apply pw_below_drewN | apply below_drew1)) hb9); clear HW hb9; have HW := HWn; clear HWn)
        go_wp2
        go_roundg (l0.length - (kk + 1))
        case measure => omega
        case rel => exact ⟨kk + 1, by omega, by omega, by go_num, ⟨by repeat (first | exact HW.out | apply below_alloc | apply pw_below_drewN | apply below_drew1)⟩, ⟨by have := HA3.out; rw [show ((kk : Int) + 1) = ((kk + 1 : Nat) : Int) by omega] at this; exact this⟩⟩
      | false =>
        rw [if_neg (by decide)] at HA2
        obtain rfl := Option.some.inj HA2
        clear HA2
        go_wp2_with (go_at_call 46; refine (impl_Patch.pred k y A2 c2 g (some ad) c0 l0 a1 a2 a3 a4 a5 false _ ?hb ?hr HC0.out ?hr2 HL2.out HP.out).mono ?_; (case hb => exact blk_below BK.out (by repeat (first | exact HW.out | apply below_alloc | apply pw_below_drewN | apply below_drew1))); (case hr => exact Kd.C_below HR.out (by repeat (first | exact HW.out | apply below_alloc | apply pw_below_drewN | apply below_drew1))); (case hr2 => exact Kd.C_below HI2.out (by repeat (first | exact HW.out | apply below_alloc | apply pw_below_drewN | apply below_drew1))); rintro e w9 ⟨rfl, hb9⟩; have HWn := Aside0.mk (below_step (by repeat (first | exact HW.out | apply below_alloc | apply pw_below_drewN | apply below_drew1)) hb9); clear HW hb9; have HW := HWn; clear HWn)
        go_wp2
        go_ret
        exact ⟨rfl, by repeat (first | exact HW.out | apply below_alloc | apply pw_below_drewN | apply below_drew1)⟩
    · have hltz : ¬ (kk : Int) < (l0.length : Int) := by omega
      have HA1 := HA.out
      rw [List.drop_eq_nil_of_le (by omega), impl_Patch.go] at HA1
      obtain rfl := Option.some.inj HA1
      clear HA HA1
      go_wp2
      go_ret
      exact ⟨rfl, by repeat (first | exact HW.out | apply below_alloc | apply pw_below_drewN | apply below_drew1)⟩
set_option maxHeartbeats 4000000 in
theorem impl_Patch.calls (k : Nat) (A0 : Option Addr) (c0 : Nat) (l0 : List S70) (g : Nat) (a1 : ByteArray) (a2 a3 a4 : Int) (a5 : ByteArray) (l6 : List S70) (r : Bool) (w : World) (hr0 : Kd.C k70 w A0 l0.length l0) (hc0 : l0.length ≤ c0) (hb : w.heap[g]? = some (.cells #[.string a1, .int .i64 a2, .int .i64 a3, .int .i64 a4, .string a5, .slice A0 l0.length c0] 43 (0, 0))) (h : impl_Patch.f k l0 a1 a2 a3 a4 a5 l6 = some r) :
 Calls Try.prog 45 #[.slice A0 l0.length c0, .func (.func 46) #[] #[.pointer (some ⟨g, 0, none⟩)]] w fun e w' => e = .returned (.bool r) ∧ Below w.heap.size w w' := by
 unfold impl_Patch.f at h
 obtain ⟨i, hi, h⟩ := Option.bind_eq_some_iff.1 h
 obtain rfl := Option.some.inj h
 have HR := Aside0.mk hr0
 have BK := Aside0.mk hb
 have HF := Aside0.mk hi
 have HC := Aside0.mk hc0
 clear hr0 hb hi h hc0
 go_enter Try.func45, Try.ntmps45
 go_wp2_with (go_at_call 60; refine (impl_Patch.walk k A0 c0 l0 g a1 a2 a3 a4 a5 i _ ?hr HC.out ?hb HF.out).mono ?_; (case hr => exact Kd.C_below HR.out (by repeat (first | exact Below.refl _ _ | apply below_alloc | apply pw_below_drewN | apply below_drew))); (case hb => exact blk_below BK.out (by repeat (first | exact Below.refl _ _ | apply below_alloc | apply pw_below_drewN | apply below_drew))); rintro e w9 ⟨rfl, hb9⟩; have HW := Aside0.mk (below_step (show Below w.heap.size w _ from by repeat (first | exact Below.refl _ _ | apply below_alloc | apply pw_below_drewN | apply below_drew)) hb9); clear hb9)
 go_wp2
 go_ret
 exact ⟨rfl, by repeat (first | exact HW.out | apply below_alloc | apply pw_below_drewN | apply below_drew1)⟩

end Go.Proofs.Ytbbngeooodcbcaa.PFnExactObjectOk
