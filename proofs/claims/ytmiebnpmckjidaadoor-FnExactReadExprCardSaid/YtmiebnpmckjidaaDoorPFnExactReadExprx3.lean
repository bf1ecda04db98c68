/- What the Go functions that the law FnExactReadExpr reaches compute, function by function, and that Go comes to just that. -/
import Derived.Test.YtmiebnpmckjidaaDoorPFnExactReadExprx0
import Derived.Test.YtmiebnpmckjidaaDoorAidZ
import Derived.Test.YtmiebnpmckjidaaDoorPFnExactReadExprx1
import Derived.Test.YtmiebnpmckjidaaDoorPFnExactReadExprx2
namespace Go.Proofs.YtmiebnpmckjidaaDoor.PFnExactReadExpr
open Go.RowKit Go.Proofs.YtmiebnpmckjidaaDoor.Z Go.Proofs.YtmiebnpmckjidaaDoorW.PrintWords Go.Proofs.YtmiebnpmckjidaaDoorW.PrintLast Go.Proofs.YtmiebnpmckjidaaDoorW.PrintMore
attribute [local go_sem] max2_int min2_int max_two min_two max_three min_three max_four min_four   -- for this text's walks alone
set_option linter.unusedVariables false
set_option linter.unusedSimpArgs false

/-! ### spec_ExprOk: function 118 -/
def spec_ExprOk.l0 : Nat → List (S77) → Int → Int → Option (Bool)
  | 0, _, _, _ => none
  | k + 1, x0, x3, x4 => if x4 < (x0.length : Int) then (if 0 ≤ x4 then ((spec_l2Node.f k ((rd_T77 x0 x4).f0) ((rd_T77 x0 x4).f1) ((rd_T77 x0 x4).f2)).bind fun t135 => (if t135 = true then ((spec_l2Takes.f ((rd_T77 x0 x4).f0)).bind fun t137 => (if t137 > x3 then (some false) else ((spec_l2Takes.f ((rd_T77 x0 x4).f0)).bind fun t139 => (spec_ExprOk.l0 k x0 (wrap64 ((wrap64 (x3 - t139)) + 1)) (wrap64 (x4 + 1)))))) else (some false))) else (none)) else (if (x0.length : Int) ≤ 30 then (some (x3 == 1)) else (some false))
def spec_ExprOk.f (k : Nat) (l0 : List (S77)) : Option (Bool) := spec_ExprOk.l0 k l0 0 0
theorem spec_ExprOk.mono_l : ∀ k, (∀ y0 y1 y2, LeO (spec_ExprOk.l0 k y0 y1 y2) (spec_ExprOk.l0 (k + 1) y0 y1 y2))
  | 0 => fun _ _ _ r h => by simp [spec_ExprOk.l0] at h
  | k + 1 => by
    have ih0 := spec_ExprOk.mono_l k
    · intro y0 y1 y2
      unfold spec_ExprOk.l0
      repeat' first
      | (with_reducible exact ih0 _ _ _)
      | (with_reducible exact spec_l2Node.mono _ _ _ _)
      | (with_reducible exact LeO.refl _)
      | (with_reducible exact LeO.none _)
      | (with_reducible refine LeO.ite ?_ ?_)
      | (with_reducible refine LeO.bind ?_ (fun _ => ?_))
      | exact ih0 _ _ _
      | exact spec_l2Node.mono _ _ _ _
      | exact LeO.none _
      | refine LeO.ite ?_ ?_
      | refine LeO.bind ?_ (fun _ => ?_)
theorem spec_ExprOk.mono : ∀ a0 k, LeO (spec_ExprOk.f k a0) (spec_ExprOk.f (k + 1) a0) := by
  intro a0 k
  have ih0 := spec_ExprOk.mono_l k
  unfold spec_ExprOk.f
  repeat' first
      | (with_reducible exact ih0 _ _ _)
      | (with_reducible exact spec_l2Node.mono _ _ _ _)
      | (with_reducible exact LeO.refl _)
      | (with_reducible exact LeO.none _)
      | (with_reducible refine LeO.ite ?_ ?_)
      | (with_reducible refine LeO.bind ?_ (fun _ => ?_))
      | exact ih0 _ _ _
      | exact spec_l2Node.mono _ _ _ _
      | exact LeO.none _
      | refine LeO.ite ?_ ?_
      | refine LeO.bind ?_ (fun _ => ?_)
set_option maxHeartbeats 8000000 in
set_option maxRecDepth 100000 in
theorem spec_ExprOk.calls (k : Nat) (A0 : Option Addr) (c0 : Nat) (l0 : List (S77)) (r : Bool) (w : World) (hr0 : Kd.C k77 w A0 l0.length l0) (hc0 : l0.length ≤ c0) (h : spec_ExprOk.f k l0 = some r) :
 Calls Tryd.prog 118 #[.slice A0 l0.length c0] w fun e w' => e = .returned (.bool r) ∧ Below w.heap.size w w' := by
 have hu77 := Tryd.underlying77
 have HR0 := Aside0.mk hr0
 have HC0 := Aside0.mk hc0
 clear hr0 hc0
 have HB := Aside0.mk (Below.refl w.heap.size w)
 have H : (spec_ExprOk.l0 k l0 0 0) = some r := h
 clear h
 have H' := Aside0.mk H
 clear H
 go_enter Tryd.func118, Tryd.ntmps118
 go_wp2
 go_loopg [3, 4] k (fun kq v3 v4 w' => ∃ (x3_1 : Int) (x4_1 : Int), v3 = .int .i64 x3_1 ∧ v4 = .int .i64 x4_1 ∧ Aside0 (spec_ExprOk.l0 kq l0 x3_1 x4_1 = some r) ∧ Aside0 (kq ≤ k) ∧ Aside0 (Below w.heap.size w w'))
 case atStart => exact ⟨(0), (0), (zE _), (zE _), H', ⟨Nat.le_refl _⟩, ⟨zb _⟩⟩
 case round =>
  clear H'
  try clear c1
  obtain ⟨x3_1, x4_1, rfl, rfl, HA, HK1, HB⟩ := hrel
  cases gk with
  | zero => exact absurd HA.out (by simp [spec_ExprOk.l0])
  | succ k1 =>
   have H := HA.out
   clear HA
   simp only [spec_ExprOk.l0] at H
   by_cases c2 : x4_1 < (l0.length : Int)
   ·rw [if_pos c2] at H
    have c2b0 : decide (x4_1 < (l0.length : Int)) = true := decide_eq_true c2
    clear c2
    by_cases c3 : 0 ≤ x4_1
    ·rw [if_pos c3] at H
     have c3b0 : decide (0 ≤ x4_1) = true := decide_eq_true c3
     clear c3
     obtain ⟨t135, A40, H⟩ := Option.bind_eq_some_iff.mp H
     have A4 := Aside0.mk A40
     clear A40
     by_cases c5 : t135 = true
     ·subst c5
      rw [if_pos rfl] at H
      obtain ⟨t137, A60, H⟩ := Option.bind_eq_some_iff.mp H
      have A6 := Aside0.mk A60
      clear A60
      by_cases c7 : t137 > x3_1
      ·rw [if_pos c7] at H
       have c7b0 : decide (x3_1 < t137) = true := decide_eq_true c7
       clear c7
       obtain rfl := Option.some.inj H
       have p134 : 0 ≤ (x4_1 : Int) := of_decide_eq_true (za _)
       have q134 : x4_1 < (l0.length : Int) := of_decide_eq_true (za _)
       obtain ⟨ad134, e134, hx134_0, hx134_1, hx134_2⟩ := at_T77 HR0.out x4_1 p134 q134
       cases e134
       replace hx134_0 := (HB.out.cell (World.block_lt_of_cell? w _ hx134_0)).trans hx134_0
       replace hx134_1 := (HB.out.cell (World.block_lt_of_cell? w _ hx134_1)).trans hx134_1
       replace hx134_2 := (HB.out.cell (World.block_lt_of_cell? w _ hx134_2)).trans hx134_2
       replace p134 := eq_true p134
       replace q134 := eq_true q134
       go_wp2_with (first | ((with_reducible refine gate_callee (f := 142) rfl ?_); refine zc (some 15) Tryd.func142 #[.agg #[.int .i64 ((rd_T77 l0 x4_1).f0), .int .i64 ((rd_T77 l0 x4_1).f1), .string ((rd_T77 l0 x4_1).f2)]] ?_; (with_reducible refine (spec_l2Node.calls k1 ((rd_T77 l0 x4_1).f0) ((rd_T77 l0 x4_1).f1) ((rd_T77 l0 x4_1).f2) true _ A4.out).mono ?_); rintro e w8 ⟨rfl, hb⟩; refine ⟨_, rfl, ?_⟩; replace HB := zt w hb; (try clear hb); (try clear hb2); (try clear hk); (try clear hi); have p136 : 0 ≤ (x4_1 : Int) := of_decide_eq_true (za _); have q136 : x4_1 < (l0.length : Int) := of_decide_eq_true (za _); obtain ⟨ad136, e136, hx136_0, hx136_1, hx136_2⟩ := at_T77 HR0.out x4_1 p136 q136; obtain rfl : ad134 = ad136 := (by injection e136); replace hx136_0 := (HB.out.cell (World.block_lt_of_cell? w _ hx136_0)).trans hx136_0; replace hx136_1 := (HB.out.cell (World.block_lt_of_cell? w _ hx136_1)).trans hx136_1; replace hx136_2 := (HB.out.cell (World.block_lt_of_cell? w _ hx136_2)).trans hx136_2; replace p136 := eq_true p136; replace q136 := eq_true q136) | (go_at_call 143; (with_reducible refine (spec_l2Takes.calls ((rd_T77 l0 x4_1).f0) t137 _ A6.out).mono ?_); rintro e w' ⟨rfl, ⟨nd, rfl⟩⟩))
       first | go_ret | ((try simp only [Exit.inBlock, Exit.then]); apply bodyPost_ret; (exact results_tmp rfl _ _ _); rfl)
       exact ⟨ze _, zb _⟩
      ·rw [if_neg c7] at H
       have c7b0 : decide (x3_1 < t137) = false := decide_eq_false c7
       clear c7
       obtain ⟨t139, A90, H⟩ := Option.bind_eq_some_iff.mp H
       have A9 := Aside0.mk A90
       clear A90
       have H' := Aside0.mk H
       clear H
       have p134 : 0 ≤ (x4_1 : Int) := of_decide_eq_true (za _)
       have q134 : x4_1 < (l0.length : Int) := of_decide_eq_true (za _)
       obtain ⟨ad134, e134, hx134_0, hx134_1, hx134_2⟩ := at_T77 HR0.out x4_1 p134 q134
       cases e134
       replace hx134_0 := (HB.out.cell (World.block_lt_of_cell? w _ hx134_0)).trans hx134_0
       replace hx134_1 := (HB.out.cell (World.block_lt_of_cell? w _ hx134_1)).trans hx134_1
       replace hx134_2 := (HB.out.cell (World.block_lt_of_cell? w _ hx134_2)).trans hx134_2
       replace p134 := eq_true p134
       replace q134 := eq_true q134
       go_wp2_with (first | ((with_reducible refine gate_callee (f := 142) rfl ?_); refine zc (some 15) Tryd.func142 #[.agg #[.int .i64 ((rd_T77 l0 x4_1).f0), .int .i64 ((rd_T77 l0 x4_1).f1), .string ((rd_T77 l0 x4_1).f2)]] ?_; (with_reducible refine (spec_l2Node.calls k1 ((rd_T77 l0 x4_1).f0) ((rd_T77 l0 x4_1).f1) ((rd_T77 l0 x4_1).f2) true _ A4.out).mono ?_); rintro e w10 ⟨rfl, hb⟩; refine ⟨_, rfl, ?_⟩; replace HB := zt w hb; (try clear hb); (try clear hb2); (try clear hk); (try clear hi); have p136 : 0 ≤ (x4_1 : Int) := of_decide_eq_true (za _); have q136 : x4_1 < (l0.length : Int) := of_decide_eq_true (za _); obtain ⟨ad136, e136, hx136_0, hx136_1, hx136_2⟩ := at_T77 HR0.out x4_1 p136 q136; obtain rfl : ad134 = ad136 := (by injection e136); replace hx136_0 := (HB.out.cell (World.block_lt_of_cell? w _ hx136_0)).trans hx136_0; replace hx136_1 := (HB.out.cell (World.block_lt_of_cell? w _ hx136_1)).trans hx136_1; replace hx136_2 := (HB.out.cell (World.block_lt_of_cell? w _ hx136_2)).trans hx136_2; replace p136 := eq_true p136; replace q136 := eq_true q136) | (go_at_call 143; (with_reducible refine (spec_l2Takes.calls ((rd_T77 l0 x4_1).f0) t137 _ A6.out).mono ?_); rintro e w' ⟨rfl, ⟨nd, rfl⟩⟩; have p138 : 0 ≤ (x4_1 : Int) := of_decide_eq_true (za _); have q138 : x4_1 < (l0.length : Int) := of_decide_eq_true (za _); obtain ⟨ad138, e138, hx138_0, hx138_1, hx138_2⟩ := at_T77 HR0.out x4_1 p138 q138; obtain rfl : ad134 = ad138 := (by injection e138); replace hx138_0 := (HB.out.cell (World.block_lt_of_cell? w _ hx138_0)).trans hx138_0; replace hx138_1 := (HB.out.cell (World.block_lt_of_cell? w _ hx138_1)).trans hx138_1; replace hx138_2 := (HB.out.cell (World.block_lt_of_cell? w _ hx138_2)).trans hx138_2; replace p138 := eq_true p138; replace q138 := eq_true q138) | ((with_reducible refine gate_callee (f := 143) rfl ?_); refine zc (some 33) Tryd.func143 #[.int .i64 ((rd_T77 l0 x4_1).f0)] ?_; (with_reducible refine (spec_l2Takes.calls ((rd_T77 l0 x4_1).f0) t139 _ A9.out).mono ?_); rintro e w' ⟨rfl, ⟨nd, rfl⟩⟩; refine ⟨_, rfl, ?_⟩))
       go_roundg k1
       case measure => have := HK1.out; omega
       case rel => exact ⟨(wrap64 ((wrap64 (x3_1 - t139)) + 1)), (wrap64 (x4_1 + 1)), (zE _), (zE _), H', ⟨by have := HK1.out; omega⟩, ⟨zb _⟩⟩
     ·replace c5 := Bool.eq_false_iff.mpr c5
      subst c5
      rw [if_neg (show ¬ (false = true) by decide)] at H
      obtain rfl := Option.some.inj H
      have p134 : 0 ≤ (x4_1 : Int) := of_decide_eq_true (za _)
      have q134 : x4_1 < (l0.length : Int) := of_decide_eq_true (za _)
      obtain ⟨ad134, e134, hx134_0, hx134_1, hx134_2⟩ := at_T77 HR0.out x4_1 p134 q134
      cases e134
      replace hx134_0 := (HB.out.cell (World.block_lt_of_cell? w _ hx134_0)).trans hx134_0
      replace hx134_1 := (HB.out.cell (World.block_lt_of_cell? w _ hx134_1)).trans hx134_1
      replace hx134_2 := (HB.out.cell (World.block_lt_of_cell? w _ hx134_2)).trans hx134_2
      replace p134 := eq_true p134
      replace q134 := eq_true q134
      go_wp2_with (first | ((with_reducible refine gate_callee (f := 142) rfl ?_); refine zc (some 15) Tryd.func142 #[.agg #[.int .i64 ((rd_T77 l0 x4_1).f0), .int .i64 ((rd_T77 l0 x4_1).f1), .string ((rd_T77 l0 x4_1).f2)]] ?_; (with_reducible refine (spec_l2Node.calls k1 ((rd_T77 l0 x4_1).f0) ((rd_T77 l0 x4_1).f1) ((rd_T77 l0 x4_1).f2) false _ A4.out).mono ?_); rintro e w11 ⟨rfl, hb⟩; refine ⟨_, rfl, ?_⟩; replace HB := zt w hb; (try clear hb); (try clear hb2); (try clear hk); (try clear hi)))
      first | go_ret | ((try simp only [Exit.inBlock, Exit.then]); apply bodyPost_ret; (exact results_tmp rfl _ _ _); rfl)
      exact ⟨ze _, zb _⟩
    ·rw [if_neg c3] at H
     exact absurd H (by simp)
   ·rw [if_neg c2] at H
    have c2b0 : decide (x4_1 < (l0.length : Int)) = false := decide_eq_false c2
    clear c2
    by_cases c12 : (l0.length : Int) ≤ 30
    ·rw [if_pos c12] at H
     have c12b0 : decide ((l0.length : Int) ≤ 30) = true := decide_eq_true c12
     have c12b1 : decide (l0.length ≤ 30) = true := decide_eq_true (by omega)
     clear c12
     obtain rfl := Option.some.inj H
     go_wp2
     first | go_ret | ((try simp only [Exit.inBlock, Exit.then]); apply bodyPost_ret; (exact results_tmp rfl _ _ _); rfl)
     exact ⟨ze _, zb _⟩
    ·rw [if_neg c12] at H
     have c12b0 : decide ((l0.length : Int) ≤ 30) = false := decide_eq_false c12
     have c12b1 : decide (l0.length ≤ 30) = false := decide_eq_false (by omega)
     clear c12
     obtain rfl := Option.some.inj H
     go_wp2
     first | go_ret | ((try simp only [Exit.inBlock, Exit.then]); apply bodyPost_ret; (exact results_tmp rfl _ _ _); rfl)
     exact ⟨ze _, zb _⟩

/-! ### spec_ExprText: function 73 -/
mutual
def spec_ExprText.l0 : Nat → List (S77) → ByteArray → Int → Option (ByteArray)
  | 0, _, _, _ => none
  | k + 1, x0, x3, x4 => if x4 < (x0.length : Int) then (if x4 > 0 then (if x3.size + 1 ≤ 9223372036854775807 then (spec_ExprText.j1 k x0 (x3 ++ (⟨#[32]⟩ : ByteArray)) x4) else (none)) else (spec_ExprText.j1 k x0 x3 x4)) else (some x3)
def spec_ExprText.j1 : Nat → List (S77) → ByteArray → Int → Option (ByteArray)
  | 0, _, _, _ => none
  | k + 1, x0, x3, x4 => if 0 ≤ x4 then (if x4 < (x0.length : Int) then (if ((rd_T77 x0 x4).f0) = 1 then ((spec_l1Dec.f k ((rd_T77 x0 x4).f1)).bind fun t143 => (if x3.size + t143.size ≤ 9223372036854775807 then (spec_ExprText.l0 k x0 (x3 ++ t143) (wrap64 (x4 + 1))) else (none))) else (if ((rd_T77 x0 x4).f0) = 2 then (if x3.size + ((rd_T77 x0 x4).f2).size ≤ 9223372036854775807 then (spec_ExprText.l0 k x0 (x3 ++ ((rd_T77 x0 x4).f2)) (wrap64 (x4 + 1))) else (none)) else (if ((rd_T77 x0 x4).f0) = 3 then (if x3.size + 1 ≤ 9223372036854775807 then (if (x3 ++ (⟨#[35]⟩ : ByteArray)).size + ((rd_T77 x0 x4).f2).size ≤ 9223372036854775807 then (spec_ExprText.l0 k x0 ((x3 ++ (⟨#[35]⟩ : ByteArray)) ++ ((rd_T77 x0 x4).f2)) (wrap64 (x4 + 1))) else (none)) else (none)) else ((spec_l2Words.f).bind fun t146 => (if 0 ≤ ((rd_T77 x0 x4).f0) then (if ((rd_T77 x0 x4).f0) < (t146.length : Int) then (if x3.size + (rdOf ByteArray.empty t146 ((rd_T77 x0 x4).f0)).size ≤ 9223372036854775807 then (spec_ExprText.l0 k x0 (x3 ++ (rdOf ByteArray.empty t146 ((rd_T77 x0 x4).f0))) (wrap64 (x4 + 1))) else (none)) else (none)) else (none)))))) else (none)) else (none)
end
def spec_ExprText.f (k : Nat) (l0 : List (S77)) : Option (ByteArray) := (spec_ExprOk.f k l0).bind fun t140 => (if t140 = true then (spec_ExprText.l0 k l0 (⟨#[]⟩ : ByteArray) 0) else (some (⟨#[]⟩ : ByteArray)))
theorem spec_ExprText.mono_l : ∀ k, (∀ y0 y1 y2, LeO (spec_ExprText.l0 k y0 y1 y2) (spec_ExprText.l0 (k + 1) y0 y1 y2)) ∧ (∀ y0 y1 y2, LeO (spec_ExprText.j1 k y0 y1 y2) (spec_ExprText.j1 (k + 1) y0 y1 y2))
  | 0 => ⟨fun _ _ _ r h => by simp [spec_ExprText.l0] at h, fun _ _ _ r h => by simp [spec_ExprText.j1] at h⟩
  | k + 1 => by
    obtain ⟨ih0, ih1⟩ := spec_ExprText.mono_l k
    refine ⟨?_, ?_⟩
    · intro y0 y1 y2
      unfold spec_ExprText.l0
      repeat' first
      | (with_reducible exact ih0 _ _ _)
      | (with_reducible exact ih1 _ _ _)
      | (with_reducible exact spec_ExprOk.mono _ _)
      | (with_reducible exact spec_l1Dec.mono _ _)
      | (with_reducible exact LeO.refl _)
      | (with_reducible exact LeO.none _)
      | (with_reducible refine LeO.ite ?_ ?_)
      | (with_reducible refine LeO.bind ?_ (fun _ => ?_))
      | exact ih0 _ _ _
      | exact ih1 _ _ _
      | exact spec_ExprOk.mono _ _
      | exact spec_l1Dec.mono _ _
      | exact LeO.none _
      | refine LeO.ite ?_ ?_
      | refine LeO.bind ?_ (fun _ => ?_)
    · intro y0 y1 y2
      unfold spec_ExprText.j1
      repeat' first
      | (with_reducible exact ih0 _ _ _)
      | (with_reducible exact ih1 _ _ _)
      | (with_reducible exact spec_ExprOk.mono _ _)
      | (with_reducible exact spec_l1Dec.mono _ _)
      | (with_reducible exact LeO.refl _)
      | (with_reducible exact LeO.none _)
      | (with_reducible refine LeO.ite ?_ ?_)
      | (with_reducible refine LeO.bind ?_ (fun _ => ?_))
      | exact ih0 _ _ _
      | exact ih1 _ _ _
      | exact spec_ExprOk.mono _ _
      | exact spec_l1Dec.mono _ _
      | exact LeO.none _
      | refine LeO.ite ?_ ?_
      | refine LeO.bind ?_ (fun _ => ?_)
theorem spec_ExprText.mono : ∀ a0 k, LeO (spec_ExprText.f k a0) (spec_ExprText.f (k + 1) a0) := by
  intro a0 k
  obtain ⟨ih0, ih1⟩ := spec_ExprText.mono_l k
  unfold spec_ExprText.f
  repeat' first
      | (with_reducible exact ih0 _ _ _)
      | (with_reducible exact ih1 _ _ _)
      | (with_reducible exact spec_ExprOk.mono _ _)
      | (with_reducible exact spec_l1Dec.mono _ _)
      | (with_reducible exact LeO.refl _)
      | (with_reducible exact LeO.none _)
      | (with_reducible refine LeO.ite ?_ ?_)
      | (with_reducible refine LeO.bind ?_ (fun _ => ?_))
      | exact ih0 _ _ _
      | exact ih1 _ _ _
      | exact spec_ExprOk.mono _ _
      | exact spec_l1Dec.mono _ _
      | exact LeO.none _
      | refine LeO.ite ?_ ?_
      | refine LeO.bind ?_ (fun _ => ?_)
def spec_ExprText.T10 : Bool × List (List Nat × List Nat) := (true, [([], []), ([], []), ([], []), ([], []), ([2, 3], [2, 3]), ([4], [4]), ([5], [5]), ([1, 6], [1, 6]), ([7], [7]), ([0, 8], [0, 8]), ([9, 1, 0, 1, 2, 3, 4, 5, 6, 7, 8, 9], [0, 9])])
def spec_ExprText.B10 : List Nat := [0, 0, 0, 0, 12, 28, 60, 126, 254, 511, 1023]
theorem spec_ExprText.tab10 : rtab .any (opsOf Tryd.f73 10) = spec_ExprText.T10 := by kernel_rfl
theorem spec_ExprText.bits10 : waitsOk spec_ExprText.T10.2 spec_ExprText.B10 = true := by kernel_rfl
set_option maxHeartbeats 8000000 in
set_option maxRecDepth 100000 in
theorem spec_ExprText.calls (k : Nat) (A0 : Option Addr) (c0 : Nat) (l0 : List (S77)) (r : ByteArray) (w : World) (hr0 : Kd.C k77 w A0 l0.length l0) (hc0 : l0.length ≤ c0) (h : spec_ExprText.f k l0 = some r) :
 Calls Tryd.prog 73 #[.slice A0 l0.length c0] w fun e w' => e = .returned (.string r) ∧ Below w.heap.size w w' := by
 have HR0 := Aside0.mk hr0
 have HC0 := Aside0.mk hc0
 clear hr0 hc0
 have HB := Aside0.mk (Below.refl w.heap.size w)
 have H : ((spec_ExprOk.f k l0).bind fun t140 => (if t140 = true then (spec_ExprText.l0 k l0 (⟨#[]⟩ : ByteArray) 0) else (some (⟨#[]⟩ : ByteArray)))) = some r := h
 clear h
 obtain ⟨t140, A20, H⟩ := Option.bind_eq_some_iff.mp H
 have A2 := Aside0.mk A20
 clear A20
 by_cases c3 : t140 = true
 ·subst c3
  rw [if_pos rfl] at H
  have H' := Aside0.mk H
  clear H
  go_enter Tryd.func73, Tryd.ntmps73
  go_wp2_with (first | ((with_reducible refine gate_callee (f := 118) rfl ?_); refine zc (some 6) Tryd.func118 #[.slice A0 l0.length c0] ?_; (with_reducible refine (spec_ExprOk.calls k _ _ l0 true _ ?side1 ?side2 A2.out).mono ?_); (case side1 => repeat (first | exact HR0.out | (with_reducible refine Kd.C_alloc ?_ _) | (with_reducible refine Kd.C_drewN ?_ _) | (with_reducible refine Kd.C_drew ?_))); (case side2 => exact HC0.out); rintro e w4 ⟨rfl, hb⟩; refine ⟨_, rfl, ?_⟩; replace HB := zt w hb; (try clear hb); (try clear hb2); (try clear hk); (try clear hi)))
  go_loopg [3, 4] k (fun kq v3 v4 w' => ∃ (x3_1 : ByteArray) (x4_1 : Int), v3 = .string x3_1 ∧ v4 = .int .i64 x4_1 ∧ Aside0 (spec_ExprText.l0 kq l0 x3_1 x4_1 = some r) ∧ Aside0 (kq ≤ k) ∧ Aside0 (Below w.heap.size w w'))
  case atStart => exact ⟨((⟨#[]⟩ : ByteArray)), (0), (zE _), (zE _), H', ⟨Nat.le_refl _⟩, ⟨zb _⟩⟩
  case round =>
   clear H'
   try clear c1
   try clear p2
   try clear c3
   obtain ⟨x3_1, x4_1, rfl, rfl, HA, HK1, HB⟩ := hrel
   cases gk with
   | zero => exact absurd HA.out (by simp [spec_ExprText.l0])
   | succ k1 =>
    have H := HA.out
    clear HA
    simp only [spec_ExprText.l0] at H
    by_cases c5 : x4_1 < (l0.length : Int)
    ·rw [if_pos c5] at H
     have c5b0 : decide (x4_1 < (l0.length : Int)) = true := decide_eq_true c5
     clear c5
     have HC6 := Aside0.mk H
     clear H
     go_upto_if 15 with (fail)
     go_cut [3] (fun v3 wc => ∃ (kq : Nat) (x3_5 : ByteArray), v3 = .string x3_5 ∧ Aside0 (spec_ExprText.j1 kq l0 x3_5 x4_1 = some r) ∧ Aside0 (kq ≤ k1) ∧ Aside0 (Below w.heap.size w wc))
     case first =>
      have H := HC6.out
      clear HC6
      by_cases c7 : x4_1 > 0
      ·rw [if_pos c7] at H
       have c7b0 : decide (0 < x4_1) = true := decide_eq_true c7
       clear c7
       (first | rw [c7b0] | (simp only [i64_w, i32_w]; rw [c7b0]) | skip)
       by_cases c8 : x3_1.size + 1 ≤ 9223372036854775807
       ·rw [if_pos c8] at H
        have c8b0 := eq_true c8
        have c8b1 : decide (x3_1.size + 1 ≤ 9223372036854775807) = true := decide_eq_true c8
        try have c8b2 : (9223372036854775807 < x3_1.size + 1) = False := eq_false (Nat.not_lt.2 c8)
        have H' := Aside0.mk H
        clear H
        go_wp2
        go_meet
        case rel => exact ⟨_, (x3_1 ++ (⟨#[32]⟩ : ByteArray)), (zE _), H', ⟨by have := HK1.out; first | omega | exact Nat.le_refl _⟩, ⟨zb _⟩⟩
       ·rw [if_neg c8] at H
        exact absurd H (by simp)
      ·rw [if_neg c7] at H
       have c7b0 : decide (0 < x4_1) = false := decide_eq_false c7
       clear c7
       (first | rw [c7b0] | (simp only [i64_w, i32_w]; rw [c7b0]) | skip)
       have H' := Aside0.mk H
       clear H
       go_wp2
       go_meet
       case rel => exact ⟨_, (x3_1), (zE _), H', ⟨by have := HK1.out; first | omega | exact Nat.le_refl _⟩, ⟨zb _⟩⟩
     case rest =>
      clear HC6
      try clear c1
      try clear p2
      try clear c3
      try clear c5
      try clear c5b0
      try clear c7
      try clear c7b0
      try clear c8
      try clear c8b0
      try clear c8b1
      try clear c8b2
      try clear p2
      obtain ⟨kq, x3_5, rfl, HA, HJ5, HB⟩ := hcut
      cases kq with
      | zero => exact absurd HA.out (by simp [spec_ExprText.j1])
      | succ kj5 =>
       have H := HA.out
       clear HA
       simp only [spec_ExprText.j1] at H
       by_cases c9 : 0 ≤ x4_1
       ·rw [if_pos c9] at H
        have c9b0 : decide (0 ≤ x4_1) = true := decide_eq_true c9
        clear c9
        by_cases c10 : x4_1 < (l0.length : Int)
        ·rw [if_pos c10] at H
         have c10b0 : decide (x4_1 < (l0.length : Int)) = true := decide_eq_true c10
         clear c10
         by_cases c11 : ((rd_T77 l0 x4_1).f0) = 1
         ·rw [if_pos c11] at H
          have c11b0 : (((rd_T77 l0 x4_1).f0) == 1) = true := beq_iff_eq.mpr c11
          have c11b1 : (((rd_T77 l0 x4_1).f0) != 1) = false := bne_eq_false_iff_eq.mpr c11
          clear c11
          obtain ⟨t143, A120, H⟩ := Option.bind_eq_some_iff.mp H
          have A12 := Aside0.mk A120
          clear A120
          by_cases c13 : x3_5.size + t143.size ≤ 9223372036854775807
          ·rw [if_pos c13] at H
           have c13b0 := eq_true c13
           have c13b1 : decide (x3_5.size + t143.size ≤ 9223372036854775807) = true := decide_eq_true c13
           try have c13b2 : (9223372036854775807 < x3_5.size + t143.size) = False := eq_false (Nat.not_lt.2 c13)
           have H' := Aside0.mk H
           clear H
           have p141 : 0 ≤ (x4_1 : Int) := of_decide_eq_true (za _)
           have q141 : x4_1 < (l0.length : Int) := of_decide_eq_true (za _)
           obtain ⟨ad141, e141, hx141_0, hx141_1, hx141_2⟩ := at_T77 HR0.out x4_1 p141 q141
           cases e141
           replace hx141_0 := (HB.out.cell (World.block_lt_of_cell? w _ hx141_0)).trans hx141_0
           replace hx141_1 := (HB.out.cell (World.block_lt_of_cell? w _ hx141_1)).trans hx141_1
           replace hx141_2 := (HB.out.cell (World.block_lt_of_cell? w _ hx141_2)).trans hx141_2
           replace p141 := eq_true p141
           replace q141 := eq_true q141
           have p142 : 0 ≤ (x4_1 : Int) := of_decide_eq_true (za _)
           have q142 : x4_1 < (l0.length : Int) := of_decide_eq_true (za _)
           obtain ⟨ad142, e142, hx142_0, hx142_1, hx142_2⟩ := at_T77 HR0.out x4_1 p142 q142
           obtain rfl : ad141 = ad142 := (by injection e142)
           replace hx142_0 := (HB.out.cell (World.block_lt_of_cell? w _ hx142_0)).trans hx142_0
           replace hx142_1 := (HB.out.cell (World.block_lt_of_cell? w _ hx142_1)).trans hx142_1
           replace hx142_2 := (HB.out.cell (World.block_lt_of_cell? w _ hx142_2)).trans hx142_2
           replace p142 := eq_true p142
           replace q142 := eq_true q142
           go_wp2_with (first | ((with_reducible refine gate_callee (f := 84) rfl ?_); refine zc (some 41) Tryd.func84 #[.int .i64 ((rd_T77 l0 x4_1).f1)] ?_; (with_reducible refine (spec_l1Dec.calls kj5 ((rd_T77 l0 x4_1).f1) t143 _ A12.out).mono ?_); rintro e w14 ⟨rfl, hb⟩; refine ⟨_, rfl, ?_⟩; replace HB := zt w hb; (try clear hb); (try clear hb2); (try clear hk); (try clear hi)))
           go_roundg kj5
           case measure => have := HK1.out; have := HJ5.out; omega
           case rel => exact ⟨(x3_5 ++ t143), (wrap64 (x4_1 + 1)), (zE _), (zE _), H', ⟨by have := HK1.out; have := HJ5.out; omega⟩, ⟨zb _⟩⟩
          ·rw [if_neg c13] at H
           exact absurd H (by simp)
         ·rw [if_neg c11] at H
          have c11b0 : (((rd_T77 l0 x4_1).f0) == 1) = false := beq_eq_false_iff_ne.mpr c11
          have c11b1 : (((rd_T77 l0 x4_1).f0) != 1) = true := bne_iff_ne.mpr c11
          by_cases c15 : ((rd_T77 l0 x4_1).f0) = 2
          ·rw [if_pos c15] at H
           have c15b0 : (((rd_T77 l0 x4_1).f0) == 2) = true := beq_iff_eq.mpr c15
           have c15b1 : (((rd_T77 l0 x4_1).f0) != 2) = false := bne_eq_false_iff_eq.mpr c15
           clear c15
           by_cases c16 : x3_5.size + ((rd_T77 l0 x4_1).f2).size ≤ 9223372036854775807
           ·rw [if_pos c16] at H
            have c16b0 := eq_true c16
            have c16b1 : decide (x3_5.size + ((rd_T77 l0 x4_1).f2).size ≤ 9223372036854775807) = true := decide_eq_true c16
            try have c16b2 : (9223372036854775807 < x3_5.size + ((rd_T77 l0 x4_1).f2).size) = False := eq_false (Nat.not_lt.2 c16)
            have H' := Aside0.mk H
            clear H
            have p141 : 0 ≤ (x4_1 : Int) := of_decide_eq_true (za _)
            have q141 : x4_1 < (l0.length : Int) := of_decide_eq_true (za _)
            obtain ⟨ad141, e141, hx141_0, hx141_1, hx141_2⟩ := at_T77 HR0.out x4_1 p141 q141
            cases e141
            replace hx141_0 := (HB.out.cell (World.block_lt_of_cell? w _ hx141_0)).trans hx141_0
            replace hx141_1 := (HB.out.cell (World.block_lt_of_cell? w _ hx141_1)).trans hx141_1
            replace hx141_2 := (HB.out.cell (World.block_lt_of_cell? w _ hx141_2)).trans hx141_2
            replace p141 := eq_true p141
            replace q141 := eq_true q141
            have p144 : 0 ≤ (x4_1 : Int) := of_decide_eq_true (za _)
            have q144 : x4_1 < (l0.length : Int) := of_decide_eq_true (za _)
            obtain ⟨ad144, e144, hx144_0, hx144_1, hx144_2⟩ := at_T77 HR0.out x4_1 p144 q144
            obtain rfl : ad141 = ad144 := (by injection e144)
            replace hx144_0 := (HB.out.cell (World.block_lt_of_cell? w _ hx144_0)).trans hx144_0
            replace hx144_1 := (HB.out.cell (World.block_lt_of_cell? w _ hx144_1)).trans hx144_1
            replace hx144_2 := (HB.out.cell (World.block_lt_of_cell? w _ hx144_2)).trans hx144_2
            replace p144 := eq_true p144
            replace q144 := eq_true q144
            go_wp2
            go_roundg kj5
            case measure => have := HK1.out; have := HJ5.out; omega
            case rel => exact ⟨(x3_5 ++ ((rd_T77 l0 x4_1).f2)), (wrap64 (x4_1 + 1)), (zE _), (zE _), H', ⟨by have := HK1.out; have := HJ5.out; omega⟩, ⟨zb _⟩⟩
           ·rw [if_neg c16] at H
            exact absurd H (by simp)
          ·rw [if_neg c15] at H
           have c15b0 : (((rd_T77 l0 x4_1).f0) == 2) = false := beq_eq_false_iff_ne.mpr c15
           have c15b1 : (((rd_T77 l0 x4_1).f0) != 2) = true := bne_iff_ne.mpr c15
           by_cases c17 : ((rd_T77 l0 x4_1).f0) = 3
           ·rw [if_pos c17] at H
            have c17b0 : (((rd_T77 l0 x4_1).f0) == 3) = true := beq_iff_eq.mpr c17
            have c17b1 : (((rd_T77 l0 x4_1).f0) != 3) = false := bne_eq_false_iff_eq.mpr c17
            clear c17
            by_cases c18 : x3_5.size + 1 ≤ 9223372036854775807
            ·rw [if_pos c18] at H
             have c18b0 := eq_true c18
             have c18b1 : decide (x3_5.size + 1 ≤ 9223372036854775807) = true := decide_eq_true c18
             try have c18b2 : (9223372036854775807 < x3_5.size + 1) = False := eq_false (Nat.not_lt.2 c18)
             by_cases c19 : (x3_5 ++ (⟨#[35]⟩ : ByteArray)).size + ((rd_T77 l0 x4_1).f2).size ≤ 9223372036854775807
             ·rw [if_pos c19] at H
              have c19b0 := eq_true c19
              have c19b1 : decide ((x3_5 ++ (⟨#[35]⟩ : ByteArray)).size + ((rd_T77 l0 x4_1).f2).size ≤ 9223372036854775807) = true := decide_eq_true c19
              try have c19b2 : (9223372036854775807 < (x3_5 ++ (⟨#[35]⟩ : ByteArray)).size + ((rd_T77 l0 x4_1).f2).size) = False := eq_false (Nat.not_lt.2 c19)
              have H' := Aside0.mk H
              clear H
              have p141 : 0 ≤ (x4_1 : Int) := of_decide_eq_true (za _)
              have q141 : x4_1 < (l0.length : Int) := of_decide_eq_true (za _)
              obtain ⟨ad141, e141, hx141_0, hx141_1, hx141_2⟩ := at_T77 HR0.out x4_1 p141 q141
              cases e141
              replace hx141_0 := (HB.out.cell (World.block_lt_of_cell? w _ hx141_0)).trans hx141_0
              replace hx141_1 := (HB.out.cell (World.block_lt_of_cell? w _ hx141_1)).trans hx141_1
              replace hx141_2 := (HB.out.cell (World.block_lt_of_cell? w _ hx141_2)).trans hx141_2
              replace p141 := eq_true p141
              replace q141 := eq_true q141
              have p145 : 0 ≤ (x4_1 : Int) := of_decide_eq_true (za _)
              have q145 : x4_1 < (l0.length : Int) := of_decide_eq_true (za _)
              obtain ⟨ad145, e145, hx145_0, hx145_1, hx145_2⟩ := at_T77 HR0.out x4_1 p145 q145
              obtain rfl : ad141 = ad145 := (by injection e145)
              replace hx145_0 := (HB.out.cell (World.block_lt_of_cell? w _ hx145_0)).trans hx145_0
              replace hx145_1 := (HB.out.cell (World.block_lt_of_cell? w _ hx145_1)).trans hx145_1
              replace hx145_2 := (HB.out.cell (World.block_lt_of_cell? w _ hx145_2)).trans hx145_2
              replace p145 := eq_true p145
              replace q145 := eq_true q145
              go_wp2
              go_roundg kj5
              case measure => have := HK1.out; have := HJ5.out; omega
              case rel => exact ⟨((x3_5 ++ (⟨#[35]⟩ : ByteArray)) ++ ((rd_T77 l0 x4_1).f2)), (wrap64 (x4_1 + 1)), (zE _), (zE _), H', ⟨by have := HK1.out; have := HJ5.out; omega⟩, ⟨zb _⟩⟩
             ·rw [if_neg c19] at H
              exact absurd H (by simp)
            ·rw [if_neg c18] at H
             exact absurd H (by simp)
           ·rw [if_neg c17] at H
            have c17b0 : (((rd_T77 l0 x4_1).f0) == 3) = false := beq_eq_false_iff_ne.mpr c17
            have c17b1 : (((rd_T77 l0 x4_1).f0) != 3) = true := bne_iff_ne.mpr c17
            obtain ⟨t146, A200, H⟩ := Option.bind_eq_some_iff.mp H
            have A20 := Aside0.mk A200
            clear A200
            by_cases c21 : 0 ≤ ((rd_T77 l0 x4_1).f0)
            ·rw [if_pos c21] at H
             have c21b0 : decide (0 ≤ ((rd_T77 l0 x4_1).f0)) = true := decide_eq_true c21
             clear c21
             by_cases c22 : ((rd_T77 l0 x4_1).f0) < (t146.length : Int)
             ·rw [if_pos c22] at H
              have c22b0 : decide (((rd_T77 l0 x4_1).f0) < (t146.length : Int)) = true := decide_eq_true c22
              clear c22
              by_cases c23 : x3_5.size + (rdOf ByteArray.empty t146 ((rd_T77 l0 x4_1).f0)).size ≤ 9223372036854775807
              ·rw [if_pos c23] at H
               have c23b0 := eq_true c23
               have c23b1 : decide (x3_5.size + (rdOf ByteArray.empty t146 ((rd_T77 l0 x4_1).f0)).size ≤ 9223372036854775807) = true := decide_eq_true c23
               try have c23b2 : (9223372036854775807 < x3_5.size + (rdOf ByteArray.empty t146 ((rd_T77 l0 x4_1).f0)).size) = False := eq_false (Nat.not_lt.2 c23)
               have H' := Aside0.mk H
               clear H
               have p141 : 0 ≤ (x4_1 : Int) := of_decide_eq_true (za _)
               have q141 : x4_1 < (l0.length : Int) := of_decide_eq_true (za _)
               obtain ⟨ad141, e141, hx141_0, hx141_1, hx141_2⟩ := at_T77 HR0.out x4_1 p141 q141
               cases e141
               replace hx141_0 := (HB.out.cell (World.block_lt_of_cell? w _ hx141_0)).trans hx141_0
               replace hx141_1 := (HB.out.cell (World.block_lt_of_cell? w _ hx141_1)).trans hx141_1
               replace hx141_2 := (HB.out.cell (World.block_lt_of_cell? w _ hx141_2)).trans hx141_2
               replace p141 := eq_true p141
               replace q141 := eq_true q141
               have pk_ : 0 ≤ ((rd_T77 l0 x4_1).f0) := of_decide_eq_true c21b0
               have qk_ : ((rd_T77 l0 x4_1).f0) < (t146.length : Int) := of_decide_eq_true c22b0
               have tl_ : t146.length = 18 := by obtain rfl := Option.some.inj A20.out; rfl
               obtain ⟨ik_, hk_⟩ : ∃ i_ : Nat, ((rd_T77 l0 x4_1).f0) = (i_ : Int) := ⟨_, (Int.toNat_of_nonneg pk_).symm⟩
               have lt_ : ik_ < 18 := by rw [tl_, hk_] at qk_; omega
               have hs_ : spec_l2Words.arr[ik_]? = some (.string (rdOf ByteArray.empty t146 ((rd_T77 l0 x4_1).f0))) := by rw [hk_]; exact spec_l2Words.arr_at ik_ lt_ A20.out
               obtain ⟨sw_, hsw_⟩ : ∃ s_ : ByteArray, rdOf ByteArray.empty t146 ((rd_T77 l0 x4_1).f0) = s_ := ⟨_, rfl⟩
               rw [hsw_] at hs_ c23 c23b0 c23b1 c23b2
               have lti_ : ((ik_ : Int)) < 18 := by omega
               rw [hk_] at hx141_0
               clear pk_ qk_ tl_ c21b0 c22b0 A20
               have blt_ := World.block_lt_of_cell? wc _ hx141_0
               go_wp2
               go_region_with (go_at_call 116; refine (spec_l2Words.concrete _).mono ?_; rintro e w' ⟨rfl, rfl⟩)
               all_goals go_wp2
               all_goals (subst hsw_; go_roundg kj5; (case measure => have := HK1.out; have := HJ5.out; omega); (case rel => exact ⟨(x3_5 ++ (rdOf ByteArray.empty t146 ((rd_T77 l0 x4_1).f0))), (wrap64 (x4_1 + 1)), (zE _), (zE _), H', ⟨by have := HK1.out; have := HJ5.out; omega⟩, ⟨zb _⟩⟩))
              ·rw [if_neg c23] at H
               exact absurd H (by simp)
             ·rw [if_neg c22] at H
              exact absurd H (by simp)
            ·rw [if_neg c21] at H
             exact absurd H (by simp)
        ·rw [if_neg c10] at H
         exact absurd H (by simp)
       ·rw [if_neg c9] at H
        exact absurd H (by simp)
    ·rw [if_neg c5] at H
     have c5b0 : decide (x4_1 < (l0.length : Int)) = false := decide_eq_false c5
     clear c5
     obtain rfl := Option.some.inj H
     go_wp2
     first | go_ret | ((try simp only [Exit.inBlock, Exit.then]); apply bodyPost_ret; (exact results_tmp rfl _ _ _); rfl)
     exact ⟨ze _, zb _⟩
 ·replace c3 := Bool.eq_false_iff.mpr c3
  subst c3
  rw [if_neg (show ¬ (false = true) by decide)] at H
  obtain rfl := Option.some.inj H
  go_enter Tryd.func73, Tryd.ntmps73
  go_wp2_with (first | ((with_reducible refine gate_callee (f := 118) rfl ?_); refine zc (some 6) Tryd.func118 #[.slice A0 l0.length c0] ?_; (with_reducible refine (spec_ExprOk.calls k _ _ l0 false _ ?side1 ?side2 A2.out).mono ?_); (case side1 => repeat (first | exact HR0.out | (with_reducible refine Kd.C_alloc ?_ _) | (with_reducible refine Kd.C_drewN ?_ _) | (with_reducible refine Kd.C_drew ?_))); (case side2 => exact HC0.out); rintro e w27 ⟨rfl, hb⟩; refine ⟨_, rfl, ?_⟩; replace HB := zt w hb; (try clear hb); (try clear hb2); (try clear hk); (try clear hi)))
  first | go_ret | ((try simp only [Exit.inBlock, Exit.then]); apply bodyPost_ret; (exact results_tmp rfl _ _ _); rfl)
  exact ⟨ze _, zb _⟩

/-! ### spec_ReadExpr: function 29 -/
mutual
def spec_ReadExpr.l0 : Nat → ByteArray → List (S77) → ByteArray → Bool → Option ((List (S77)) × Bool)
  | 0, _, _, _, _ => none
  | k + 1, x0, x4, x5, x6 => if x6 = true then (spec_ReadExpr.j1 k x0 x4 x5 (decide ((x4.length : Int) ≤ 30))) else (spec_ReadExpr.j1 k x0 x4 x5 false)
def spec_ReadExpr.j1 : Nat → ByteArray → List (S77) → ByteArray → Bool → Option ((List (S77)) × Bool)
  | 0, _, _, _, _ => none
  | k + 1, x0, x4, x5, x15 => if x15 = true then ((spec_l1Cut.f k x5 32).bind fun bt154 => ((spec_l2Word.f k bt154.1).bind fun bt157 => (if x4.length < 4398046511104 then (spec_ReadExpr.l0 k x0 (x4 ++ [(⟨bt157.1, bt157.2.1, bt157.2.2⟩ : S77)]) bt154.2.1 bt154.2.2) else (none)))) else (if x0.toList = ([] : List UInt8) then (some (([] : List (S77)), false)) else ((spec_ExprText.f k x4).bind fun t163 => (if t163.toList = x0.toList then (some (x4, true)) else (some (([] : List (S77)), false)))))
end
def spec_ReadExpr.f (k : Nat) (a0 : ByteArray) : Option ((List (S77)) × Bool) := spec_ReadExpr.l0 k a0 (([] : List (S77))) a0 true
theorem spec_ReadExpr.mono_l : ∀ k, (∀ y0 y1 y2 y3, LeO (spec_ReadExpr.l0 k y0 y1 y2 y3) (spec_ReadExpr.l0 (k + 1) y0 y1 y2 y3)) ∧ (∀ y0 y1 y2 y3, LeO (spec_ReadExpr.j1 k y0 y1 y2 y3) (spec_ReadExpr.j1 (k + 1) y0 y1 y2 y3))
  | 0 => ⟨fun _ _ _ _ r h => by simp [spec_ReadExpr.l0] at h, fun _ _ _ _ r h => by simp [spec_ReadExpr.j1] at h⟩
  | k + 1 => by
    obtain ⟨ih0, ih1⟩ := spec_ReadExpr.mono_l k
    refine ⟨?_, ?_⟩
    · intro y0 y1 y2 y3
      unfold spec_ReadExpr.l0
      repeat' first
      | (with_reducible exact ih0 _ _ _ _)
      | (with_reducible exact ih1 _ _ _ _)
      | (with_reducible exact spec_ExprText.mono _ _)
      | (with_reducible exact spec_l1Cut.mono _ _ _)
      | (with_reducible exact spec_l2Word.mono _ _)
      | (with_reducible exact LeO.refl _)
      | (with_reducible exact LeO.none _)
      | (with_reducible refine LeO.ite ?_ ?_)
      | (with_reducible refine LeO.bind ?_ (fun _ => ?_))
      | exact ih0 _ _ _ _
      | exact ih1 _ _ _ _
      | exact spec_ExprText.mono _ _
      | exact spec_l1Cut.mono _ _ _
      | exact spec_l2Word.mono _ _
      | exact LeO.none _
      | refine LeO.ite ?_ ?_
      | refine LeO.bind ?_ (fun _ => ?_)
    · intro y0 y1 y2 y3
      unfold spec_ReadExpr.j1
      repeat' first
      | (with_reducible exact ih0 _ _ _ _)
      | (with_reducible exact ih1 _ _ _ _)
      | (with_reducible exact spec_ExprText.mono _ _)
      | (with_reducible exact spec_l1Cut.mono _ _ _)
      | (with_reducible exact spec_l2Word.mono _ _)
      | (with_reducible exact LeO.refl _)
      | (with_reducible exact LeO.none _)
      | (with_reducible refine LeO.ite ?_ ?_)
      | (with_reducible refine LeO.bind ?_ (fun _ => ?_))
      | exact ih0 _ _ _ _
      | exact ih1 _ _ _ _
      | exact spec_ExprText.mono _ _
      | exact spec_l1Cut.mono _ _ _
      | exact spec_l2Word.mono _ _
      | exact LeO.none _
      | refine LeO.ite ?_ ?_
      | refine LeO.bind ?_ (fun _ => ?_)
theorem spec_ReadExpr.mono : ∀ a0 k, LeO (spec_ReadExpr.f k a0) (spec_ReadExpr.f (k + 1) a0) := by
  intro a0 k
  obtain ⟨ih0, ih1⟩ := spec_ReadExpr.mono_l k
  unfold spec_ReadExpr.f
  repeat' first
      | (with_reducible exact ih0 _ _ _ _)
      | (with_reducible exact ih1 _ _ _ _)
      | (with_reducible exact spec_ExprText.mono _ _)
      | (with_reducible exact spec_l1Cut.mono _ _ _)
      | (with_reducible exact spec_l2Word.mono _ _)
      | (with_reducible exact LeO.refl _)
      | (with_reducible exact LeO.none _)
      | (with_reducible refine LeO.ite ?_ ?_)
      | (with_reducible refine LeO.bind ?_ (fun _ => ?_))
      | exact ih0 _ _ _ _
      | exact ih1 _ _ _ _
      | exact spec_ExprText.mono _ _
      | exact spec_l1Cut.mono _ _ _
      | exact spec_l2Word.mono _ _
      | exact LeO.none _
      | refine LeO.ite ?_ ?_
      | refine LeO.bind ?_ (fun _ => ?_)
set_option maxHeartbeats 8000000 in
set_option maxRecDepth 100000 in
theorem spec_ReadExpr.calls (k : Nat) (a0 : ByteArray) (r1 : List (S77)) (r2 : Bool) (w : World) (h : spec_ReadExpr.f k a0 = some (r1, r2)) :
 Calls Tryd.prog 29 #[.string a0] w fun e w' => ∃ v0_ : Value, e = .returned (.tuple #[v0_, .bool r2]) ∧ Kd.R k77 77 w' w.heap.size (fun _ => True) v0_ r1 ∧ Below w.heap.size w w' := by
 have HB := Aside0.mk (Below.refl w.heap.size w)
 have H : (spec_ReadExpr.l0 k a0 (([] : List (S77))) a0 true) = some (r1, r2) := h
 clear h
 obtain ⟨y151, hy151⟩ : ∃ y_ : List (S77), y_ = (([] : List (S77))) := ⟨_, rfl⟩
 replace H : (spec_ReadExpr.l0 k a0 y151 a0 true) = some (r1, r2) := by first | (rw [hy151]; with_reducible exact H) | (have H2_ := (Option.bind_some _ _).symm.trans H; rw [hy151]; with_reducible exact H2_) | (have H2_ := (Option.bind_some _ _).symm.trans H; with_reducible exact H2_) | with_reducible exact H | (rw [hy151]; exact H) | exact H
 have Ny151 := Aside0.mk hy151
 clear hy151
 have H' := Aside0.mk H
 clear H
 go_enter Tryd.func29, Tryd.ntmps29
 go_wp2_with (first | ((with_reducible refine gate_dst (N := 8) rfl ?_); (try (refine gate_guard (by rfl) ?_; dsimp only)); refine Kd.R_lit k77 _ 77 ?hg (N := 8) ?hd (xs := ([] : List (S77))) (inner := []) (ok := fun _ => True) (okp := fun _ => True) ?hr ?hp (fun _ hk => hk) trivial (Below.refl _ _) (Nat.le_refl _) (by simp) ?_; (case hd => rfl); (case hg => rfl); (case hr => first | (go_simp; done) | (go_simp; rfl)); (case hp => exact (Reps.none _ _)); intro v152 w2 ho3 hb hg_ hnew_; clear hg_ hnew_; (first | rw [← Ny151.out] at ho3 | (simp only [Int.reduceToNat] at ho3; rw [← Ny151.out] at ho3)); have HO153 := Aside0.mk (Kd.R_lower ho3 (below_size (zb _))); replace HB := zt w hb; clear hb ho3))
 go_loopg [4, 5, 6] k (fun kq v4 v5 v6 w' => ∃ (x4_1 : List (S77)) (x5_1 : ByteArray) (x6_1 : Bool), v5 = .string x5_1 ∧ v6 = .bool x6_1 ∧ Aside0 (spec_ReadExpr.l0 kq a0 x4_1 x5_1 x6_1 = some (r1, r2)) ∧ Aside0 (kq ≤ k) ∧ Aside0 (Kd.R k77 77 w' w.heap.size (fun _ => True) v4 x4_1) ∧ Aside0 (Below w.heap.size w w'))
 case atStart => exact ⟨(y151), (a0), (true), (zE _), (zE _), H', ⟨Nat.le_refl _⟩, ⟨by (with_reducible repeat (first | apply Kd.R_alloc | apply Kd.R_drewN | apply Kd.R_drew)); exact HO153.out⟩, ⟨zb _⟩⟩
 case round =>
  clear H'
  try clear c2
  try clear p2
  obtain ⟨x4_1, x5_1, x6_1, rfl, rfl, HA, HK1, HO_4, HB⟩ := hrel
  cases gk with
  | zero => exact absurd HA.out (by simp [spec_ReadExpr.l0])
  | succ k1 =>
   have H := HA.out
   clear HA
   simp only [spec_ReadExpr.l0] at H
   have HC4 := Aside0.mk H
   clear H
   go_upto_region 4 with (fail)
   go_cut [15] (fun v15 wc => ∃ (kq : Nat) (x15_3 : Bool), v15 = .bool x15_3 ∧ Aside0 (spec_ReadExpr.j1 kq a0 x4_1 x5_1 x15_3 = some (r1, r2)) ∧ Aside0 (kq ≤ k1) ∧ Aside0 (Kd.R k77 77 wc w.heap.size (fun _ => True) u4 x4_1) ∧ Aside0 (Below w.heap.size w wc))
   case first =>
    have H := HC4.out
    clear HC4
    by_cases c5 : x6_1 = true
    ·subst c5
     rw [if_pos rfl] at H
     have H' := Aside0.mk H
     clear H
     obtain ⟨Ao6, co6, eo6⟩ := Kd.R_slice HO_4.out
     subst eo6
     go_wp2
     go_meet
     case rel => exact ⟨_, (decide ((x4_1.length : Int) ≤ 30)), (zE _), H', ⟨by have := HK1.out; first | omega | exact Nat.le_refl _⟩, ⟨by (with_reducible repeat (first | apply Kd.R_alloc | apply Kd.R_drewN | apply Kd.R_drew)); exact HO_4.out⟩, ⟨zb _⟩⟩
    ·replace c5 := Bool.eq_false_iff.mpr c5
     subst c5
     rw [if_neg (show ¬ (false = true) by decide)] at H
     have H' := Aside0.mk H
     clear H
     go_wp2
     go_meet
     case rel => exact ⟨_, (false), (zE _), H', ⟨by have := HK1.out; first | omega | exact Nat.le_refl _⟩, ⟨by (with_reducible repeat (first | apply Kd.R_alloc | apply Kd.R_drewN | apply Kd.R_drew)); exact HO_4.out⟩, ⟨zb _⟩⟩
   case rest =>
    clear HC4
    try clear c2
    try clear p2
    try clear c5
    try clear p2
    obtain ⟨kq, x15_3, rfl, HA, HJ3, HO_4, HB⟩ := hcut
    cases kq with
    | zero => exact absurd HA.out (by simp [spec_ReadExpr.j1])
    | succ kj3 =>
     have H := HA.out
     clear HA
     simp only [spec_ReadExpr.j1] at H
     by_cases c7 : x15_3 = true
     ·subst c7
      rw [if_pos rfl] at H
      replace H := Option.bind_eq_some_iff.mp H
      obtain ⟨⟨t154, t155, t156⟩, A80, H⟩ := H
      replace H : ((spec_l2Word.f kj3 t154).bind fun bt157 => (if x4_1.length < 4398046511104 then (spec_ReadExpr.l0 kj3 a0 (x4_1 ++ [(⟨bt157.1, bt157.2.1, bt157.2.2⟩ : S77)]) t155 t156) else (none))) = some (r1, r2) := H
      have A8 := Aside0.mk A80
      clear A80
      replace H := Option.bind_eq_some_iff.mp H
      obtain ⟨⟨t157, t158, t159⟩, A90, H⟩ := H
      replace H : (if x4_1.length < 4398046511104 then (spec_ReadExpr.l0 kj3 a0 (x4_1 ++ [(⟨t157, t158, t159⟩ : S77)]) t155 t156) else (none)) = some (r1, r2) := H
      have A9 := Aside0.mk A90
      clear A90
      by_cases c10 : x4_1.length < 4398046511104
      ·rw [if_pos c10] at H
       have LMc10 := Aside0.mk c10
       clear c10
       obtain ⟨y160, hy160⟩ : ∃ y_ : List (S77), y_ = (x4_1 ++ [(⟨t157, t158, t159⟩ : S77)]) := ⟨_, rfl⟩
       replace H : (spec_ReadExpr.l0 kj3 a0 y160 t155 t156) = some (r1, r2) := by first | (rw [hy160]; with_reducible exact H) | (have H2_ := (Option.bind_some _ _).symm.trans H; rw [hy160]; with_reducible exact H2_) | (have H2_ := (Option.bind_some _ _).symm.trans H; with_reducible exact H2_) | with_reducible exact H | (rw [hy160]; exact H) | exact H
       have Ny160 := Aside0.mk hy160
       clear hy160
       have H' := Aside0.mk H
       clear H
       go_wp2_with (first | ((with_reducible refine gate_callee (f := 65) rfl ?_); refine zc (some 18) Tryd.func65 #[.string x5_1, .int .u8 32] ?_; (with_reducible refine (spec_l1Cut.calls kj3 x5_1 32 t154 t155 t156 _ A8.out).mono ?_); rintro e w' ⟨rfl, ⟨nd, rfl⟩⟩; refine ⟨_, rfl, ?_⟩) | ((with_reducible refine gate_callee (f := 72) rfl ?_); refine zc (some 24) Tryd.func72 #[.string t154] ?_; (with_reducible refine (spec_l2Word.calls kj3 t154 t157 t158 t159 _ A9.out).mono ?_); rintro e w11 ⟨rfl, hb⟩; refine ⟨_, rfl, ?_⟩; replace HO_4 := Aside0.mk (Kd.R_below (by (with_reducible repeat (first | apply Kd.R_alloc | apply Kd.R_drewN | apply Kd.R_drew)); exact HO_4.out) hb); replace HB := zt w hb; (try clear hb); (try clear hb2); (try clear hk); (try clear hi)) | ((with_reducible refine gate_builtin (b := .append) (xs := #[.tmp 22, .tmp 25]) rfl ?_); (try (refine gate_guard (by rfl) ?_; dsimp only)); at_builtin; refine Kd.R_append k77 (w0 := w) w.heap.size rfl (.tmp 22) (.tmp 25) 38 77 (.agg #[(.int .i64 0), (.int .i64 0), (.string ⟨#[]⟩)]) 32 rfl Tryd.underlying38 info77 rfl (by decide) (by omega) u4 x4_1 (⟨t157, t158, t159⟩ : S77) [.int .i64 t157, .int .i64 t158, .string t159] (fun _ => True) (fun _ => False) rfl rfl ?aP (fun _ hk => hk.elim) ?aF ?aO ?aB ?aS ?aL ?_; (case aP => exact k77_mkM _ _ _ (⟨t157, t158, t159⟩ : S77)); (case aB => exact (zb _)); (case aF => exact (fun _ _ => trivial)); (case aO => exact (by (with_reducible repeat (first | apply Kd.R_alloc | apply Kd.R_drewN | apply Kd.R_drew)); exact HO_4.out)); (case aS => exact (below_size (zb _))); (case aL => have := LMc10.out; omega); intro v161 w12 ho hb hg hat; rw [← Ny160.out] at ho; have HO162 := Aside0.mk (ho); replace HB := Aside0.mk (hb); clear HO_4; clear ho hb hg hat))
       go_roundg kj3
       case measure => have := HK1.out; have := HJ3.out; omega
       case rel => exact ⟨(y160), (t155), (t156), (zE _), (zE _), H', ⟨by have := HK1.out; have := HJ3.out; omega⟩, ⟨by (with_reducible repeat (first | apply Kd.R_alloc | apply Kd.R_drewN | apply Kd.R_drew)); exact HO162.out⟩, ⟨zb _⟩⟩
      ·rw [if_neg c10] at H
       exact absurd H (by simp)
     ·replace c7 := Bool.eq_false_iff.mpr c7
      subst c7
      rw [if_neg (show ¬ (false = true) by decide)] at H
      by_cases c13 : a0.toList = ([] : List UInt8)
      ·rw [if_pos c13] at H
       have c13b0 : (a0.toList == ([] : List UInt8)) = true := beq_iff_eq.mpr c13
       have c13b1 : (a0.toList != ([] : List UInt8)) = false := bne_eq_false_iff_eq.mpr c13
       clear c13
       simp only [Option.some.injEq, Prod.mk.injEq] at H
       obtain ⟨rfl, rfl⟩ := H
       go_wp2
       go_ret2
       exact ⟨_, by first | rfl | (simp [errW_none, errW_some] <;> rfl) | (simp [*, errW_none, errW_some] <;> rfl), by first | exact Kd.R_nil _ _ _ _ _ | exact Kd.N_nil _ _ _ _ _ | exact Kd.V_nil _ _ _ _ _ | exact Kd.Q_nil _ _ _ _ _ | exact Kd.S_nil _ _ _ _ _, zb _⟩
      ·rw [if_neg c13] at H
       have c13b0 : (a0.toList == ([] : List UInt8)) = false := beq_eq_false_iff_ne.mpr c13
       have c13b1 : (a0.toList != ([] : List UInt8)) = true := bne_iff_ne.mpr c13
       obtain ⟨t163, A140, H⟩ := Option.bind_eq_some_iff.mp H
       have A14 := Aside0.mk A140
       clear A140
       by_cases c15 : t163.toList = a0.toList
       ·rw [if_pos c15] at H
        have c15b0 : (t163.toList == a0.toList) = true := beq_iff_eq.mpr c15
        have c15b1 : (t163.toList != a0.toList) = false := bne_eq_false_iff_eq.mpr c15
        clear c15
        simp only [Option.some.injEq, Prod.mk.injEq] at H
        obtain ⟨rfl, rfl⟩ := H
        obtain ⟨Ao16, co16, eo16⟩ := Kd.R_slice HO_4.out
        subst eo16
        go_wp2_with (first | (go_at_call 73; (with_reducible refine (spec_ExprText.calls kj3 _ _ x4_1 t163 _ ?side1 ?side2 A14.out).mono ?_); (case side1 => repeat (first | exact (Kd.R_reads' HO_4.out).2.2 | (with_reducible refine Kd.C_alloc ?_ _) | (with_reducible refine Kd.C_drewN ?_ _) | (with_reducible refine Kd.C_drew ?_))); (case side2 => exact (Kd.R_reads' HO_4.out).2.1); rintro e w17 ⟨rfl, hb⟩; replace HO_4 := Aside0.mk (Kd.R_below (by (with_reducible repeat (first | apply Kd.R_alloc | apply Kd.R_drewN | apply Kd.R_drew)); exact HO_4.out) hb); replace HB := zt w hb; (try clear hb); (try clear hb2); (try clear hk); (try clear hi)))
        go_ret2
        exact ⟨_, by first | rfl | (simp [errW_none, errW_some] <;> rfl) | (simp [*, errW_none, errW_some] <;> rfl), by (with_reducible repeat (first | apply Kd.R_alloc | apply Kd.R_drewN | apply Kd.R_drew)); exact HO_4.out, zb _⟩
       ·rw [if_neg c15] at H
        have c15b0 : (t163.toList == a0.toList) = false := beq_eq_false_iff_ne.mpr c15
        have c15b1 : (t163.toList != a0.toList) = true := bne_iff_ne.mpr c15
        simp only [Option.some.injEq, Prod.mk.injEq] at H
        obtain ⟨rfl, rfl⟩ := H
        obtain ⟨Ao18, co18, eo18⟩ := Kd.R_slice HO_4.out
        subst eo18
        go_wp2_with (first | (go_at_call 73; (with_reducible refine (spec_ExprText.calls kj3 _ _ x4_1 t163 _ ?side1 ?side2 A14.out).mono ?_); (case side1 => repeat (first | exact (Kd.R_reads' HO_4.out).2.2 | (with_reducible refine Kd.C_alloc ?_ _) | (with_reducible refine Kd.C_drewN ?_ _) | (with_reducible refine Kd.C_drew ?_))); (case side2 => exact (Kd.R_reads' HO_4.out).2.1); rintro e w19 ⟨rfl, hb⟩; replace HO_4 := Aside0.mk (Kd.R_below (by (with_reducible repeat (first | apply Kd.R_alloc | apply Kd.R_drewN | apply Kd.R_drew)); exact HO_4.out) hb); replace HB := zt w hb; (try clear hb); (try clear hb2); (try clear hk); (try clear hi)))
        go_ret2
        exact ⟨_, by first | rfl | (simp [errW_none, errW_some] <;> rfl) | (simp [*, errW_none, errW_some] <;> rfl), by first | exact Kd.R_nil _ _ _ _ _ | exact Kd.N_nil _ _ _ _ _ | exact Kd.V_nil _ _ _ _ _ | exact Kd.Q_nil _ _ _ _ _ | exact Kd.S_nil _ _ _ _ _, zb _⟩

/-! ### strings_Split: function 67 -/
def strings_Split.f (a0 a1 : ByteArray) : Option (List ByteArray) := if a0.size < 4294967281 then (if 1 ≤ a1.size then some (Go.Lib.splitB a1 0 (Go.Lib.countB a0 a1) a0) else none) else none
open Go.Proofs.YtmiebnpmckjidaaDoor.Aid in
theorem strings_Split.calls (a0 a1 : ByteArray) (r : List ByteArray) (w : World) (hG : GW w) (h : strings_Split.f a0 a1 = some r) :
 Calls Tryd.prog 67 #[.string a0, .string a1] w fun e w' => ∃ v0_ : Value, e = .returned (v0_) ∧ Kd.R Kd.string 9 w' w.heap.size (fun _ => True) v0_ r ∧ Below w.heap.size w w' := by
 unfold strings_Split.f at h
 by_cases h0 : a0.size < 4294967281
 ·by_cases h1 : 1 ≤ a1.size
  ·rw [if_pos h0, if_pos h1] at h
   obtain rfl := Option.some.inj h
   obtain ⟨m, hm⟩ := hG.maxlen
   refine (Tryd.strings_Split a0 a1 m w h0 hm h1).mono ?_
   rintro e w' ⟨rfl, rfl⟩
   have hlen := Go.Lib.splitB_all a1 h1 0 _ a0 rfl
   have hle := Go.Lib.countB_le a1 h1 a0.size a0 (Nat.le_refl _)
   refine ⟨_, rfl, ?_, below_alloc (Below.refl _ _) _⟩
   have := R_of_cells (e := 9) (base := w.heap.size) (g := w.heap.size) (cap := Go.Lib.countB a0 a1 + 1) (W := w.alloc (.cells ((Go.Lib.splitB a1 0 (Go.Lib.countB a0 a1) a0).map Value.string).toArray 9)) (ok := fun _ => True) (cur := ((Go.Lib.splitB a1 0 (Go.Lib.countB a0 a1) a0).map Value.string).toArray) (Go.Lib.splitB a1 0 (Go.Lib.countB a0 a1) a0) (Nat.le_refl _) trivial (by show (w.heap.push _)[w.heap.size]? = _; rw [Array.getElem?_push_size]) (by omega) (by unfold maxLen; omega) (by simp [hlen]) (by rw [List.take_of_length_le (by simp)])
   rw [hlen] at this
   exact this
  ·rw [if_pos h0, if_neg h1] at h
   cases h
 ·rw [if_neg h0] at h
  cases h

/-! ### stringslite_HasPrefix: function 140 -/
def stringslite_HasPrefix.f (a0 : ByteArray) (a1 : ByteArray) : Option (Bool) := if (a0.size : Int) ≥ (a1.size : Int) then (if 0 ≤ (a1.size : Int) then (if (a1.size : Int) ≤ (a0.size : Int) then (some ((a0.extract 0 ((a1.size : Int) : Int).toNat).toList == a1.toList)) else (none)) else (none)) else (some false)
set_option maxHeartbeats 8000000 in
set_option maxRecDepth 100000 in
theorem stringslite_HasPrefix.calls (a0 : ByteArray) (a1 : ByteArray) (r : Bool) (w : World) (h : stringslite_HasPrefix.f a0 a1 = some r) :
 Calls Tryd.prog 140 #[.string a0, .string a1] w fun e w' => e = .returned (.bool r) ∧ Drawn0 w w' := by
 have H : (if (a0.size : Int) ≥ (a1.size : Int) then (if 0 ≤ (a1.size : Int) then (if (a1.size : Int) ≤ (a0.size : Int) then (some ((a0.extract 0 ((a1.size : Int) : Int).toNat).toList == a1.toList)) else (none)) else (none)) else (some false)) = some r := h
 clear h
 by_cases c3 : (a0.size : Int) ≥ (a1.size : Int)
 ·rw [if_pos c3] at H
  have c3b0 : decide ((a1.size : Int) ≤ (a0.size : Int)) = true := decide_eq_true c3
  have c3b1 : decide (a1.size ≤ a0.size) = true := decide_eq_true (Int.ofNat_le.mp c3)
  clear c3
  by_cases c4 : 0 ≤ (a1.size : Int)
  ·rw [if_pos c4] at H
   have c4b0 := eq_true c4
   have c4b1 : decide (0 ≤ (a1.size : Int)) = true := decide_eq_true c4
   clear c4
   by_cases c5 : (a1.size : Int) ≤ (a0.size : Int)
   ·rw [if_pos c5] at H
    have c5b0 := eq_true c5
    have c5b1 : decide ((a1.size : Int) ≤ (a0.size : Int)) = true := decide_eq_true c5
    clear c5
    obtain rfl := Option.some.inj H
    go_enter Tryd.func140, Tryd.ntmps140
    go_wp2
    first | go_ret | ((try simp only [Exit.inBlock, Exit.then]); apply bodyPost_ret; (exact results_tmp rfl _ _ _); rfl)
    exact ⟨zE _, zd _⟩
   ·rw [if_neg c5] at H
    exact absurd H (by simp)
  ·rw [if_neg c4] at H
   exact absurd H (by simp)
 ·rw [if_neg c3] at H
  have c3b0 : decide ((a1.size : Int) ≤ (a0.size : Int)) = false := decide_eq_false c3
  have c3b1 : decide (a1.size ≤ a0.size) = false := decide_eq_false (fun h => c3 (Int.ofNat_le.mpr h))
  clear c3
  obtain rfl := Option.some.inj H
  go_enter Tryd.func140, Tryd.ntmps140
  go_wp2
  first | go_ret | ((try simp only [Exit.inBlock, Exit.then]); apply bodyPost_ret; (exact results_tmp rfl _ _ _); rfl)
  exact ⟨zE _, zd _⟩

/-! ### stringslite_CutPrefix: function 119 -/
def stringslite_CutPrefix.f (a0 : ByteArray) (a1 : ByteArray) : Option (ByteArray × Bool) := (stringslite_HasPrefix.f a0 a1).bind fun t164 => (if t164 = true then (if 0 ≤ (a1.size : Int) then (if (a1.size : Int) ≤ (a0.size : Int) then (some (a0.extract ((a1.size : Int) : Int).toNat a0.size, true)) else (none)) else (none)) else (some (a0, false)))
set_option maxHeartbeats 8000000 in
set_option maxRecDepth 100000 in
theorem stringslite_CutPrefix.calls (a0 : ByteArray) (a1 : ByteArray) (r1 : ByteArray) (r2 : Bool) (w : World) (h : stringslite_CutPrefix.f a0 a1 = some (r1, r2)) :
 Calls Tryd.prog 119 #[.string a0, .string a1] w fun e w' => e = .returned (.tuple #[.string r1, .bool r2]) ∧ Drawn0 w w' := by
 have H : ((stringslite_HasPrefix.f a0 a1).bind fun t164 => (if t164 = true then (if 0 ≤ (a1.size : Int) then (if (a1.size : Int) ≤ (a0.size : Int) then (some (a0.extract ((a1.size : Int) : Int).toNat a0.size, true)) else (none)) else (none)) else (some (a0, false)))) = some (r1, r2) := h
 clear h
 obtain ⟨t164, A30, H⟩ := Option.bind_eq_some_iff.mp H
 have A3 := Aside0.mk A30
 clear A30
 by_cases c4 : t164 = true
 ·subst c4
  rw [if_pos rfl] at H
  by_cases c5 : 0 ≤ (a1.size : Int)
  ·rw [if_pos c5] at H
   have c5b0 := eq_true c5
   have c5b1 : decide (0 ≤ (a1.size : Int)) = true := decide_eq_true c5
   clear c5
   by_cases c6 : (a1.size : Int) ≤ (a0.size : Int)
   ·rw [if_pos c6] at H
    have c6b0 := eq_true c6
    have c6b1 : decide ((a1.size : Int) ≤ (a0.size : Int)) = true := decide_eq_true c6
    clear c6
    simp only [Option.some.injEq, Prod.mk.injEq] at H
    obtain ⟨rfl, rfl⟩ := H
    go_enter Tryd.func119, Tryd.ntmps119
    go_wp2_with (first | ((with_reducible refine gate_callee (f := 140) rfl ?_); refine zc (some 8) Tryd.func140 #[.string a0, .string a1] ?_; (with_reducible refine (stringslite_HasPrefix.calls a0 a1 true _ A3.out).mono ?_); rintro e w' ⟨rfl, ⟨nd, rfl⟩⟩; refine ⟨_, rfl, ?_⟩))
    go_ret2
    exact ⟨zE _, zd _⟩
   ·rw [if_neg c6] at H
    exact absurd H (by simp)
  ·rw [if_neg c5] at H
   exact absurd H (by simp)
 ·replace c4 := Bool.eq_false_iff.mpr c4
  subst c4
  rw [if_neg (show ¬ (false = true) by decide)] at H
  simp only [Option.some.injEq, Prod.mk.injEq] at H
  obtain ⟨rfl, rfl⟩ := H
  go_enter Tryd.func119, Tryd.ntmps119
  go_wp2_with (first | ((with_reducible refine gate_callee (f := 140) rfl ?_); refine zc (some 8) Tryd.func140 #[.string a0, .string a1] ?_; (with_reducible refine (stringslite_HasPrefix.calls a0 a1 false _ A3.out).mono ?_); rintro e w' ⟨rfl, ⟨nd, rfl⟩⟩; refine ⟨_, rfl, ?_⟩))
  go_ret2
  exact ⟨zE _, zd _⟩

end Go.Proofs.YtmiebnpmckjidaaDoor.PFnExactReadExpr
