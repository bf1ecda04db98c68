/- What the Go functions that the law FnExactReadInsText reaches compute, function by function, and that Go comes to just that. -/
import Derived.Test.YtmiebnpmckjidaaGreatDoorPFnExactReadInsTextx0
import Derived.Test.YtmiebnpmckjidaaGreatDoorAidZ
import Derived.Test.YtmiebnpmckjidaaGreatDoorPFnExactReadInsTextx6
import Derived.Test.YtmiebnpmckjidaaGreatDoorPFnExactReadInsTextx8
import Derived.Test.YtmiebnpmckjidaaGreatDoorPFnExactReadInsTextx9
import Derived.Test.YtmiebnpmckjidaaGreatDoorPFnExactReadInsTextx10
namespace Go.Proofs.YtmiebnpmckjidaaGreatDoor.PFnExactReadInsText
open Go.RowKit Go.Proofs.YtmiebnpmckjidaaGreatDoor.Z Go.Proofs.YtmiebnpmckjidaaGreatDoorW.PrintWords Go.Proofs.YtmiebnpmckjidaaGreatDoorW.PrintLast Go.Proofs.YtmiebnpmckjidaaGreatDoorW.PrintMore
attribute [local go_sem] max2_int min2_int max_two min_two max_three min_three max_four min_four   -- for this text's walks alone
set_option linter.unusedVariables false
set_option linter.unusedSimpArgs false

/-! ### impl_ReadInsText: function 5 -/
mutual
def impl_ReadInsText.j0 : Nat → ByteArray → Bool → Option (Int × Bool × Int × Bool)
  | 0, _, _ => none
  | k + 1, x0, x22 => if x22 = true then (some (0, false, 0, false)) else ((impl_wholeIns.f k x0).bind fun bt248 => (if bt248.2.2.2 = true then (some (bt248.1, bt248.2.1, bt248.2.2.1, true)) else (impl_ReadInsText.l0 k x0 0)))
def impl_ReadInsText.l0 : Nat → ByteArray → Int → Option (Int × Bool × Int × Bool)
  | 0, _, _ => none
  | k + 1, x0, x31 => if x31 < 256 then ((impl_TemplateOf.f x31 false).bind fun t253 => ((impl_holeOf.f k t253).bind fun t254 => (if t254.toList = ([] : List UInt8) then (impl_ReadInsText.l0 k x0 (wrap64 (x31 + 1))) else ((impl_inHole.f t253 t254 x0).bind fun bt255 => (if bt255.2 = true then ((impl_ReadNum.f k bt255.1).bind fun bt257 => (if t254.toList = ([101, 56] : List UInt8) then ((strconv_ParseInt.f bt255.1 10 64).bind fun bt259 => (if bt259.2.isNone = true then ((impl_within.f bt259.1 (-128) 127).bind fun t262 => (if t262 = true then ((impl_InsText.f k x31 false (Go.bits .and .i64 bt259.1 255)).bind fun t264 => (if t264.toList = x0.toList then (some (x31, false, Go.bits .and .i64 bt259.1 255, true)) else (impl_ReadInsText.l0 k x0 (wrap64 (x31 + 1))))) else (impl_ReadInsText.l0 k x0 (wrap64 (x31 + 1))))) else (impl_ReadInsText.l0 k x0 (wrap64 (x31 + 1))))) else (if bt257.2 = true then ((impl_InsText.f k x31 false bt257.1).bind fun t267 => (if t267.toList = x0.toList then (some (x31, false, bt257.1, true)) else (impl_ReadInsText.l0 k x0 (wrap64 (x31 + 1))))) else (impl_ReadInsText.l0 k x0 (wrap64 (x31 + 1)))))) else (impl_ReadInsText.l0 k x0 (wrap64 (x31 + 1)))))))) else (some (0, false, 0, false))
end
def impl_ReadInsText.f (k : Nat) (a0 : ByteArray) : Option (Int × Bool × Int × Bool) := if (a0.size : Int) > 20 then (impl_ReadInsText.j0 k a0 true) else (impl_ReadInsText.j0 k a0 (a0.toList == ([] : List UInt8)))
theorem impl_ReadInsText.mono_l : ∀ k, (∀ y0 y1, LeO (impl_ReadInsText.j0 k y0 y1) (impl_ReadInsText.j0 (k + 1) y0 y1)) ∧ (∀ y0 y1, LeO (impl_ReadInsText.l0 k y0 y1) (impl_ReadInsText.l0 (k + 1) y0 y1))
  | 0 => ⟨fun _ _ r h => by simp [impl_ReadInsText.j0] at h, fun _ _ r h => by simp [impl_ReadInsText.l0] at h⟩
  | k + 1 => by
    obtain ⟨ih0, ih1⟩ := impl_ReadInsText.mono_l k
    refine ⟨?_, ?_⟩
    · intro y0 y1
      unfold impl_ReadInsText.j0
      repeat' first
      | (with_reducible exact ih0 _ _)
      | (with_reducible exact ih1 _ _)
      | (with_reducible exact impl_InsText.mono _ _ _ _)
      | (with_reducible exact impl_ReadNum.mono _ _)
      | (with_reducible exact impl_holeOf.mono _ _)
      | (with_reducible exact impl_wholeIns.mono _ _)
      | (with_reducible exact LeO.refl _)
      | (with_reducible exact LeO.none _)
      | (with_reducible refine LeO.ite ?_ ?_)
      | (with_reducible refine LeO.bind ?_ (fun _ => ?_))
      | exact ih0 _ _
      | exact ih1 _ _
      | exact impl_InsText.mono _ _ _ _
      | exact impl_ReadNum.mono _ _
      | exact impl_holeOf.mono _ _
      | exact impl_wholeIns.mono _ _
      | exact LeO.none _
      | refine LeO.ite ?_ ?_
      | refine LeO.bind ?_ (fun _ => ?_)
    · intro y0 y1
      unfold impl_ReadInsText.l0
      repeat' first
      | (with_reducible exact ih0 _ _)
      | (with_reducible exact ih1 _ _)
      | (with_reducible exact impl_InsText.mono _ _ _ _)
      | (with_reducible exact impl_ReadNum.mono _ _)
      | (with_reducible exact impl_holeOf.mono _ _)
      | (with_reducible exact impl_wholeIns.mono _ _)
      | (with_reducible exact LeO.refl _)
      | (with_reducible exact LeO.none _)
      | (with_reducible refine LeO.ite ?_ ?_)
      | (with_reducible refine LeO.bind ?_ (fun _ => ?_))
      | exact ih0 _ _
      | exact ih1 _ _
      | exact impl_InsText.mono _ _ _ _
      | exact impl_ReadNum.mono _ _
      | exact impl_holeOf.mono _ _
      | exact impl_wholeIns.mono _ _
      | exact LeO.none _
      | refine LeO.ite ?_ ?_
      | refine LeO.bind ?_ (fun _ => ?_)
theorem impl_ReadInsText.mono : ∀ a0 k, LeO (impl_ReadInsText.f k a0) (impl_ReadInsText.f (k + 1) a0) := by
  intro a0 k
  obtain ⟨ih0, ih1⟩ := impl_ReadInsText.mono_l k
  unfold impl_ReadInsText.f
  repeat' first
      | (with_reducible exact ih0 _ _)
      | (with_reducible exact ih1 _ _)
      | (with_reducible exact impl_InsText.mono _ _ _ _)
      | (with_reducible exact impl_ReadNum.mono _ _)
      | (with_reducible exact impl_holeOf.mono _ _)
      | (with_reducible exact impl_wholeIns.mono _ _)
      | (with_reducible exact LeO.refl _)
      | (with_reducible exact LeO.none _)
      | (with_reducible refine LeO.ite ?_ ?_)
      | (with_reducible refine LeO.bind ?_ (fun _ => ?_))
      | exact ih0 _ _
      | exact ih1 _ _
      | exact impl_InsText.mono _ _ _ _
      | exact impl_ReadNum.mono _ _
      | exact impl_holeOf.mono _ _
      | exact impl_wholeIns.mono _ _
      | exact LeO.none _
      | refine LeO.ite ?_ ?_
      | refine LeO.bind ?_ (fun _ => ?_)
set_option maxHeartbeats 8000000 in
set_option maxRecDepth 100000 in
theorem impl_ReadInsText.calls (k : Nat) (a0 : ByteArray) (r1 : Int) (r2 : Bool) (r3 : Int) (r4 : Bool) (w : World) (hG : GW w) (h : impl_ReadInsText.f k a0 = some (r1, r2, r3, r4)) :
 Calls Tryz.prog 5 #[.string a0] w fun e w' => e = .returned (.tuple #[.agg #[.int .i64 r1, .bool r2, .int .i64 r3], .bool r4]) ∧ Below w.heap.size w w' := by
 have hu23 := Tryz.underlying23
 have hu39 := Tryz.underlying39
 have HB := Aside0.mk (Below.refl w.heap.size w)
 have HG := Aside0.mk hG
 clear hG
 have H : (if (a0.size : Int) > 20 then (impl_ReadInsText.j0 k a0 true) else (impl_ReadInsText.j0 k a0 (a0.toList == ([] : List UInt8)))) = some (r1, r2, r3, r4) := h
 clear h
 have HC2 := Aside0.mk H
 clear H
 go_enter Tryz.func5, Tryz.ntmps5
 go_upto_region 1 with (first | ((with_reducible refine gate_dst (N := 2) rfl ?_); refine zbx 2 #[.int .i64 0, .bool false, .int .i64 0] 23 ?_; intro gb247 hg w3 hbox hb; have BK247 := Aside0.mk (hbox); have GW247 := zs w hg; have GE247 := GW247; replace HB := zt w hb; clear hb hbox hg))
 (try simp only [Act.put, List.setIfInBounds_toArray, List.set_cons_zero, List.set_cons_succ])
 go_cut [22] (fun v22 wc => ∃ (kq : Nat) (x22_1 : Bool), v22 = .bool x22_1 ∧ Aside0 (impl_ReadInsText.j0 kq a0 x22_1 = some (r1, r2, r3, r4)) ∧ Aside0 (kq ≤ k) ∧ Aside0 (wc.heap[gb247]? = some (.cells #[.int .i64 0, .bool false, .int .i64 0] 23 (0, 0))) ∧ Aside0 (Below w.heap.size w wc))
 case first =>
  have H := HC2.out
  clear HC2
  by_cases c4 : (a0.size : Int) > 20
  ·rw [if_pos c4] at H
   have c4b0 : decide (20 < (a0.size : Int)) = true := decide_eq_true c4
   have c4b1 : decide (20 < a0.size) = true := decide_eq_true (by omega)
   clear c4
   (first | rw [c4b0] | (simp only [i64_w, i32_w]; rw [c4b0]) | skip)
   have H' := Aside0.mk H
   clear H
   go_wp2
   go_meet
   case rel => exact ⟨_, (true), (zE _), H', ⟨by first | omega | exact Nat.le_refl _⟩, ⟨by (with_reducible repeat (first | refine blk_drewN ?_ _ | refine blk_drew ?_ | refine blk_alloc ?_ _)); exact BK247.out⟩, ⟨zb _⟩⟩
  ·rw [if_neg c4] at H
   have c4b0 : decide (20 < (a0.size : Int)) = false := decide_eq_false c4
   have c4b1 : decide (20 < a0.size) = false := decide_eq_false (by omega)
   clear c4
   (first | rw [c4b0] | (simp only [i64_w, i32_w]; rw [c4b0]) | skip)
   have H' := Aside0.mk H
   clear H
   go_wp2
   go_meet
   case rel => exact ⟨_, ((a0.toList == ([] : List UInt8))), (zE _), H', ⟨by first | omega | exact Nat.le_refl _⟩, ⟨by (with_reducible repeat (first | refine blk_drewN ?_ _ | refine blk_drew ?_ | refine blk_alloc ?_ _)); exact BK247.out⟩, ⟨zb _⟩⟩
 case rest =>
  clear HC2
  try clear p2
  try clear c4
  try clear c4b0
  try clear c4b1
  obtain ⟨kq, x22_1, rfl, HA, HJ1, BK247, HB⟩ := hcut
  cases kq with
  | zero => exact absurd HA.out (by simp [impl_ReadInsText.j0])
  | succ kj1 =>
   have H := HA.out
   clear HA
   simp only [impl_ReadInsText.j0] at H
   by_cases c5 : x22_1 = true
   ·subst c5
    rw [if_pos rfl] at H
    simp only [Option.some.injEq, Prod.mk.injEq] at H
    obtain ⟨rfl, rfl, rfl, rfl⟩ := H
    have hcz6_0 := zc0 BK247
    have hcz6_1 := zc1 BK247
    have hcz6_2 := zc2 BK247
    have hfz6_0 := blk_frozen BK247.out 0
    have hfz6_1 := blk_frozen BK247.out 1
    have hfz6_2 := blk_frozen BK247.out 2
    go_wp2
    refine bodyPost_ret (results_ct rfl _ _ gb247 23 #[.int .i64 0, .bool false, .int .i64 0] (0, 0) _ rfl (zw _) Tryz.underlying23 rfl (by kernel_rfl)) rfl ?_
    exact ⟨ze _, zb _⟩
   ·replace c5 := Bool.eq_false_iff.mpr c5
    subst c5
    rw [if_neg (show ¬ (false = true) by decide)] at H
    replace H := Option.bind_eq_some_iff.mp H
    obtain ⟨⟨t248, t249, t250, t251⟩, A70, H⟩ := H
    replace H : (if t251 = true then (some (t248, t249, t250, true)) else (impl_ReadInsText.l0 kj1 a0 0)) = some (r1, r2, r3, r4) := H
    have A7 := Aside0.mk A70
    clear A70
    by_cases c8 : t251 = true
    ·subst c8
     rw [if_pos rfl] at H
     simp only [Option.some.injEq, Prod.mk.injEq] at H
     obtain ⟨rfl, rfl, rfl, rfl⟩ := H
     go_wp2_with (first | ((with_reducible refine gate_callee (f := 12) rfl ?_); refine zc (some 26) Tryz.func12 #[.string a0] ?_; (with_reducible refine (impl_wholeIns.calls kj1 a0 t248 t249 t250 true _ ?side1 A7.out).mono ?_); (case side1 => exact GW.below HG.out (zb _)); rintro e w9 ⟨rfl, hb⟩; refine ⟨_, rfl, ?_⟩; replace BK247 := zk BK247 hb; replace HB := zt w hb; (try clear hb); (try clear hb2); (try clear hk); (try clear hi)) | ((with_reducible refine gate_dst (N := 4) rfl ?_); refine zbx 4 #[.int .i64 0, .bool false, .int .i64 0] 23 ?_; intro gb252 hg w10 hbox hb; have BK252 := Aside0.mk (hbox); have GW252 := zs w hg; have GE252 := GW252; have NB247_252 := zlt BK247 hg; have NB252_247 := zgt (zlt BK247 hg); replace BK247 := zk BK247 hb; replace HB := zt w hb; clear hb hbox hg; have hnb11 := NB252_247.out; have hnc11 := NB247_252.out; have hcz12_0 := zc0 BK252; have hcz12_1 := zc1 BK252; have hcz12_2 := zc2 BK252; have hfz12_0 := blk_frozen BK252.out 0; have hfz12_1 := blk_frozen BK252.out 1; have hfz12_2 := blk_frozen BK252.out 2; have hcz13_0 := zc0 BK247; have hcz13_1 := zc1 BK247; have hcz13_2 := zc2 BK247; have hfz13_0 := blk_frozen BK247.out 0; have hfz13_1 := blk_frozen BK247.out 1; have hfz13_2 := blk_frozen BK247.out 2))
     refine bodyPost_ret (results_ct rfl _ _ gb247 23 #[.int .i64 t248, .bool t249, .int .i64 t250] (0, 0) _ rfl (zw _) Tryz.underlying23 rfl (by kernel_rfl)) rfl ?_
     exact ⟨ze _, zb _⟩
    ·replace c8 := Bool.eq_false_iff.mpr c8
     subst c8
     rw [if_neg (show ¬ (false = true) by decide)] at H
     have H' := Aside0.mk H
     clear H
     go_wp2_with (first | ((with_reducible refine gate_callee (f := 12) rfl ?_); refine zc (some 26) Tryz.func12 #[.string a0] ?_; (with_reducible refine (impl_wholeIns.calls kj1 a0 t248 t249 t250 false _ ?side1 A7.out).mono ?_); (case side1 => exact GW.below HG.out (zb _)); rintro e w14 ⟨rfl, hb⟩; refine ⟨_, rfl, ?_⟩; replace BK247 := zk BK247 hb; replace HB := zt w hb; (try clear hb); (try clear hb2); (try clear hk); (try clear hi)) | ((with_reducible refine gate_dst (N := 4) rfl ?_); refine zbx 4 #[.int .i64 0, .bool false, .int .i64 0] 23 ?_; intro gb252 hg w15 hbox hb; have BK252 := Aside0.mk (hbox); have GW252 := zs w hg; have GE252 := GW252; have NB247_252 := zlt BK247 hg; have NB252_247 := zgt (zlt BK247 hg); replace BK247 := zk BK247 hb; replace HB := zt w hb; clear hb hbox hg; have hnb16 := NB252_247.out; have hnc16 := NB247_252.out; have hcz17_0 := zc0 BK252; have hcz17_1 := zc1 BK252; have hcz17_2 := zc2 BK252; have hfz17_0 := blk_frozen BK252.out 0; have hfz17_1 := blk_frozen BK252.out 1; have hfz17_2 := blk_frozen BK252.out 2))
     go_loopg [31] kj1 (fun kq v31 w' => ∃ (x31_2 : Int) (x248000_2 : Int) (x248001_2 : Bool) (x248002_2 : Int), v31 = .int .i64 x31_2 ∧ Aside0 (impl_ReadInsText.l0 kq a0 x31_2 = some (r1, r2, r3, r4)) ∧ Aside0 (kq ≤ kj1) ∧ Aside0 (w'.heap[gb247]? = some (.cells #[.int .i64 x248000_2, .bool x248001_2, .int .i64 x248002_2] 23 (0, 0))) ∧ Aside0 (w'.heap[gb252]? = some (.cells #[.int .i64 t248, .bool t249, .int .i64 t250] 23 (0, 0))) ∧ Aside0 (Below w.heap.size w w'))
     case atStart => exact ⟨(0), (0), (false), (0), (zE _), H', ⟨Nat.le_refl _⟩, ⟨by (with_reducible repeat (first | refine blk_drewN ?_ _ | refine blk_drew ?_ | refine blk_alloc ?_ _)); refine blk_far ?_ NB247_252.out _; (with_reducible repeat (first | refine blk_drewN ?_ _ | refine blk_drew ?_ | refine blk_alloc ?_ _)); refine blk_far ?_ NB247_252.out _; (with_reducible repeat (first | refine blk_drewN ?_ _ | refine blk_drew ?_ | refine blk_alloc ?_ _)); refine blk_far ?_ NB247_252.out _; (with_reducible repeat (first | refine blk_drewN ?_ _ | refine blk_drew ?_ | refine blk_alloc ?_ _)); exact BK247.out⟩, ⟨by (with_reducible repeat (first | refine blk_drewN ?_ _ | refine blk_drew ?_ | refine blk_alloc ?_ _)); refine blk_put (cs := #[.int .i64 t248, .bool t249, .int .i64 0]) ?_ 2 _ rfl; (with_reducible repeat (first | refine blk_drewN ?_ _ | refine blk_drew ?_ | refine blk_alloc ?_ _)); refine blk_put (cs := #[.int .i64 t248, .bool false, .int .i64 0]) ?_ 1 _ rfl; (with_reducible repeat (first | refine blk_drewN ?_ _ | refine blk_drew ?_ | refine blk_alloc ?_ _)); refine blk_put (cs := #[.int .i64 0, .bool false, .int .i64 0]) ?_ 0 _ rfl; (with_reducible repeat (first | refine blk_drewN ?_ _ | refine blk_drew ?_ | refine blk_alloc ?_ _)); exact BK252.out⟩, ⟨zb _⟩⟩
     case round =>
      clear H'
      try clear c1
      try clear p2
      try clear c4
      try clear c4b0
      try clear c4b1
      try clear c5
      try clear c8
      try clear c11
      try clear c12
      try clear c16
      try clear hcz12_0
      try clear hcz12_1
      try clear hcz12_2
      try clear hcz13_0
      try clear hcz13_1
      try clear hcz13_2
      try clear hcz17_0
      try clear hcz17_1
      try clear hcz17_2
      try clear hcz6_0
      try clear hcz6_1
      try clear hcz6_2
      try clear hfz12_0
      try clear hfz12_1
      try clear hfz12_2
      try clear hfz13_0
      try clear hfz13_1
      try clear hfz13_2
      try clear hfz17_0
      try clear hfz17_1
      try clear hfz17_2
      try clear hfz6_0
      try clear hfz6_1
      try clear hfz6_2
      try clear p2
      obtain ⟨x31_2, x248000_2, x248001_2, x248002_2, rfl, HA, HK2, BK247, BK252, HB⟩ := hrel
      cases gk with
      | zero => exact absurd HA.out (by simp [impl_ReadInsText.l0])
      | succ k2 =>
       have H := HA.out
       clear HA
       simp only [impl_ReadInsText.l0] at H
       by_cases c18 : x31_2 < 256
       ·rw [if_pos c18] at H
        have c18b0 : decide (x31_2 < 256) = true := decide_eq_true c18
        clear c18
        obtain ⟨t253, A190, H⟩ := Option.bind_eq_some_iff.mp H
        have A19 := Aside0.mk A190
        clear A190
        obtain ⟨t254, A200, H⟩ := Option.bind_eq_some_iff.mp H
        have A20 := Aside0.mk A200
        clear A200
        by_cases c21 : t254.toList = ([] : List UInt8)
        ·rw [if_pos c21] at H
         have c21b0 : (t254.toList == ([] : List UInt8)) = true := beq_iff_eq.mpr c21
         have c21b1 : (t254.toList != ([] : List UInt8)) = false := bne_eq_false_iff_eq.mpr c21
         clear c21
         have H' := Aside0.mk H
         clear H
         go_wp2_with (first | ((with_reducible refine gate_callee (f := 13) rfl ?_); refine zc (some 35) Tryz.func13 #[.int .i64 x31_2, .bool false] ?_; (with_reducible refine (impl_TemplateOf.calls x31_2 false t253 _ ?side1 A19.out).mono ?_); (case side1 => exact GW.below HG.out (zb _)); rintro e w22 ⟨rfl, hb⟩; refine ⟨_, rfl, ?_⟩; replace BK247 := zk BK247 hb; replace BK252 := zk BK252 hb; replace HB := zt w hb; (try clear hb); (try clear hb2); (try clear hk); (try clear hi)) | ((with_reducible refine gate_callee (f := 14) rfl ?_); refine zc (some 37) Tryz.func14 #[.string t253] ?_; (with_reducible refine (impl_holeOf.calls k2 t253 t254 _ ?side1 A20.out).mono ?_); (case side1 => exact GW.below HG.out (zb _)); rintro e w23 ⟨rfl, hb⟩; refine ⟨_, rfl, ?_⟩; replace BK247 := zk BK247 hb; replace BK252 := zk BK252 hb; replace HB := zt w hb; (try clear hb); (try clear hb2); (try clear hk); (try clear hi)))
         go_roundg k2
         case measure => have := HJ1.out; have := HK2.out; omega
         case rel => exact ⟨(wrap64 (x31_2 + 1)), (x248000_2), (x248001_2), (x248002_2), (zE _), H', ⟨by have := HJ1.out; have := HK2.out; omega⟩, ⟨by (with_reducible repeat (first | refine blk_drewN ?_ _ | refine blk_drew ?_ | refine blk_alloc ?_ _)); exact BK247.out⟩, ⟨by (with_reducible repeat (first | refine blk_drewN ?_ _ | refine blk_drew ?_ | refine blk_alloc ?_ _)); exact BK252.out⟩, ⟨zb _⟩⟩
        ·rw [if_neg c21] at H
         have c21b0 : (t254.toList == ([] : List UInt8)) = false := beq_eq_false_iff_ne.mpr c21
         have c21b1 : (t254.toList != ([] : List UInt8)) = true := bne_iff_ne.mpr c21
         replace H := Option.bind_eq_some_iff.mp H
         obtain ⟨⟨t255, t256⟩, A240, H⟩ := H
         replace H : (if t256 = true then ((impl_ReadNum.f k2 t255).bind fun bt257 => (if t254.toList = ([101, 56] : List UInt8) then ((strconv_ParseInt.f t255 10 64).bind fun bt259 => (if bt259.2.isNone = true then ((impl_within.f bt259.1 (-128) 127).bind fun t262 => (if t262 = true then ((impl_InsText.f k2 x31_2 false (Go.bits .and .i64 bt259.1 255)).bind fun t264 => (if t264.toList = a0.toList then (some (x31_2, false, Go.bits .and .i64 bt259.1 255, true)) else (impl_ReadInsText.l0 k2 a0 (wrap64 (x31_2 + 1))))) else (impl_ReadInsText.l0 k2 a0 (wrap64 (x31_2 + 1))))) else (impl_ReadInsText.l0 k2 a0 (wrap64 (x31_2 + 1))))) else (if bt257.2 = true then ((impl_InsText.f k2 x31_2 false bt257.1).bind fun t267 => (if t267.toList = a0.toList then (some (x31_2, false, bt257.1, true)) else (impl_ReadInsText.l0 k2 a0 (wrap64 (x31_2 + 1))))) else (impl_ReadInsText.l0 k2 a0 (wrap64 (x31_2 + 1)))))) else (impl_ReadInsText.l0 k2 a0 (wrap64 (x31_2 + 1)))) = some (r1, r2, r3, r4) := H
         have A24 := Aside0.mk A240
         clear A240
         by_cases c25 : t256 = true
         ·subst c25
          rw [if_pos rfl] at H
          replace H := Option.bind_eq_some_iff.mp H
          obtain ⟨⟨t257, t258⟩, A260, H⟩ := H
          replace H : (if t254.toList = ([101, 56] : List UInt8) then ((strconv_ParseInt.f t255 10 64).bind fun bt259 => (if bt259.2.isNone = true then ((impl_within.f bt259.1 (-128) 127).bind fun t262 => (if t262 = true then ((impl_InsText.f k2 x31_2 false (Go.bits .and .i64 bt259.1 255)).bind fun t264 => (if t264.toList = a0.toList then (some (x31_2, false, Go.bits .and .i64 bt259.1 255, true)) else (impl_ReadInsText.l0 k2 a0 (wrap64 (x31_2 + 1))))) else (impl_ReadInsText.l0 k2 a0 (wrap64 (x31_2 + 1))))) else (impl_ReadInsText.l0 k2 a0 (wrap64 (x31_2 + 1))))) else (if t258 = true then ((impl_InsText.f k2 x31_2 false t257).bind fun t267 => (if t267.toList = a0.toList then (some (x31_2, false, t257, true)) else (impl_ReadInsText.l0 k2 a0 (wrap64 (x31_2 + 1))))) else (impl_ReadInsText.l0 k2 a0 (wrap64 (x31_2 + 1))))) = some (r1, r2, r3, r4) := H
          have A26 := Aside0.mk A260
          clear A260
          by_cases c27 : t254.toList = ([101, 56] : List UInt8)
          ·rw [if_pos c27] at H
           have c27b0 : (t254.toList == ([101, 56] : List UInt8)) = true := beq_iff_eq.mpr c27
           have c27b1 : (t254.toList != ([101, 56] : List UInt8)) = false := bne_eq_false_iff_eq.mpr c27
           clear c27
           replace H := Option.bind_eq_some_iff.mp H
           obtain ⟨⟨t259, t260⟩, A280, H⟩ := H
           replace H : (if t260.isNone = true then ((impl_within.f t259 (-128) 127).bind fun t262 => (if t262 = true then ((impl_InsText.f k2 x31_2 false (Go.bits .and .i64 t259 255)).bind fun t264 => (if t264.toList = a0.toList then (some (x31_2, false, Go.bits .and .i64 t259 255, true)) else (impl_ReadInsText.l0 k2 a0 (wrap64 (x31_2 + 1))))) else (impl_ReadInsText.l0 k2 a0 (wrap64 (x31_2 + 1))))) else (impl_ReadInsText.l0 k2 a0 (wrap64 (x31_2 + 1)))) = some (r1, r2, r3, r4) := H
           have A28 := Aside0.mk A280
           clear A280
           rcases t260 with _ | q261
           ·have H1 : ((impl_within.f t259 (-128) 127).bind fun t262 => (if t262 = true then ((impl_InsText.f k2 x31_2 false (Go.bits .and .i64 t259 255)).bind fun t264 => (if t264.toList = a0.toList then (some (x31_2, false, Go.bits .and .i64 t259 255, true)) else (impl_ReadInsText.l0 k2 a0 (wrap64 (x31_2 + 1))))) else (impl_ReadInsText.l0 k2 a0 (wrap64 (x31_2 + 1))))) = some (r1, r2, r3, r4) := by rw [if_pos (show (none : Option Int).isNone = true by rfl)] at H; exact H
            clear H
            have H := H1
            clear H1
            try simp only [errW_none, errW_some]
            obtain ⟨t262, A290, H⟩ := Option.bind_eq_some_iff.mp H
            have A29 := Aside0.mk A290
            clear A290
            by_cases c30 : t262 = true
            ·subst c30
             rw [if_pos rfl] at H
             obtain ⟨t264, A310, H⟩ := Option.bind_eq_some_iff.mp H
             have A31 := Aside0.mk A310
             clear A310
             by_cases c32 : t264.toList = a0.toList
             ·rw [if_pos c32] at H
              have c32b0 : (t264.toList == a0.toList) = true := beq_iff_eq.mpr c32
              have c32b1 : (t264.toList != a0.toList) = false := bne_eq_false_iff_eq.mpr c32
              clear c32
              simp only [Option.some.injEq, Prod.mk.injEq] at H
              obtain ⟨rfl, rfl, rfl, rfl⟩ := H
              go_wp2_with (first | ((with_reducible refine gate_callee (f := 13) rfl ?_); refine zc (some 35) Tryz.func13 #[.int .i64 x31_2, .bool false] ?_; (with_reducible refine (impl_TemplateOf.calls x31_2 false t253 _ ?side1 A19.out).mono ?_); (case side1 => exact GW.below HG.out (zb _)); rintro e w33 ⟨rfl, hb⟩; refine ⟨_, rfl, ?_⟩; replace BK247 := zk BK247 hb; replace BK252 := zk BK252 hb; replace HB := zt w hb; (try clear hb); (try clear hb2); (try clear hk); (try clear hi)) | ((with_reducible refine gate_callee (f := 14) rfl ?_); refine zc (some 37) Tryz.func14 #[.string t253] ?_; (with_reducible refine (impl_holeOf.calls k2 t253 t254 _ ?side1 A20.out).mono ?_); (case side1 => exact GW.below HG.out (zb _)); rintro e w34 ⟨rfl, hb⟩; refine ⟨_, rfl, ?_⟩; replace BK247 := zk BK247 hb; replace BK252 := zk BK252 hb; replace HB := zt w hb; (try clear hb); (try clear hb2); (try clear hk); (try clear hi)) | ((with_reducible refine gate_callee (f := 15) rfl ?_); refine zc (some 44) Tryz.func15 #[.string t253, .string t254, .string a0] ?_; (with_reducible refine (impl_inHole.calls t253 t254 a0 t255 true _ ?side1 A24.out).mono ?_); (case side1 => exact GW.below HG.out (zb _)); rintro e w35 ⟨rfl, hb⟩; refine ⟨_, rfl, ?_⟩; replace BK247 := zk BK247 hb; replace BK252 := zk BK252 hb; replace HB := zt w hb; (try clear hb); (try clear hb2); (try clear hk); (try clear hi)) | ((with_reducible refine gate_callee (f := 16) rfl ?_); refine zc (some 51) Tryz.func16 #[.string t255] ?_; (with_reducible refine (impl_ReadNum.calls k2 t255 t257 t258 _ A26.out).mono ?_); rintro e w' ⟨rfl, ⟨nd, rfl⟩⟩; refine ⟨_, rfl, ?_⟩; (try (rw [drewN_self w35]; generalize hq_ : World.drewN w35 _ = w35; have n0_ : Aside0 (w35.heap[gb247]? = some (.cells #[.int .i64 x248000_2, .bool x248001_2, .int .i64 x248002_2] 23 (0, 0))) := ⟨by rw [← hq_]; exact (zr BK247)⟩; have n1_ : Aside0 (w35.heap[gb252]? = some (.cells #[.int .i64 t248, .bool t249, .int .i64 t250] 23 (0, 0))) := ⟨by rw [← hq_]; exact (zr BK252)⟩; have n2_ : Aside0 (Below w.heap.size w w35) := ⟨by rw [← hq_]; exact (zb _)⟩; clear BK247 BK252 HB hq_; have BK247 := n0_; have BK252 := n1_; have HB := n2_; clear n0_ n1_ n2_))) | ((with_reducible refine gate_callee (f := 17) rfl ?_); refine zc (some 58) Tryz.func17 #[.string t255, .int .i64 10, .int .i64 64] ?_; (with_reducible refine (strconv_ParseInt.calls t255 10 64 t259 none _ ?side1 A28.out).mono ?_); (case side1 => exact GW.below HG.out (zb _)); rintro e w36 ⟨⟨ev_, rfl, hev_⟩, hb⟩; obtain rfl := hev_; refine ⟨_, rfl, ?_⟩; replace BK247 := zk BK247 hb; replace BK252 := zk BK252 hb; replace HB := zt w hb; (try clear hb); (try clear hb2); (try clear hk); (try clear hi); (try simp only [errW_none, errW_some])) | (go_at_call 18; (with_reducible refine (impl_within.calls t259 (-128) 127 true _ A29.out).mono ?_); rintro e w' ⟨rfl, ⟨nd, rfl⟩⟩; (try (rw [drewN_self w36]; generalize hq_ : World.drewN w36 _ = w36; have n0_ : Aside0 (w36.heap[gb247]? = some (.cells #[.int .i64 x248000_2, .bool x248001_2, .int .i64 x248002_2] 23 (0, 0))) := ⟨by rw [← hq_]; exact (zr BK247)⟩; have n1_ : Aside0 (w36.heap[gb252]? = some (.cells #[.int .i64 t248, .bool t249, .int .i64 t250] 23 (0, 0))) := ⟨by rw [← hq_]; exact (zr BK252)⟩; have n2_ : Aside0 (Below w.heap.size w w36) := ⟨by rw [← hq_]; exact (zb _)⟩; clear BK247 BK252 HB hq_; have BK247 := n0_; have BK252 := n1_; have HB := n2_; clear n0_ n1_ n2_))) | ((with_reducible refine gate_dst (N := 15) rfl ?_); refine zbx 15 #[.int .i64 0, .bool false, .int .i64 0] 23 ?_; intro gb263 hg w37 hbox hb; have BK263 := Aside0.mk (hbox); have GW263 := zs w hg; have GE263 := GW263; have NB247_263 := zlt BK247 hg; have NB263_247 := zgt (zlt BK247 hg); have NB252_263 := zlt BK252 hg; have NB263_252 := zgt (zlt BK252 hg); replace BK247 := zk BK247 hb; replace BK252 := zk BK252 hb; replace HB := zt w hb; clear hb hbox hg; have hnb38 := NB263_247.out; have hnc38 := NB247_263.out; have hnb39 := NB263_252.out; have hnc39 := NB252_263.out; have hcz40_0 := zc0 BK263; have hcz40_1 := zc1 BK263; have hcz40_2 := zc2 BK263; have hfz40_0 := blk_frozen BK263.out 0; have hfz40_1 := blk_frozen BK263.out 1; have hfz40_2 := blk_frozen BK263.out 2) | (go_at_call 19; (with_reducible refine (impl_InsText.calls k2 x31_2 false (Go.bits .and .i64 t259 255) t264 _ ?side1 A31.out).mono ?_); (case side1 => exact GW.below HG.out (zb _)); rintro e w41 ⟨rfl, hb⟩; replace BK247 := zkw (g := gb247) (o := .cells #[.int .i64 x248000_2, .bool x248001_2, .int .i64 x248002_2] 23 (0, 0)) hb; replace BK252 := zkw (g := gb252) (o := .cells #[.int .i64 t248, .bool t249, .int .i64 t250] 23 (0, 0)) hb; replace BK263 := zkw (g := gb263) (o := .cells #[.int .i64 x31_2, .bool false, .int .i64 (Go.bits .and .i64 t259 255)] 23 (0, 0)) hb; replace HB := zt w hb; (try clear hb); (try clear hb2); (try clear hk); (try clear hi); have hcz42_0 := zc0 BK263; have hcz42_1 := zc1 BK263; have hcz42_2 := zc2 BK263; have hfz42_0 := blk_frozen BK263.out 0; have hfz42_1 := blk_frozen BK263.out 1; have hfz42_2 := blk_frozen BK263.out 2; have hnb43 := NB247_252.out; have hnc43 := NB252_247.out; have hcz44_0 := zc0 BK247; have hcz44_1 := zc1 BK247; have hcz44_2 := zc2 BK247; have hfz44_0 := blk_frozen BK247.out 0; have hfz44_1 := blk_frozen BK247.out 1; have hfz44_2 := blk_frozen BK247.out 2))
              refine bodyPost_ret (results_ct rfl _ _ gb247 23 #[.int .i64 x31_2, .bool false, .int .i64 (Go.bits .and .i64 t259 255)] (0, 0) _ rfl (zw _) Tryz.underlying23 rfl (by kernel_rfl)) rfl ?_
              exact ⟨ze _, zb _⟩
             ·rw [if_neg c32] at H
              have c32b0 : (t264.toList == a0.toList) = false := beq_eq_false_iff_ne.mpr c32
              have c32b1 : (t264.toList != a0.toList) = true := bne_iff_ne.mpr c32
              have H' := Aside0.mk H
              clear H
              go_wp2_with (first | ((with_reducible refine gate_callee (f := 13) rfl ?_); refine zc (some 35) Tryz.func13 #[.int .i64 x31_2, .bool false] ?_; (with_reducible refine (impl_TemplateOf.calls x31_2 false t253 _ ?side1 A19.out).mono ?_); (case side1 => exact GW.below HG.out (zb _)); rintro e w45 ⟨rfl, hb⟩; refine ⟨_, rfl, ?_⟩; replace BK247 := zk BK247 hb; replace BK252 := zk BK252 hb; replace HB := zt w hb; (try clear hb); (try clear hb2); (try clear hk); (try clear hi)) | ((with_reducible refine gate_callee (f := 14) rfl ?_); refine zc (some 37) Tryz.func14 #[.string t253] ?_; (with_reducible refine (impl_holeOf.calls k2 t253 t254 _ ?side1 A20.out).mono ?_); (case side1 => exact GW.below HG.out (zb _)); rintro e w46 ⟨rfl, hb⟩; refine ⟨_, rfl, ?_⟩; replace BK247 := zk BK247 hb; replace BK252 := zk BK252 hb; replace HB := zt w hb; (try clear hb); (try clear hb2); (try clear hk); (try clear hi)) | ((with_reducible refine gate_callee (f := 15) rfl ?_); refine zc (some 44) Tryz.func15 #[.string t253, .string t254, .string a0] ?_; (with_reducible refine (impl_inHole.calls t253 t254 a0 t255 true _ ?side1 A24.out).mono ?_); (case side1 => exact GW.below HG.out (zb _)); rintro e w47 ⟨rfl, hb⟩; refine ⟨_, rfl, ?_⟩; replace BK247 := zk BK247 hb; replace BK252 := zk BK252 hb; replace HB := zt w hb; (try clear hb); (try clear hb2); (try clear hk); (try clear hi)) | ((with_reducible refine gate_callee (f := 16) rfl ?_); refine zc (some 51) Tryz.func16 #[.string t255] ?_; (with_reducible refine (impl_ReadNum.calls k2 t255 t257 t258 _ A26.out).mono ?_); rintro e w' ⟨rfl, ⟨nd, rfl⟩⟩; refine ⟨_, rfl, ?_⟩; (try (rw [drewN_self w47]; generalize hq_ : World.drewN w47 _ = w47; have n0_ : Aside0 (w47.heap[gb247]? = some (.cells #[.int .i64 x248000_2, .bool x248001_2, .int .i64 x248002_2] 23 (0, 0))) := ⟨by rw [← hq_]; exact (zr BK247)⟩; have n1_ : Aside0 (w47.heap[gb252]? = some (.cells #[.int .i64 t248, .bool t249, .int .i64 t250] 23 (0, 0))) := ⟨by rw [← hq_]; exact (zr BK252)⟩; have n2_ : Aside0 (Below w.heap.size w w47) := ⟨by rw [← hq_]; exact (zb _)⟩; clear BK247 BK252 HB hq_; have BK247 := n0_; have BK252 := n1_; have HB := n2_; clear n0_ n1_ n2_))) | ((with_reducible refine gate_callee (f := 17) rfl ?_); refine zc (some 58) Tryz.func17 #[.string t255, .int .i64 10, .int .i64 64] ?_; (with_reducible refine (strconv_ParseInt.calls t255 10 64 t259 none _ ?side1 A28.out).mono ?_); (case side1 => exact GW.below HG.out (zb _)); rintro e w48 ⟨⟨ev_, rfl, hev_⟩, hb⟩; obtain rfl := hev_; refine ⟨_, rfl, ?_⟩; replace BK247 := zk BK247 hb; replace BK252 := zk BK252 hb; replace HB := zt w hb; (try clear hb); (try clear hb2); (try clear hk); (try clear hi); (try simp only [errW_none, errW_some])) | (go_at_call 18; (with_reducible refine (impl_within.calls t259 (-128) 127 true _ A29.out).mono ?_); rintro e w' ⟨rfl, ⟨nd, rfl⟩⟩; (try (rw [drewN_self w48]; generalize hq_ : World.drewN w48 _ = w48; have n0_ : Aside0 (w48.heap[gb247]? = some (.cells #[.int .i64 x248000_2, .bool x248001_2, .int .i64 x248002_2] 23 (0, 0))) := ⟨by rw [← hq_]; exact (zr BK247)⟩; have n1_ : Aside0 (w48.heap[gb252]? = some (.cells #[.int .i64 t248, .bool t249, .int .i64 t250] 23 (0, 0))) := ⟨by rw [← hq_]; exact (zr BK252)⟩; have n2_ : Aside0 (Below w.heap.size w w48) := ⟨by rw [← hq_]; exact (zb _)⟩; clear BK247 BK252 HB hq_; have BK247 := n0_; have BK252 := n1_; have HB := n2_; clear n0_ n1_ n2_))) | ((with_reducible refine gate_dst (N := 15) rfl ?_); refine zbx 15 #[.int .i64 0, .bool false, .int .i64 0] 23 ?_; intro gb263 hg w49 hbox hb; have BK263 := Aside0.mk (hbox); have GW263 := zs w hg; have GE263 := GW263; have NB247_263 := zlt BK247 hg; have NB263_247 := zgt (zlt BK247 hg); have NB252_263 := zlt BK252 hg; have NB263_252 := zgt (zlt BK252 hg); replace BK247 := zk BK247 hb; replace BK252 := zk BK252 hb; replace HB := zt w hb; clear hb hbox hg; have hnb50 := NB263_247.out; have hnc50 := NB247_263.out; have hnb51 := NB263_252.out; have hnc51 := NB252_263.out; have hcz52_0 := zc0 BK263; have hcz52_1 := zc1 BK263; have hcz52_2 := zc2 BK263; have hfz52_0 := blk_frozen BK263.out 0; have hfz52_1 := blk_frozen BK263.out 1; have hfz52_2 := blk_frozen BK263.out 2) | (go_at_call 19; (with_reducible refine (impl_InsText.calls k2 x31_2 false (Go.bits .and .i64 t259 255) t264 _ ?side1 A31.out).mono ?_); (case side1 => exact GW.below HG.out (zb _)); rintro e w53 ⟨rfl, hb⟩; replace BK247 := zkw (g := gb247) (o := .cells #[.int .i64 x248000_2, .bool x248001_2, .int .i64 x248002_2] 23 (0, 0)) hb; replace BK252 := zkw (g := gb252) (o := .cells #[.int .i64 t248, .bool t249, .int .i64 t250] 23 (0, 0)) hb; replace BK263 := zkw (g := gb263) (o := .cells #[.int .i64 x31_2, .bool false, .int .i64 (Go.bits .and .i64 t259 255)] 23 (0, 0)) hb; replace HB := zt w hb; (try clear hb); (try clear hb2); (try clear hk); (try clear hi)))
              go_roundg k2
              case measure => have := HJ1.out; have := HK2.out; omega
              case rel => exact ⟨(wrap64 (x31_2 + 1)), (x248000_2), (x248001_2), (x248002_2), (zE _), H', ⟨by have := HJ1.out; have := HK2.out; omega⟩, ⟨by (with_reducible repeat (first | refine blk_drewN ?_ _ | refine blk_drew ?_ | refine blk_alloc ?_ _)); exact BK247.out⟩, ⟨by (with_reducible repeat (first | refine blk_drewN ?_ _ | refine blk_drew ?_ | refine blk_alloc ?_ _)); exact BK252.out⟩, ⟨zb _⟩⟩
            ·replace c30 := Bool.eq_false_iff.mpr c30
             subst c30
             rw [if_neg (show ¬ (false = true) by decide)] at H
             have H' := Aside0.mk H
             clear H
             go_wp2_with (first | ((with_reducible refine gate_callee (f := 13) rfl ?_); refine zc (some 35) Tryz.func13 #[.int .i64 x31_2, .bool false] ?_; (with_reducible refine (impl_TemplateOf.calls x31_2 false t253 _ ?side1 A19.out).mono ?_); (case side1 => exact GW.below HG.out (zb _)); rintro e w54 ⟨rfl, hb⟩; refine ⟨_, rfl, ?_⟩; replace BK247 := zk BK247 hb; replace BK252 := zk BK252 hb; replace HB := zt w hb; (try clear hb); (try clear hb2); (try clear hk); (try clear hi)) | ((with_reducible refine gate_callee (f := 14) rfl ?_); refine zc (some 37) Tryz.func14 #[.string t253] ?_; (with_reducible refine (impl_holeOf.calls k2 t253 t254 _ ?side1 A20.out).mono ?_); (case side1 => exact GW.below HG.out (zb _)); rintro e w55 ⟨rfl, hb⟩; refine ⟨_, rfl, ?_⟩; replace BK247 := zk BK247 hb; replace BK252 := zk BK252 hb; replace HB := zt w hb; (try clear hb); (try clear hb2); (try clear hk); (try clear hi)) | ((with_reducible refine gate_callee (f := 15) rfl ?_); refine zc (some 44) Tryz.func15 #[.string t253, .string t254, .string a0] ?_; (with_reducible refine (impl_inHole.calls t253 t254 a0 t255 true _ ?side1 A24.out).mono ?_); (case side1 => exact GW.below HG.out (zb _)); rintro e w56 ⟨rfl, hb⟩; refine ⟨_, rfl, ?_⟩; replace BK247 := zk BK247 hb; replace BK252 := zk BK252 hb; replace HB := zt w hb; (try clear hb); (try clear hb2); (try clear hk); (try clear hi)) | ((with_reducible refine gate_callee (f := 16) rfl ?_); refine zc (some 51) Tryz.func16 #[.string t255] ?_; (with_reducible refine (impl_ReadNum.calls k2 t255 t257 t258 _ A26.out).mono ?_); rintro e w' ⟨rfl, ⟨nd, rfl⟩⟩; refine ⟨_, rfl, ?_⟩; (try (rw [drewN_self w56]; generalize hq_ : World.drewN w56 _ = w56; have n0_ : Aside0 (w56.heap[gb247]? = some (.cells #[.int .i64 x248000_2, .bool x248001_2, .int .i64 x248002_2] 23 (0, 0))) := ⟨by rw [← hq_]; exact (zr BK247)⟩; have n1_ : Aside0 (w56.heap[gb252]? = some (.cells #[.int .i64 t248, .bool t249, .int .i64 t250] 23 (0, 0))) := ⟨by rw [← hq_]; exact (zr BK252)⟩; have n2_ : Aside0 (Below w.heap.size w w56) := ⟨by rw [← hq_]; exact (zb _)⟩; clear BK247 BK252 HB hq_; have BK247 := n0_; have BK252 := n1_; have HB := n2_; clear n0_ n1_ n2_))) | ((with_reducible refine gate_callee (f := 17) rfl ?_); refine zc (some 58) Tryz.func17 #[.string t255, .int .i64 10, .int .i64 64] ?_; (with_reducible refine (strconv_ParseInt.calls t255 10 64 t259 none _ ?side1 A28.out).mono ?_); (case side1 => exact GW.below HG.out (zb _)); rintro e w57 ⟨⟨ev_, rfl, hev_⟩, hb⟩; obtain rfl := hev_; refine ⟨_, rfl, ?_⟩; replace BK247 := zk BK247 hb; replace BK252 := zk BK252 hb; replace HB := zt w hb; (try clear hb); (try clear hb2); (try clear hk); (try clear hi); (try simp only [errW_none, errW_some])) | (go_at_call 18; (with_reducible refine (impl_within.calls t259 (-128) 127 false _ A29.out).mono ?_); rintro e w' ⟨rfl, ⟨nd, rfl⟩⟩; (try (rw [drewN_self w57]; generalize hq_ : World.drewN w57 _ = w57; have n0_ : Aside0 (w57.heap[gb247]? = some (.cells #[.int .i64 x248000_2, .bool x248001_2, .int .i64 x248002_2] 23 (0, 0))) := ⟨by rw [← hq_]; exact (zr BK247)⟩; have n1_ : Aside0 (w57.heap[gb252]? = some (.cells #[.int .i64 t248, .bool t249, .int .i64 t250] 23 (0, 0))) := ⟨by rw [← hq_]; exact (zr BK252)⟩; have n2_ : Aside0 (Below w.heap.size w w57) := ⟨by rw [← hq_]; exact (zb _)⟩; clear BK247 BK252 HB hq_; have BK247 := n0_; have BK252 := n1_; have HB := n2_; clear n0_ n1_ n2_))) | ((with_reducible refine gate_dst (N := 15) rfl ?_); refine zbx 15 #[.int .i64 0, .bool false, .int .i64 0] 23 ?_; intro gb263 hg w58 hbox hb; have BK263 := Aside0.mk (hbox); have GW263 := zs w hg; have GE263 := GW263; have NB247_263 := zlt BK247 hg; have NB263_247 := zgt (zlt BK247 hg); have NB252_263 := zlt BK252 hg; have NB263_252 := zgt (zlt BK252 hg); replace BK247 := zk BK247 hb; replace BK252 := zk BK252 hb; replace HB := zt w hb; clear hb hbox hg; have hnb59 := NB263_247.out; have hnc59 := NB247_263.out; have hnb60 := NB263_252.out; have hnc60 := NB252_263.out; have hcz61_0 := zc0 BK263; have hcz61_1 := zc1 BK263; have hcz61_2 := zc2 BK263; have hfz61_0 := blk_frozen BK263.out 0; have hfz61_1 := blk_frozen BK263.out 1; have hfz61_2 := blk_frozen BK263.out 2))
             go_roundg k2
             case measure => have := HJ1.out; have := HK2.out; omega
             case rel => exact ⟨(wrap64 (x31_2 + 1)), (x248000_2), (x248001_2), (x248002_2), (zE _), H', ⟨by have := HJ1.out; have := HK2.out; omega⟩, ⟨by (with_reducible repeat (first | refine blk_drewN ?_ _ | refine blk_drew ?_ | refine blk_alloc ?_ _)); refine blk_far ?_ NB247_263.out _; (with_reducible repeat (first | refine blk_drewN ?_ _ | refine blk_drew ?_ | refine blk_alloc ?_ _)); refine blk_far ?_ NB247_263.out _; (with_reducible repeat (first | refine blk_drewN ?_ _ | refine blk_drew ?_ | refine blk_alloc ?_ _)); refine blk_far ?_ NB247_263.out _; (with_reducible repeat (first | refine blk_drewN ?_ _ | refine blk_drew ?_ | refine blk_alloc ?_ _)); exact BK247.out⟩, ⟨by (with_reducible repeat (first | refine blk_drewN ?_ _ | refine blk_drew ?_ | refine blk_alloc ?_ _)); refine blk_far ?_ NB252_263.out _; (with_reducible repeat (first | refine blk_drewN ?_ _ | refine blk_drew ?_ | refine blk_alloc ?_ _)); refine blk_far ?_ NB252_263.out _; (with_reducible repeat (first | refine blk_drewN ?_ _ | refine blk_drew ?_ | refine blk_alloc ?_ _)); refine blk_far ?_ NB252_263.out _; (with_reducible repeat (first | refine blk_drewN ?_ _ | refine blk_drew ?_ | refine blk_alloc ?_ _)); exact BK252.out⟩, ⟨zb _⟩⟩
           ·have H1 : (impl_ReadInsText.l0 k2 a0 (wrap64 (x31_2 + 1))) = some (r1, r2, r3, r4) := by rw [if_neg (show ¬ (some q261).isNone = true by simp)] at H; exact H
            clear H
            have H := H1
            clear H1
            try simp only [errW_none, errW_some]
            have H' := Aside0.mk H
            clear H
            go_wp2_with (first | ((with_reducible refine gate_callee (f := 13) rfl ?_); refine zc (some 35) Tryz.func13 #[.int .i64 x31_2, .bool false] ?_; (with_reducible refine (impl_TemplateOf.calls x31_2 false t253 _ ?side1 A19.out).mono ?_); (case side1 => exact GW.below HG.out (zb _)); rintro e w62 ⟨rfl, hb⟩; refine ⟨_, rfl, ?_⟩; replace BK247 := zk BK247 hb; replace BK252 := zk BK252 hb; replace HB := zt w hb; (try clear hb); (try clear hb2); (try clear hk); (try clear hi)) | ((with_reducible refine gate_callee (f := 14) rfl ?_); refine zc (some 37) Tryz.func14 #[.string t253] ?_; (with_reducible refine (impl_holeOf.calls k2 t253 t254 _ ?side1 A20.out).mono ?_); (case side1 => exact GW.below HG.out (zb _)); rintro e w63 ⟨rfl, hb⟩; refine ⟨_, rfl, ?_⟩; replace BK247 := zk BK247 hb; replace BK252 := zk BK252 hb; replace HB := zt w hb; (try clear hb); (try clear hb2); (try clear hk); (try clear hi)) | ((with_reducible refine gate_callee (f := 15) rfl ?_); refine zc (some 44) Tryz.func15 #[.string t253, .string t254, .string a0] ?_; (with_reducible refine (impl_inHole.calls t253 t254 a0 t255 true _ ?side1 A24.out).mono ?_); (case side1 => exact GW.below HG.out (zb _)); rintro e w64 ⟨rfl, hb⟩; refine ⟨_, rfl, ?_⟩; replace BK247 := zk BK247 hb; replace BK252 := zk BK252 hb; replace HB := zt w hb; (try clear hb); (try clear hb2); (try clear hk); (try clear hi)) | ((with_reducible refine gate_callee (f := 16) rfl ?_); refine zc (some 51) Tryz.func16 #[.string t255] ?_; (with_reducible refine (impl_ReadNum.calls k2 t255 t257 t258 _ A26.out).mono ?_); rintro e w' ⟨rfl, ⟨nd, rfl⟩⟩; refine ⟨_, rfl, ?_⟩; (try (rw [drewN_self w64]; generalize hq_ : World.drewN w64 _ = w64; have n0_ : Aside0 (w64.heap[gb247]? = some (.cells #[.int .i64 x248000_2, .bool x248001_2, .int .i64 x248002_2] 23 (0, 0))) := ⟨by rw [← hq_]; exact (zr BK247)⟩; have n1_ : Aside0 (w64.heap[gb252]? = some (.cells #[.int .i64 t248, .bool t249, .int .i64 t250] 23 (0, 0))) := ⟨by rw [← hq_]; exact (zr BK252)⟩; have n2_ : Aside0 (Below w.heap.size w w64) := ⟨by rw [← hq_]; exact (zb _)⟩; clear BK247 BK252 HB hq_; have BK247 := n0_; have BK252 := n1_; have HB := n2_; clear n0_ n1_ n2_))) | ((with_reducible refine gate_callee (f := 17) rfl ?_); refine zc (some 58) Tryz.func17 #[.string t255, .int .i64 10, .int .i64 64] ?_; (with_reducible refine (strconv_ParseInt.calls t255 10 64 t259 (some q261) _ ?side1 A28.out).mono ?_); (case side1 => exact GW.below HG.out (zb _)); rintro e w65 ⟨⟨ev_, rfl, hev_⟩, hb⟩; obtain ⟨te_, pe_, rfl⟩ := hev_; refine ⟨_, rfl, ?_⟩; replace BK247 := zk BK247 hb; replace BK252 := zk BK252 hb; replace HB := zt w hb; (try clear hb); (try clear hb2); (try clear hk); (try clear hi); (try simp only [errW_none, errW_some])) | ((with_reducible refine gate_dst (N := 15) rfl ?_); refine zbx 15 #[.int .i64 0, .bool false, .int .i64 0] 23 ?_; intro gb265 hg w66 hbox hb; have BK265 := Aside0.mk (hbox); have GW265 := zs w hg; have GE265 := GW265; have NB247_265 := zlt BK247 hg; have NB265_247 := zgt (zlt BK247 hg); have NB252_265 := zlt BK252 hg; have NB265_252 := zgt (zlt BK252 hg); replace BK247 := zk BK247 hb; replace BK252 := zk BK252 hb; replace HB := zt w hb; clear hb hbox hg; have hnb67 := NB265_247.out; have hnc67 := NB247_265.out; have hnb68 := NB265_252.out; have hnc68 := NB252_265.out; have hcz69_0 := zc0 BK265; have hcz69_1 := zc1 BK265; have hcz69_2 := zc2 BK265; have hfz69_0 := blk_frozen BK265.out 0; have hfz69_1 := blk_frozen BK265.out 1; have hfz69_2 := blk_frozen BK265.out 2))
            go_roundg k2
            case measure => have := HJ1.out; have := HK2.out; omega
            case rel => exact ⟨(wrap64 (x31_2 + 1)), (x248000_2), (x248001_2), (x248002_2), (zE _), H', ⟨by have := HJ1.out; have := HK2.out; omega⟩, ⟨by (with_reducible repeat (first | refine blk_drewN ?_ _ | refine blk_drew ?_ | refine blk_alloc ?_ _)); refine blk_far ?_ NB247_265.out _; (with_reducible repeat (first | refine blk_drewN ?_ _ | refine blk_drew ?_ | refine blk_alloc ?_ _)); refine blk_far ?_ NB247_265.out _; (with_reducible repeat (first | refine blk_drewN ?_ _ | refine blk_drew ?_ | refine blk_alloc ?_ _)); refine blk_far ?_ NB247_265.out _; (with_reducible repeat (first | refine blk_drewN ?_ _ | refine blk_drew ?_ | refine blk_alloc ?_ _)); exact BK247.out⟩, ⟨by (with_reducible repeat (first | refine blk_drewN ?_ _ | refine blk_drew ?_ | refine blk_alloc ?_ _)); refine blk_far ?_ NB252_265.out _; (with_reducible repeat (first | refine blk_drewN ?_ _ | refine blk_drew ?_ | refine blk_alloc ?_ _)); refine blk_far ?_ NB252_265.out _; (with_reducible repeat (first | refine blk_drewN ?_ _ | refine blk_drew ?_ | refine blk_alloc ?_ _)); refine blk_far ?_ NB252_265.out _; (with_reducible repeat (first | refine blk_drewN ?_ _ | refine blk_drew ?_ | refine blk_alloc ?_ _)); exact BK252.out⟩, ⟨zb _⟩⟩
          ·rw [if_neg c27] at H
           have c27b0 : (t254.toList == ([101, 56] : List UInt8)) = false := beq_eq_false_iff_ne.mpr c27
           have c27b1 : (t254.toList != ([101, 56] : List UInt8)) = true := bne_iff_ne.mpr c27
           by_cases c70 : t258 = true
           ·subst c70
            rw [if_pos rfl] at H
            obtain ⟨t267, A710, H⟩ := Option.bind_eq_some_iff.mp H
            have A71 := Aside0.mk A710
            clear A710
            by_cases c72 : t267.toList = a0.toList
            ·rw [if_pos c72] at H
             have c72b0 : (t267.toList == a0.toList) = true := beq_iff_eq.mpr c72
             have c72b1 : (t267.toList != a0.toList) = false := bne_eq_false_iff_eq.mpr c72
             clear c72
             simp only [Option.some.injEq, Prod.mk.injEq] at H
             obtain ⟨rfl, rfl, rfl, rfl⟩ := H
             go_wp2_with (first | ((with_reducible refine gate_callee (f := 13) rfl ?_); refine zc (some 35) Tryz.func13 #[.int .i64 x31_2, .bool false] ?_; (with_reducible refine (impl_TemplateOf.calls x31_2 false t253 _ ?side1 A19.out).mono ?_); (case side1 => exact GW.below HG.out (zb _)); rintro e w73 ⟨rfl, hb⟩; refine ⟨_, rfl, ?_⟩; replace BK247 := zk BK247 hb; replace BK252 := zk BK252 hb; replace HB := zt w hb; (try clear hb); (try clear hb2); (try clear hk); (try clear hi)) | ((with_reducible refine gate_callee (f := 14) rfl ?_); refine zc (some 37) Tryz.func14 #[.string t253] ?_; (with_reducible refine (impl_holeOf.calls k2 t253 t254 _ ?side1 A20.out).mono ?_); (case side1 => exact GW.below HG.out (zb _)); rintro e w74 ⟨rfl, hb⟩; refine ⟨_, rfl, ?_⟩; replace BK247 := zk BK247 hb; replace BK252 := zk BK252 hb; replace HB := zt w hb; (try clear hb); (try clear hb2); (try clear hk); (try clear hi)) | ((with_reducible refine gate_callee (f := 15) rfl ?_); refine zc (some 44) Tryz.func15 #[.string t253, .string t254, .string a0] ?_; (with_reducible refine (impl_inHole.calls t253 t254 a0 t255 true _ ?side1 A24.out).mono ?_); (case side1 => exact GW.below HG.out (zb _)); rintro e w75 ⟨rfl, hb⟩; refine ⟨_, rfl, ?_⟩; replace BK247 := zk BK247 hb; replace BK252 := zk BK252 hb; replace HB := zt w hb; (try clear hb); (try clear hb2); (try clear hk); (try clear hi)) | ((with_reducible refine gate_callee (f := 16) rfl ?_); refine zc (some 51) Tryz.func16 #[.string t255] ?_; (with_reducible refine (impl_ReadNum.calls k2 t255 t257 true _ A26.out).mono ?_); rintro e w' ⟨rfl, ⟨nd, rfl⟩⟩; refine ⟨_, rfl, ?_⟩; (try (rw [drewN_self w75]; generalize hq_ : World.drewN w75 _ = w75; have n0_ : Aside0 (w75.heap[gb247]? = some (.cells #[.int .i64 x248000_2, .bool x248001_2, .int .i64 x248002_2] 23 (0, 0))) := ⟨by rw [← hq_]; exact (zr BK247)⟩; have n1_ : Aside0 (w75.heap[gb252]? = some (.cells #[.int .i64 t248, .bool t249, .int .i64 t250] 23 (0, 0))) := ⟨by rw [← hq_]; exact (zr BK252)⟩; have n2_ : Aside0 (Below w.heap.size w w75) := ⟨by rw [← hq_]; exact (zb _)⟩; clear BK247 BK252 HB hq_; have BK247 := n0_; have BK252 := n1_; have HB := n2_; clear n0_ n1_ n2_))) | ((with_reducible refine gate_dst (N := 15) rfl ?_); refine zbx 15 #[.int .i64 0, .bool false, .int .i64 0] 23 ?_; intro gb266 hg w76 hbox hb; have BK266 := Aside0.mk (hbox); have GW266 := zs w hg; have GE266 := GW266; have NB247_266 := zlt BK247 hg; have NB266_247 := zgt (zlt BK247 hg); have NB252_266 := zlt BK252 hg; have NB266_252 := zgt (zlt BK252 hg); replace BK247 := zk BK247 hb; replace BK252 := zk BK252 hb; replace HB := zt w hb; clear hb hbox hg; have hnb77 := NB266_247.out; have hnc77 := NB247_266.out; have hnb78 := NB266_252.out; have hnc78 := NB252_266.out; have hcz79_0 := zc0 BK266; have hcz79_1 := zc1 BK266; have hcz79_2 := zc2 BK266; have hfz79_0 := blk_frozen BK266.out 0; have hfz79_1 := blk_frozen BK266.out 1; have hfz79_2 := blk_frozen BK266.out 2) | (go_at_call 19; (with_reducible refine (impl_InsText.calls k2 x31_2 false t257 t267 _ ?side1 A71.out).mono ?_); (case side1 => exact GW.below HG.out (zb _)); rintro e w80 ⟨rfl, hb⟩; replace BK247 := zkw (g := gb247) (o := .cells #[.int .i64 x248000_2, .bool x248001_2, .int .i64 x248002_2] 23 (0, 0)) hb; replace BK252 := zkw (g := gb252) (o := .cells #[.int .i64 t248, .bool t249, .int .i64 t250] 23 (0, 0)) hb; replace BK266 := zkw (g := gb266) (o := .cells #[.int .i64 x31_2, .bool false, .int .i64 t257] 23 (0, 0)) hb; replace HB := zt w hb; (try clear hb); (try clear hb2); (try clear hk); (try clear hi); have hcz81_0 := zc0 BK266; have hcz81_1 := zc1 BK266; have hcz81_2 := zc2 BK266; have hfz81_0 := blk_frozen BK266.out 0; have hfz81_1 := blk_frozen BK266.out 1; have hfz81_2 := blk_frozen BK266.out 2; have hnb82 := NB247_252.out; have hnc82 := NB252_247.out; have hcz83_0 := zc0 BK247; have hcz83_1 := zc1 BK247; have hcz83_2 := zc2 BK247; have hfz83_0 := blk_frozen BK247.out 0; have hfz83_1 := blk_frozen BK247.out 1; have hfz83_2 := blk_frozen BK247.out 2))
             refine bodyPost_ret (results_ct rfl _ _ gb247 23 #[.int .i64 x31_2, .bool false, .int .i64 t257] (0, 0) _ rfl (zw _) Tryz.underlying23 rfl (by kernel_rfl)) rfl ?_
             exact ⟨ze _, zb _⟩
            ·rw [if_neg c72] at H
             have c72b0 : (t267.toList == a0.toList) = false := beq_eq_false_iff_ne.mpr c72
             have c72b1 : (t267.toList != a0.toList) = true := bne_iff_ne.mpr c72
             have H' := Aside0.mk H
             clear H
             go_wp2_with (first | ((with_reducible refine gate_callee (f := 13) rfl ?_); refine zc (some 35) Tryz.func13 #[.int .i64 x31_2, .bool false] ?_; (with_reducible refine (impl_TemplateOf.calls x31_2 false t253 _ ?side1 A19.out).mono ?_); (case side1 => exact GW.below HG.out (zb _)); rintro e w84 ⟨rfl, hb⟩; refine ⟨_, rfl, ?_⟩; replace BK247 := zk BK247 hb; replace BK252 := zk BK252 hb; replace HB := zt w hb; (try clear hb); (try clear hb2); (try clear hk); (try clear hi)) | ((with_reducible refine gate_callee (f := 14) rfl ?_); refine zc (some 37) Tryz.func14 #[.string t253] ?_; (with_reducible refine (impl_holeOf.calls k2 t253 t254 _ ?side1 A20.out).mono ?_); (case side1 => exact GW.below HG.out (zb _)); rintro e w85 ⟨rfl, hb⟩; refine ⟨_, rfl, ?_⟩; replace BK247 := zk BK247 hb; replace BK252 := zk BK252 hb; replace HB := zt w hb; (try clear hb); (try clear hb2); (try clear hk); (try clear hi)) | ((with_reducible refine gate_callee (f := 15) rfl ?_); refine zc (some 44) Tryz.func15 #[.string t253, .string t254, .string a0] ?_; (with_reducible refine (impl_inHole.calls t253 t254 a0 t255 true _ ?side1 A24.out).mono ?_); (case side1 => exact GW.below HG.out (zb _)); rintro e w86 ⟨rfl, hb⟩; refine ⟨_, rfl, ?_⟩; replace BK247 := zk BK247 hb; replace BK252 := zk BK252 hb; replace HB := zt w hb; (try clear hb); (try clear hb2); (try clear hk); (try clear hi)) | ((with_reducible refine gate_callee (f := 16) rfl ?_); refine zc (some 51) Tryz.func16 #[.string t255] ?_; (with_reducible refine (impl_ReadNum.calls k2 t255 t257 true _ A26.out).mono ?_); rintro e w' ⟨rfl, ⟨nd, rfl⟩⟩; refine ⟨_, rfl, ?_⟩; (try (rw [drewN_self w86]; generalize hq_ : World.drewN w86 _ = w86; have n0_ : Aside0 (w86.heap[gb247]? = some (.cells #[.int .i64 x248000_2, .bool x248001_2, .int .i64 x248002_2] 23 (0, 0))) := ⟨by rw [← hq_]; exact (zr BK247)⟩; have n1_ : Aside0 (w86.heap[gb252]? = some (.cells #[.int .i64 t248, .bool t249, .int .i64 t250] 23 (0, 0))) := ⟨by rw [← hq_]; exact (zr BK252)⟩; have n2_ : Aside0 (Below w.heap.size w w86) := ⟨by rw [← hq_]; exact (zb _)⟩; clear BK247 BK252 HB hq_; have BK247 := n0_; have BK252 := n1_; have HB := n2_; clear n0_ n1_ n2_))) | ((with_reducible refine gate_dst (N := 15) rfl ?_); refine zbx 15 #[.int .i64 0, .bool false, .int .i64 0] 23 ?_; intro gb266 hg w87 hbox hb; have BK266 := Aside0.mk (hbox); have GW266 := zs w hg; have GE266 := GW266; have NB247_266 := zlt BK247 hg; have NB266_247 := zgt (zlt BK247 hg); have NB252_266 := zlt BK252 hg; have NB266_252 := zgt (zlt BK252 hg); replace BK247 := zk BK247 hb; replace BK252 := zk BK252 hb; replace HB := zt w hb; clear hb hbox hg; have hnb88 := NB266_247.out; have hnc88 := NB247_266.out; have hnb89 := NB266_252.out; have hnc89 := NB252_266.out; have hcz90_0 := zc0 BK266; have hcz90_1 := zc1 BK266; have hcz90_2 := zc2 BK266; have hfz90_0 := blk_frozen BK266.out 0; have hfz90_1 := blk_frozen BK266.out 1; have hfz90_2 := blk_frozen BK266.out 2) | (go_at_call 19; (with_reducible refine (impl_InsText.calls k2 x31_2 false t257 t267 _ ?side1 A71.out).mono ?_); (case side1 => exact GW.below HG.out (zb _)); rintro e w91 ⟨rfl, hb⟩; replace BK247 := zkw (g := gb247) (o := .cells #[.int .i64 x248000_2, .bool x248001_2, .int .i64 x248002_2] 23 (0, 0)) hb; replace BK252 := zkw (g := gb252) (o := .cells #[.int .i64 t248, .bool t249, .int .i64 t250] 23 (0, 0)) hb; replace BK266 := zkw (g := gb266) (o := .cells #[.int .i64 x31_2, .bool false, .int .i64 t257] 23 (0, 0)) hb; replace HB := zt w hb; (try clear hb); (try clear hb2); (try clear hk); (try clear hi)))
             go_roundg k2
             case measure => have := HJ1.out; have := HK2.out; omega
             case rel => exact ⟨(wrap64 (x31_2 + 1)), (x248000_2), (x248001_2), (x248002_2), (zE _), H', ⟨by have := HJ1.out; have := HK2.out; omega⟩, ⟨by (with_reducible repeat (first | refine blk_drewN ?_ _ | refine blk_drew ?_ | refine blk_alloc ?_ _)); exact BK247.out⟩, ⟨by (with_reducible repeat (first | refine blk_drewN ?_ _ | refine blk_drew ?_ | refine blk_alloc ?_ _)); exact BK252.out⟩, ⟨zb _⟩⟩
           ·replace c70 := Bool.eq_false_iff.mpr c70
            subst c70
            rw [if_neg (show ¬ (false = true) by decide)] at H
            have H' := Aside0.mk H
            clear H
            go_wp2_with (first | ((with_reducible refine gate_callee (f := 13) rfl ?_); refine zc (some 35) Tryz.func13 #[.int .i64 x31_2, .bool false] ?_; (with_reducible refine (impl_TemplateOf.calls x31_2 false t253 _ ?side1 A19.out).mono ?_); (case side1 => exact GW.below HG.out (zb _)); rintro e w92 ⟨rfl, hb⟩; refine ⟨_, rfl, ?_⟩; replace BK247 := zk BK247 hb; replace BK252 := zk BK252 hb; replace HB := zt w hb; (try clear hb); (try clear hb2); (try clear hk); (try clear hi)) | ((with_reducible refine gate_callee (f := 14) rfl ?_); refine zc (some 37) Tryz.func14 #[.string t253] ?_; (with_reducible refine (impl_holeOf.calls k2 t253 t254 _ ?side1 A20.out).mono ?_); (case side1 => exact GW.below HG.out (zb _)); rintro e w93 ⟨rfl, hb⟩; refine ⟨_, rfl, ?_⟩; replace BK247 := zk BK247 hb; replace BK252 := zk BK252 hb; replace HB := zt w hb; (try clear hb); (try clear hb2); (try clear hk); (try clear hi)) | ((with_reducible refine gate_callee (f := 15) rfl ?_); refine zc (some 44) Tryz.func15 #[.string t253, .string t254, .string a0] ?_; (with_reducible refine (impl_inHole.calls t253 t254 a0 t255 true _ ?side1 A24.out).mono ?_); (case side1 => exact GW.below HG.out (zb _)); rintro e w94 ⟨rfl, hb⟩; refine ⟨_, rfl, ?_⟩; replace BK247 := zk BK247 hb; replace BK252 := zk BK252 hb; replace HB := zt w hb; (try clear hb); (try clear hb2); (try clear hk); (try clear hi)) | ((with_reducible refine gate_callee (f := 16) rfl ?_); refine zc (some 51) Tryz.func16 #[.string t255] ?_; (with_reducible refine (impl_ReadNum.calls k2 t255 t257 false _ A26.out).mono ?_); rintro e w' ⟨rfl, ⟨nd, rfl⟩⟩; refine ⟨_, rfl, ?_⟩; (try (rw [drewN_self w94]; generalize hq_ : World.drewN w94 _ = w94; have n0_ : Aside0 (w94.heap[gb247]? = some (.cells #[.int .i64 x248000_2, .bool x248001_2, .int .i64 x248002_2] 23 (0, 0))) := ⟨by rw [← hq_]; exact (zr BK247)⟩; have n1_ : Aside0 (w94.heap[gb252]? = some (.cells #[.int .i64 t248, .bool t249, .int .i64 t250] 23 (0, 0))) := ⟨by rw [← hq_]; exact (zr BK252)⟩; have n2_ : Aside0 (Below w.heap.size w w94) := ⟨by rw [← hq_]; exact (zb _)⟩; clear BK247 BK252 HB hq_; have BK247 := n0_; have BK252 := n1_; have HB := n2_; clear n0_ n1_ n2_))) | ((with_reducible refine gate_dst (N := 15) rfl ?_); refine zbx 15 #[.int .i64 0, .bool false, .int .i64 0] 23 ?_; intro gb266 hg w95 hbox hb; have BK266 := Aside0.mk (hbox); have GW266 := zs w hg; have GE266 := GW266; have NB247_266 := zlt BK247 hg; have NB266_247 := zgt (zlt BK247 hg); have NB252_266 := zlt BK252 hg; have NB266_252 := zgt (zlt BK252 hg); replace BK247 := zk BK247 hb; replace BK252 := zk BK252 hb; replace HB := zt w hb; clear hb hbox hg; have hnb96 := NB266_247.out; have hnc96 := NB247_266.out; have hnb97 := NB266_252.out; have hnc97 := NB252_266.out; have hcz98_0 := zc0 BK266; have hcz98_1 := zc1 BK266; have hcz98_2 := zc2 BK266; have hfz98_0 := blk_frozen BK266.out 0; have hfz98_1 := blk_frozen BK266.out 1; have hfz98_2 := blk_frozen BK266.out 2))
            go_roundg k2
            case measure => have := HJ1.out; have := HK2.out; omega
            case rel => exact ⟨(wrap64 (x31_2 + 1)), (x248000_2), (x248001_2), (x248002_2), (zE _), H', ⟨by have := HJ1.out; have := HK2.out; omega⟩, ⟨by (with_reducible repeat (first | refine blk_drewN ?_ _ | refine blk_drew ?_ | refine blk_alloc ?_ _)); refine blk_far ?_ NB247_266.out _; (with_reducible repeat (first | refine blk_drewN ?_ _ | refine blk_drew ?_ | refine blk_alloc ?_ _)); refine blk_far ?_ NB247_266.out _; (with_reducible repeat (first | refine blk_drewN ?_ _ | refine blk_drew ?_ | refine blk_alloc ?_ _)); refine blk_far ?_ NB247_266.out _; (with_reducible repeat (first | refine blk_drewN ?_ _ | refine blk_drew ?_ | refine blk_alloc ?_ _)); exact BK247.out⟩, ⟨by (with_reducible repeat (first | refine blk_drewN ?_ _ | refine blk_drew ?_ | refine blk_alloc ?_ _)); refine blk_far ?_ NB252_266.out _; (with_reducible repeat (first | refine blk_drewN ?_ _ | refine blk_drew ?_ | refine blk_alloc ?_ _)); refine blk_far ?_ NB252_266.out _; (with_reducible repeat (first | refine blk_drewN ?_ _ | refine blk_drew ?_ | refine blk_alloc ?_ _)); refine blk_far ?_ NB252_266.out _; (with_reducible repeat (first | refine blk_drewN ?_ _ | refine blk_drew ?_ | refine blk_alloc ?_ _)); exact BK252.out⟩, ⟨zb _⟩⟩
         ·replace c25 := Bool.eq_false_iff.mpr c25
          subst c25
          rw [if_neg (show ¬ (false = true) by decide)] at H
          have H' := Aside0.mk H
          clear H
          go_wp2_with (first | ((with_reducible refine gate_callee (f := 13) rfl ?_); refine zc (some 35) Tryz.func13 #[.int .i64 x31_2, .bool false] ?_; (with_reducible refine (impl_TemplateOf.calls x31_2 false t253 _ ?side1 A19.out).mono ?_); (case side1 => exact GW.below HG.out (zb _)); rintro e w99 ⟨rfl, hb⟩; refine ⟨_, rfl, ?_⟩; replace BK247 := zk BK247 hb; replace BK252 := zk BK252 hb; replace HB := zt w hb; (try clear hb); (try clear hb2); (try clear hk); (try clear hi)) | ((with_reducible refine gate_callee (f := 14) rfl ?_); refine zc (some 37) Tryz.func14 #[.string t253] ?_; (with_reducible refine (impl_holeOf.calls k2 t253 t254 _ ?side1 A20.out).mono ?_); (case side1 => exact GW.below HG.out (zb _)); rintro e w100 ⟨rfl, hb⟩; refine ⟨_, rfl, ?_⟩; replace BK247 := zk BK247 hb; replace BK252 := zk BK252 hb; replace HB := zt w hb; (try clear hb); (try clear hb2); (try clear hk); (try clear hi)) | ((with_reducible refine gate_callee (f := 15) rfl ?_); refine zc (some 44) Tryz.func15 #[.string t253, .string t254, .string a0] ?_; (with_reducible refine (impl_inHole.calls t253 t254 a0 t255 false _ ?side1 A24.out).mono ?_); (case side1 => exact GW.below HG.out (zb _)); rintro e w101 ⟨rfl, hb⟩; refine ⟨_, rfl, ?_⟩; replace BK247 := zk BK247 hb; replace BK252 := zk BK252 hb; replace HB := zt w hb; (try clear hb); (try clear hb2); (try clear hk); (try clear hi)))
          go_roundg k2
          case measure => have := HJ1.out; have := HK2.out; omega
          case rel => exact ⟨(wrap64 (x31_2 + 1)), (x248000_2), (x248001_2), (x248002_2), (zE _), H', ⟨by have := HJ1.out; have := HK2.out; omega⟩, ⟨by (with_reducible repeat (first | refine blk_drewN ?_ _ | refine blk_drew ?_ | refine blk_alloc ?_ _)); exact BK247.out⟩, ⟨by (with_reducible repeat (first | refine blk_drewN ?_ _ | refine blk_drew ?_ | refine blk_alloc ?_ _)); exact BK252.out⟩, ⟨zb _⟩⟩
       ·rw [if_neg c18] at H
        have c18b0 : decide (x31_2 < 256) = false := decide_eq_false c18
        clear c18
        simp only [Option.some.injEq, Prod.mk.injEq] at H
        obtain ⟨rfl, rfl, rfl, rfl⟩ := H
        have hnb102 := NB247_252.out
        have hnc102 := NB252_247.out
        have hcz103_0 := zc0 BK247
        have hcz103_1 := zc1 BK247
        have hcz103_2 := zc2 BK247
        have hfz103_0 := blk_frozen BK247.out 0
        have hfz103_1 := blk_frozen BK247.out 1
        have hfz103_2 := blk_frozen BK247.out 2
        go_wp2
        refine bodyPost_ret (results_ct rfl _ _ gb247 23 #[.int .i64 0, .bool false, .int .i64 0] (0, 0) _ rfl (zw _) Tryz.underlying23 rfl (by kernel_rfl)) rfl ?_
        exact ⟨ze _, zb _⟩

/-! ### laws_eqIns: function 6 -/
def laws_eqIns.f (a0_0 : Int) (a0_1 : Bool) (a0_2 : Int) (a1_0 : Int) (a1_1 : Bool) (a1_2 : Int) : Option (Bool) := if a0_0 = a1_0 then (if (a0_1 != a1_1) = true then (some false) else (if a0_2 = a1_2 then (some true) else (some false))) else (some false)
set_option maxHeartbeats 8000000 in
set_option maxRecDepth 100000 in
theorem laws_eqIns.calls (a0_0 : Int) (a0_1 : Bool) (a0_2 : Int) (a1_0 : Int) (a1_1 : Bool) (a1_2 : Int) (r : Bool) (w : World) (h : laws_eqIns.f a0_0 a0_1 a0_2 a1_0 a1_1 a1_2 = some r) :
 Calls Tryz.prog 6 #[.agg #[.int .i64 a0_0, .bool a0_1, .int .i64 a0_2], .agg #[.int .i64 a1_0, .bool a1_1, .int .i64 a1_2]] w fun e w' => e = .returned (.bool r) ∧ Below w.heap.size w w' := by
 have hu23 := Tryz.underlying23
 have HB := Aside0.mk (Below.refl w.heap.size w)
 have H : (if a0_0 = a1_0 then (if (a0_1 != a1_1) = true then (some false) else (if a0_2 = a1_2 then (some true) else (some false))) else (some false)) = some r := h
 clear h
 by_cases c3 : a0_0 = a1_0
 ·rw [if_pos c3] at H
  have c3b0 : (a0_0 == a1_0) = true := beq_iff_eq.mpr c3
  have c3b1 : (a0_0 != a1_0) = false := bne_eq_false_iff_eq.mpr c3
  clear c3
  by_cases c4 : (a0_1 != a1_1) = true
  ·rw [if_pos c4] at H
   have c4b0 : (a0_1 != a1_1) = true := c4
   (try (have c4b1 : decide (a0_1 = a1_1) = false := by simpa using c4))
   (try (have c4b2 : (a0_1 == a1_1) = false := by simpa using c4))
   (try (have c4b3 : ¬ (a0_1 = a1_1) := by simpa using c4))
   clear c4
   obtain rfl := Option.some.inj H
   go_enter Tryz.func6, Tryz.ntmps6
   go_wp2_with (first | ((with_reducible refine gate_dst (N := 2) rfl ?_); refine zbx 2 #[.int .i64 a0_0, .bool a0_1, .int .i64 a0_2] 23 ?_; intro gb268 hg w5 hbox hb; have BK268 := Aside0.mk (hbox); have GW268 := zs w hg; have GE268 := GW268; replace HB := zt w hb; clear hb hbox hg) | ((with_reducible refine gate_dst (N := 3) rfl ?_); refine zbx 3 #[.int .i64 a1_0, .bool a1_1, .int .i64 a1_2] 23 ?_; intro gb269 hg w6 hbox hb; have BK269 := Aside0.mk (hbox); have GW269 := zs w hg; have GE269 := GW269; have NB268_269 := zlt BK268 hg; have NB269_268 := zgt (zlt BK268 hg); replace BK268 := zk BK268 hb; replace HB := zt w hb; clear hb hbox hg; have hnb7 := NB268_269.out; have hnc7 := NB269_268.out; have hcz8_0 := zc0 BK268; have hcz8_1 := zc1 BK268; have hcz8_2 := zc2 BK268; have hfz8_0 := blk_frozen BK268.out 0; have hfz8_1 := blk_frozen BK268.out 1; have hfz8_2 := blk_frozen BK268.out 2; have hcz9_0 := zc0 BK269; have hcz9_1 := zc1 BK269; have hcz9_2 := zc2 BK269; have hfz9_0 := blk_frozen BK269.out 0; have hfz9_1 := blk_frozen BK269.out 1; have hfz9_2 := blk_frozen BK269.out 2))
   first | go_ret | ((try simp only [Exit.inBlock, Exit.then]); apply bodyPost_ret; (exact results_tmp rfl _ _ _); rfl)
   exact ⟨ze _, zb _⟩
  ·rw [if_neg c4] at H
   have c4b0 : (a0_1 != a1_1) = false := by simpa using c4
   (try (have c4b1 : decide (a0_1 = a1_1) = true := by simpa using c4))
   (try (have c4b2 : (a0_1 == a1_1) = true := by simpa using c4))
   clear c4
   by_cases c10 : a0_2 = a1_2
   ·rw [if_pos c10] at H
    have c10b0 : (a0_2 == a1_2) = true := beq_iff_eq.mpr c10
    have c10b1 : (a0_2 != a1_2) = false := bne_eq_false_iff_eq.mpr c10
    clear c10
    obtain rfl := Option.some.inj H
    go_enter Tryz.func6, Tryz.ntmps6
    go_wp2_with (first | ((with_reducible refine gate_dst (N := 2) rfl ?_); refine zbx 2 #[.int .i64 a0_0, .bool a0_1, .int .i64 a0_2] 23 ?_; intro gb268 hg w11 hbox hb; have BK268 := Aside0.mk (hbox); have GW268 := zs w hg; have GE268 := GW268; replace HB := zt w hb; clear hb hbox hg) | ((with_reducible refine gate_dst (N := 3) rfl ?_); refine zbx 3 #[.int .i64 a1_0, .bool a1_1, .int .i64 a1_2] 23 ?_; intro gb269 hg w12 hbox hb; have BK269 := Aside0.mk (hbox); have GW269 := zs w hg; have GE269 := GW269; have NB268_269 := zlt BK268 hg; have NB269_268 := zgt (zlt BK268 hg); replace BK268 := zk BK268 hb; replace HB := zt w hb; clear hb hbox hg; have hnb13 := NB268_269.out; have hnc13 := NB269_268.out; have hcz14_0 := zc0 BK268; have hcz14_1 := zc1 BK268; have hcz14_2 := zc2 BK268; have hfz14_0 := blk_frozen BK268.out 0; have hfz14_1 := blk_frozen BK268.out 1; have hfz14_2 := blk_frozen BK268.out 2; have hcz15_0 := zc0 BK269; have hcz15_1 := zc1 BK269; have hcz15_2 := zc2 BK269; have hfz15_0 := blk_frozen BK269.out 0; have hfz15_1 := blk_frozen BK269.out 1; have hfz15_2 := blk_frozen BK269.out 2))
    first | go_ret | ((try simp only [Exit.inBlock, Exit.then]); apply bodyPost_ret; (exact results_tmp rfl _ _ _); rfl)
    exact ⟨ze _, zb _⟩
   ·rw [if_neg c10] at H
    have c10b0 : (a0_2 == a1_2) = false := beq_eq_false_iff_ne.mpr c10
    have c10b1 : (a0_2 != a1_2) = true := bne_iff_ne.mpr c10
    obtain rfl := Option.some.inj H
    go_enter Tryz.func6, Tryz.ntmps6
    go_wp2_with (first | ((with_reducible refine gate_dst (N := 2) rfl ?_); refine zbx 2 #[.int .i64 a0_0, .bool a0_1, .int .i64 a0_2] 23 ?_; intro gb268 hg w16 hbox hb; have BK268 := Aside0.mk (hbox); have GW268 := zs w hg; have GE268 := GW268; replace HB := zt w hb; clear hb hbox hg) | ((with_reducible refine gate_dst (N := 3) rfl ?_); refine zbx 3 #[.int .i64 a1_0, .bool a1_1, .int .i64 a1_2] 23 ?_; intro gb269 hg w17 hbox hb; have BK269 := Aside0.mk (hbox); have GW269 := zs w hg; have GE269 := GW269; have NB268_269 := zlt BK268 hg; have NB269_268 := zgt (zlt BK268 hg); replace BK268 := zk BK268 hb; replace HB := zt w hb; clear hb hbox hg; have hnb18 := NB268_269.out; have hnc18 := NB269_268.out; have hcz19_0 := zc0 BK268; have hcz19_1 := zc1 BK268; have hcz19_2 := zc2 BK268; have hfz19_0 := blk_frozen BK268.out 0; have hfz19_1 := blk_frozen BK268.out 1; have hfz19_2 := blk_frozen BK268.out 2; have hcz20_0 := zc0 BK269; have hcz20_1 := zc1 BK269; have hcz20_2 := zc2 BK269; have hfz20_0 := blk_frozen BK269.out 0; have hfz20_1 := blk_frozen BK269.out 1; have hfz20_2 := blk_frozen BK269.out 2))
    first | go_ret | ((try simp only [Exit.inBlock, Exit.then]); apply bodyPost_ret; (exact results_tmp rfl _ _ _); rfl)
    exact ⟨ze _, zb _⟩
 ·rw [if_neg c3] at H
  have c3b0 : (a0_0 == a1_0) = false := beq_eq_false_iff_ne.mpr c3
  have c3b1 : (a0_0 != a1_0) = true := bne_iff_ne.mpr c3
  obtain rfl := Option.some.inj H
  go_enter Tryz.func6, Tryz.ntmps6
  go_wp2_with (first | ((with_reducible refine gate_dst (N := 2) rfl ?_); refine zbx 2 #[.int .i64 a0_0, .bool a0_1, .int .i64 a0_2] 23 ?_; intro gb268 hg w21 hbox hb; have BK268 := Aside0.mk (hbox); have GW268 := zs w hg; have GE268 := GW268; replace HB := zt w hb; clear hb hbox hg) | ((with_reducible refine gate_dst (N := 3) rfl ?_); refine zbx 3 #[.int .i64 a1_0, .bool a1_1, .int .i64 a1_2] 23 ?_; intro gb269 hg w22 hbox hb; have BK269 := Aside0.mk (hbox); have GW269 := zs w hg; have GE269 := GW269; have NB268_269 := zlt BK268 hg; have NB269_268 := zgt (zlt BK268 hg); replace BK268 := zk BK268 hb; replace HB := zt w hb; clear hb hbox hg; have hnb23 := NB268_269.out; have hnc23 := NB269_268.out; have hcz24_0 := zc0 BK268; have hcz24_1 := zc1 BK268; have hcz24_2 := zc2 BK268; have hfz24_0 := blk_frozen BK268.out 0; have hfz24_1 := blk_frozen BK268.out 1; have hfz24_2 := blk_frozen BK268.out 2; have hcz25_0 := zc0 BK269; have hcz25_1 := zc1 BK269; have hcz25_2 := zc2 BK269; have hfz25_0 := blk_frozen BK269.out 0; have hfz25_1 := blk_frozen BK269.out 1; have hfz25_2 := blk_frozen BK269.out 2))
  first | go_ret | ((try simp only [Exit.inBlock, Exit.then]); apply bodyPost_ret; (exact results_tmp rfl _ _ _); rfl)
  exact ⟨ze _, zb _⟩

/-! ### laws_FnExactReadInsText: function 3 -/
def laws_FnExactReadInsText.f (k : Nat) (a0 : ByteArray) : Option (Bool) := if (a0.size : Int) > 1048576 then (some true) else ((spec_ReadInsText.f k a0).bind fun bt270 => ((impl_ReadInsText.f k a0).bind fun bt275 => ((laws_eqIns.f bt275.1 bt275.2.1 bt275.2.2.1 bt270.1 bt270.2.1 bt270.2.2.1).bind fun t280 => (if t280 = true then (if (bt275.2.2.2 != bt270.2.2.2) = true then (some false) else (some true)) else (some false)))))
theorem laws_FnExactReadInsText.mono : ∀ a0 k, LeO (laws_FnExactReadInsText.f k a0) (laws_FnExactReadInsText.f (k + 1) a0) := by
  intro a0 k
  unfold laws_FnExactReadInsText.f
  repeat' first
      | (with_reducible exact impl_ReadInsText.mono _ _)
      | (with_reducible exact spec_ReadInsText.mono _ _)
      | (with_reducible exact LeO.refl _)
      | (with_reducible exact LeO.none _)
      | (with_reducible refine LeO.ite ?_ ?_)
      | (with_reducible refine LeO.bind ?_ (fun _ => ?_))
      | exact impl_ReadInsText.mono _ _
      | exact spec_ReadInsText.mono _ _
      | exact LeO.none _
      | refine LeO.ite ?_ ?_
      | refine LeO.bind ?_ (fun _ => ?_)
set_option maxHeartbeats 8000000 in
set_option maxRecDepth 100000 in
theorem laws_FnExactReadInsText.calls (k : Nat) (a0 : ByteArray) (r : Bool) (w : World) (hG : GW w) (h : laws_FnExactReadInsText.f k a0 = some r) :
 Calls Tryz.prog 3 #[.string a0] w fun e w' => e = .returned (.bool r) ∧ Below w.heap.size w w' := by
 have hu23 := Tryz.underlying23
 have HB := Aside0.mk (Below.refl w.heap.size w)
 have HG := Aside0.mk hG
 clear hG
 have H : (if (a0.size : Int) > 1048576 then (some true) else ((spec_ReadInsText.f k a0).bind fun bt270 => ((impl_ReadInsText.f k a0).bind fun bt275 => ((laws_eqIns.f bt275.1 bt275.2.1 bt275.2.2.1 bt270.1 bt270.2.1 bt270.2.2.1).bind fun t280 => (if t280 = true then (if (bt275.2.2.2 != bt270.2.2.2) = true then (some false) else (some true)) else (some false)))))) = some r := h
 clear h
 by_cases c2 : (a0.size : Int) > 1048576
 ·rw [if_pos c2] at H
  have c2b0 : decide (1048576 < (a0.size : Int)) = true := decide_eq_true c2
  have c2b1 : decide (1048576 < a0.size) = true := decide_eq_true (by omega)
  clear c2
  obtain rfl := Option.some.inj H
  go_enter Tryz.func3, Tryz.ntmps3
  go_wp2
  first | go_ret | ((try simp only [Exit.inBlock, Exit.then]); apply bodyPost_ret; (exact results_tmp rfl _ _ _); rfl)
  exact ⟨ze _, zb _⟩
 ·rw [if_neg c2] at H
  have c2b0 : decide (1048576 < (a0.size : Int)) = false := decide_eq_false c2
  have c2b1 : decide (1048576 < a0.size) = false := decide_eq_false (by omega)
  clear c2
  replace H := Option.bind_eq_some_iff.mp H
  obtain ⟨⟨t270, t271, t272, t273⟩, A30, H⟩ := H
  replace H : ((impl_ReadInsText.f k a0).bind fun bt275 => ((laws_eqIns.f bt275.1 bt275.2.1 bt275.2.2.1 t270 t271 t272).bind fun t280 => (if t280 = true then (if (bt275.2.2.2 != t273) = true then (some false) else (some true)) else (some false)))) = some r := H
  have A3 := Aside0.mk A30
  clear A30
  replace H := Option.bind_eq_some_iff.mp H
  obtain ⟨⟨t275, t276, t277, t278⟩, A40, H⟩ := H
  replace H : ((laws_eqIns.f t275 t276 t277 t270 t271 t272).bind fun t280 => (if t280 = true then (if (t278 != t273) = true then (some false) else (some true)) else (some false))) = some r := H
  have A4 := Aside0.mk A40
  clear A40
  obtain ⟨t280, A50, H⟩ := Option.bind_eq_some_iff.mp H
  have A5 := Aside0.mk A50
  clear A50
  by_cases c6 : t280 = true
  ·subst c6
   rw [if_pos rfl] at H
   by_cases c7 : (t278 != t273) = true
   ·rw [if_pos c7] at H
    have c7b0 : (t278 != t273) = true := c7
    (try (have c7b1 : decide (t278 = t273) = false := by simpa using c7))
    (try (have c7b2 : (t278 == t273) = false := by simpa using c7))
    (try (have c7b3 : ¬ (t278 = t273) := by simpa using c7))
    clear c7
    obtain rfl := Option.some.inj H
    go_enter Tryz.func3, Tryz.ntmps3
    go_wp2_with (first | ((with_reducible refine gate_callee (f := 4) rfl ?_); refine zc (some 12) Tryz.func4 #[.string a0] ?_; (with_reducible refine (spec_ReadInsText.calls k a0 t270 t271 t272 t273 _ A3.out).mono ?_); rintro e w8 ⟨rfl, hb⟩; refine ⟨_, rfl, ?_⟩; replace HB := zt w hb; (try clear hb); (try clear hb2); (try clear hk); (try clear hi)) | ((with_reducible refine gate_dst (N := 3) rfl ?_); refine zbx 3 #[.int .i64 0, .bool false, .int .i64 0] 23 ?_; intro gb274 hg w9 hbox hb; have BK274 := Aside0.mk (hbox); have GW274 := zs w hg; have GE274 := GW274; replace HB := zt w hb; clear hb hbox hg; have hcz10_0 := zc0 BK274; have hcz10_1 := zc1 BK274; have hcz10_2 := zc2 BK274; have hfz10_0 := blk_frozen BK274.out 0; have hfz10_1 := blk_frozen BK274.out 1; have hfz10_2 := blk_frozen BK274.out 2) | ((with_reducible refine gate_callee (f := 5) rfl ?_); refine zc (some 17) Tryz.func5 #[.string a0] ?_; (with_reducible refine (impl_ReadInsText.calls k a0 t275 t276 t277 t278 _ ?side1 A4.out).mono ?_); (case side1 => exact GW.below HG.out (zb _)); rintro e w11 ⟨rfl, hb⟩; refine ⟨_, rfl, ?_⟩; replace BK274 := zkw (g := gb274) (o := .cells #[.int .i64 t270, .bool t271, .int .i64 t272] 23 (0, 0)) hb; replace HB := zt w hb; (try clear hb); (try clear hb2); (try clear hk); (try clear hi)) | ((with_reducible refine gate_dst (N := 5) rfl ?_); refine zbx 5 #[.int .i64 0, .bool false, .int .i64 0] 23 ?_; intro gb279 hg w12 hbox hb; have BK279 := Aside0.mk (hbox); have GW279 := zs w hg; have GE279 := GW279; have NB274_279 := zlt BK274 hg; have NB279_274 := zgt (zlt BK274 hg); replace BK274 := zk BK274 hb; replace HB := zt w hb; clear hb hbox hg; have hnb13 := NB279_274.out; have hnc13 := NB274_279.out; have hcz14_0 := zc0 BK279; have hcz14_1 := zc1 BK279; have hcz14_2 := zc2 BK279; have hfz14_0 := blk_frozen BK279.out 0; have hfz14_1 := blk_frozen BK279.out 1; have hfz14_2 := blk_frozen BK279.out 2; have hcz15_0 := zc0 BK274; have hcz15_1 := zc1 BK274; have hcz15_2 := zc2 BK274; have hfz15_0 := blk_frozen BK274.out 0; have hfz15_1 := blk_frozen BK274.out 1; have hfz15_2 := blk_frozen BK274.out 2) | ((with_reducible refine gate_callee (f := 6) rfl ?_); refine zc (some 22) Tryz.func6 #[.agg #[.int .i64 t275, .bool t276, .int .i64 t277], .agg #[.int .i64 t270, .bool t271, .int .i64 t272]] ?_; (with_reducible refine (laws_eqIns.calls t275 t276 t277 t270 t271 t272 true _ A5.out).mono ?_); rintro e w16 ⟨rfl, hb⟩; refine ⟨_, rfl, ?_⟩; replace BK274 := zkw (g := gb274) (o := .cells #[.int .i64 t270, .bool t271, .int .i64 t272] 23 (0, 0)) hb; replace BK279 := zkw (g := gb279) (o := .cells #[.int .i64 t275, .bool t276, .int .i64 t277] 23 (0, 0)) hb; replace HB := zt w hb; (try clear hb); (try clear hb2); (try clear hk); (try clear hi)))
    first | go_ret | ((try simp only [Exit.inBlock, Exit.then]); apply bodyPost_ret; (exact results_tmp rfl _ _ _); rfl)
    exact ⟨ze _, zb _⟩
   ·rw [if_neg c7] at H
    have c7b0 : (t278 != t273) = false := by simpa using c7
    (try (have c7b1 : decide (t278 = t273) = true := by simpa using c7))
    (try (have c7b2 : (t278 == t273) = true := by simpa using c7))
    clear c7
    obtain rfl := Option.some.inj H
    go_enter Tryz.func3, Tryz.ntmps3
    go_wp2_with (first | ((with_reducible refine gate_callee (f := 4) rfl ?_); refine zc (some 12) Tryz.func4 #[.string a0] ?_; (with_reducible refine (spec_ReadInsText.calls k a0 t270 t271 t272 t273 _ A3.out).mono ?_); rintro e w17 ⟨rfl, hb⟩; refine ⟨_, rfl, ?_⟩; replace HB := zt w hb; (try clear hb); (try clear hb2); (try clear hk); (try clear hi)) | ((with_reducible refine gate_dst (N := 3) rfl ?_); refine zbx 3 #[.int .i64 0, .bool false, .int .i64 0] 23 ?_; intro gb274 hg w18 hbox hb; have BK274 := Aside0.mk (hbox); have GW274 := zs w hg; have GE274 := GW274; replace HB := zt w hb; clear hb hbox hg; have hcz19_0 := zc0 BK274; have hcz19_1 := zc1 BK274; have hcz19_2 := zc2 BK274; have hfz19_0 := blk_frozen BK274.out 0; have hfz19_1 := blk_frozen BK274.out 1; have hfz19_2 := blk_frozen BK274.out 2) | ((with_reducible refine gate_callee (f := 5) rfl ?_); refine zc (some 17) Tryz.func5 #[.string a0] ?_; (with_reducible refine (impl_ReadInsText.calls k a0 t275 t276 t277 t278 _ ?side1 A4.out).mono ?_); (case side1 => exact GW.below HG.out (zb _)); rintro e w20 ⟨rfl, hb⟩; refine ⟨_, rfl, ?_⟩; replace BK274 := zkw (g := gb274) (o := .cells #[.int .i64 t270, .bool t271, .int .i64 t272] 23 (0, 0)) hb; replace HB := zt w hb; (try clear hb); (try clear hb2); (try clear hk); (try clear hi)) | ((with_reducible refine gate_dst (N := 5) rfl ?_); refine zbx 5 #[.int .i64 0, .bool false, .int .i64 0] 23 ?_; intro gb279 hg w21 hbox hb; have BK279 := Aside0.mk (hbox); have GW279 := zs w hg; have GE279 := GW279; have NB274_279 := zlt BK274 hg; have NB279_274 := zgt (zlt BK274 hg); replace BK274 := zk BK274 hb; replace HB := zt w hb; clear hb hbox hg; have hnb22 := NB279_274.out; have hnc22 := NB274_279.out; have hcz23_0 := zc0 BK279; have hcz23_1 := zc1 BK279; have hcz23_2 := zc2 BK279; have hfz23_0 := blk_frozen BK279.out 0; have hfz23_1 := blk_frozen BK279.out 1; have hfz23_2 := blk_frozen BK279.out 2; have hcz24_0 := zc0 BK274; have hcz24_1 := zc1 BK274; have hcz24_2 := zc2 BK274; have hfz24_0 := blk_frozen BK274.out 0; have hfz24_1 := blk_frozen BK274.out 1; have hfz24_2 := blk_frozen BK274.out 2) | ((with_reducible refine gate_callee (f := 6) rfl ?_); refine zc (some 22) Tryz.func6 #[.agg #[.int .i64 t275, .bool t276, .int .i64 t277], .agg #[.int .i64 t270, .bool t271, .int .i64 t272]] ?_; (with_reducible refine (laws_eqIns.calls t275 t276 t277 t270 t271 t272 true _ A5.out).mono ?_); rintro e w25 ⟨rfl, hb⟩; refine ⟨_, rfl, ?_⟩; replace BK274 := zkw (g := gb274) (o := .cells #[.int .i64 t270, .bool t271, .int .i64 t272] 23 (0, 0)) hb; replace BK279 := zkw (g := gb279) (o := .cells #[.int .i64 t275, .bool t276, .int .i64 t277] 23 (0, 0)) hb; replace HB := zt w hb; (try clear hb); (try clear hb2); (try clear hk); (try clear hi)))
    first | go_ret | ((try simp only [Exit.inBlock, Exit.then]); apply bodyPost_ret; (exact results_tmp rfl _ _ _); rfl)
    exact ⟨ze _, zb _⟩
  ·replace c6 := Bool.eq_false_iff.mpr c6
   subst c6
   rw [if_neg (show ¬ (false = true) by decide)] at H
   obtain rfl := Option.some.inj H
   go_enter Tryz.func3, Tryz.ntmps3
   go_wp2_with (first | ((with_reducible refine gate_callee (f := 4) rfl ?_); refine zc (some 12) Tryz.func4 #[.string a0] ?_; (with_reducible refine (spec_ReadInsText.calls k a0 t270 t271 t272 t273 _ A3.out).mono ?_); rintro e w26 ⟨rfl, hb⟩; refine ⟨_, rfl, ?_⟩; replace HB := zt w hb; (try clear hb); (try clear hb2); (try clear hk); (try clear hi)) | ((with_reducible refine gate_dst (N := 3) rfl ?_); refine zbx 3 #[.int .i64 0, .bool false, .int .i64 0] 23 ?_; intro gb274 hg w27 hbox hb; have BK274 := Aside0.mk (hbox); have GW274 := zs w hg; have GE274 := GW274; replace HB := zt w hb; clear hb hbox hg; have hcz28_0 := zc0 BK274; have hcz28_1 := zc1 BK274; have hcz28_2 := zc2 BK274; have hfz28_0 := blk_frozen BK274.out 0; have hfz28_1 := blk_frozen BK274.out 1; have hfz28_2 := blk_frozen BK274.out 2) | ((with_reducible refine gate_callee (f := 5) rfl ?_); refine zc (some 17) Tryz.func5 #[.string a0] ?_; (with_reducible refine (impl_ReadInsText.calls k a0 t275 t276 t277 t278 _ ?side1 A4.out).mono ?_); (case side1 => exact GW.below HG.out (zb _)); rintro e w29 ⟨rfl, hb⟩; refine ⟨_, rfl, ?_⟩; replace BK274 := zkw (g := gb274) (o := .cells #[.int .i64 t270, .bool t271, .int .i64 t272] 23 (0, 0)) hb; replace HB := zt w hb; (try clear hb); (try clear hb2); (try clear hk); (try clear hi)) | ((with_reducible refine gate_dst (N := 5) rfl ?_); refine zbx 5 #[.int .i64 0, .bool false, .int .i64 0] 23 ?_; intro gb279 hg w30 hbox hb; have BK279 := Aside0.mk (hbox); have GW279 := zs w hg; have GE279 := GW279; have NB274_279 := zlt BK274 hg; have NB279_274 := zgt (zlt BK274 hg); replace BK274 := zk BK274 hb; replace HB := zt w hb; clear hb hbox hg; have hnb31 := NB279_274.out; have hnc31 := NB274_279.out; have hcz32_0 := zc0 BK279; have hcz32_1 := zc1 BK279; have hcz32_2 := zc2 BK279; have hfz32_0 := blk_frozen BK279.out 0; have hfz32_1 := blk_frozen BK279.out 1; have hfz32_2 := blk_frozen BK279.out 2; have hcz33_0 := zc0 BK274; have hcz33_1 := zc1 BK274; have hcz33_2 := zc2 BK274; have hfz33_0 := blk_frozen BK274.out 0; have hfz33_1 := blk_frozen BK274.out 1; have hfz33_2 := blk_frozen BK274.out 2) | ((with_reducible refine gate_callee (f := 6) rfl ?_); refine zc (some 22) Tryz.func6 #[.agg #[.int .i64 t275, .bool t276, .int .i64 t277], .agg #[.int .i64 t270, .bool t271, .int .i64 t272]] ?_; (with_reducible refine (laws_eqIns.calls t275 t276 t277 t270 t271 t272 false _ A5.out).mono ?_); rintro e w34 ⟨rfl, hb⟩; refine ⟨_, rfl, ?_⟩; replace BK274 := zkw (g := gb274) (o := .cells #[.int .i64 t270, .bool t271, .int .i64 t272] 23 (0, 0)) hb; replace BK279 := zkw (g := gb279) (o := .cells #[.int .i64 t275, .bool t276, .int .i64 t277] 23 (0, 0)) hb; replace HB := zt w hb; (try clear hb); (try clear hb2); (try clear hk); (try clear hi)))
   first | go_ret | ((try simp only [Exit.inBlock, Exit.then]); apply bodyPost_ret; (exact results_tmp rfl _ _ _); rfl)
   exact ⟨ze _, zb _⟩

end Go.Proofs.YtmiebnpmckjidaaGreatDoor.PFnExactReadInsText
