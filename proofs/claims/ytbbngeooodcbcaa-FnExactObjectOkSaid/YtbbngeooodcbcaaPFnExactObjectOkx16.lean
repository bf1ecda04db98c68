/- What the Go functions that the law FnExactObjectOk reaches compute, function by function, and that Go comes to just that. -/
import Derived.Test.YtbbngeooodcbcaaPFnExactObjectOkx0
import Derived.Test.YtbbngeooodcbcaaAidZ
import Derived.Test.YtbbngeooodcbcaaPFnExactObjectOkx2
import Derived.Test.YtbbngeooodcbcaaPFnExactObjectOkx5
import Derived.Test.YtbbngeooodcbcaaPFnExactObjectOkx6
import Derived.Test.YtbbngeooodcbcaaPFnExactObjectOkx11
import Derived.Test.YtbbngeooodcbcaaPFnExactObjectOkx14
import Derived.Test.YtbbngeooodcbcaaPFnExactObjectOkx15
namespace Go.Proofs.Ytbbngeooodcbcaa.PFnExactObjectOk
open Go.RowKit Go.Proofs.Ytbbngeooodcbcaa.Z Go.Proofs.YtbbngeooodcbcaaW.PrintWords Go.Proofs.YtbbngeooodcbcaaW.PrintLast Go.Proofs.YtbbngeooodcbcaaW.PrintMore
attribute [local go_sem] max2_int min2_int max_two min_two max_three min_three max_four min_four   -- for this text's walks alone
set_option linter.unusedVariables false
set_option linter.unusedSimpArgs false

/-! ### laws_eqObject: function 8 -/
def laws_eqObject.f (k : Nat) (l0_0 : List (S43)) (l0_1 : List (S45)) (l0_2 : List (List (S74))) (l1_0 : List (S43)) (l1_1 : List (S45)) (l1_2 : List (List (S74))) : Option (Bool) := (laws_eqSectionS.f k l0_0 l1_0).bind fun t318 => (if t318 = true then ((laws_eqOSymS.f k l0_1 l1_1).bind fun t319 => (if t319 = true then ((laws_eqENodeSS.f k l0_2 l1_2).bind fun t320 => (if t320 = true then (some true) else (some false))) else (some false))) else (some false))
theorem laws_eqObject.mono : ∀ a0 a1 a2 a3 a4 a5 k, LeO (laws_eqObject.f k a0 a1 a2 a3 a4 a5) (laws_eqObject.f (k + 1) a0 a1 a2 a3 a4 a5) := by
  intro a0 a1 a2 a3 a4 a5 k
  unfold laws_eqObject.f
  repeat' first
      | (with_reducible exact laws_eqENodeSS.mono _ _ _)
      | (with_reducible exact laws_eqOSymS.mono _ _ _)
      | (with_reducible exact laws_eqSectionS.mono _ _ _)
      | (with_reducible exact LeO.refl _)
      | (with_reducible exact LeO.none _)
      | (with_reducible refine LeO.ite ?_ ?_)
      | (with_reducible refine LeO.bind ?_ (fun _ => ?_))
      | exact laws_eqENodeSS.mono _ _ _
      | exact laws_eqOSymS.mono _ _ _
      | exact laws_eqSectionS.mono _ _ _
      | exact LeO.none _
      | refine LeO.ite ?_ ?_
      | refine LeO.bind ?_ (fun _ => ?_)
set_option maxHeartbeats 8000000 in
set_option maxRecDepth 100000 in
theorem laws_eqObject.calls (k : Nat) (A0_0 : Option Addr) (c0_0 : Nat) (l0_0 : List (S43)) (A0_1 : Option Addr) (c0_1 : Nat) (l0_1 : List (S45)) (A0_2 : Option Addr) (c0_2 : Nat) (l0_2 : List (List (S74))) (A1_0 : Option Addr) (c1_0 : Nat) (l1_0 : List (S43)) (A1_1 : Option Addr) (c1_1 : Nat) (l1_1 : List (S45)) (A1_2 : Option Addr) (c1_2 : Nat) (l1_2 : List (List (S74))) (r : Bool) (w : World) (hr0_0 : Kd.C k43 w A0_0 l0_0.length l0_0) (hc0_0 : l0_0.length ≤ c0_0) (hr0_1 : Kd.C k45 w A0_1 l0_1.length l0_1) (hc0_1 : l0_1.length ≤ c0_1) (hr0_2 : Kd.C (Kd.slice 74 k74) w A0_2 l0_2.length l0_2) (hc0_2 : l0_2.length ≤ c0_2) (hr1_0 : Kd.C k43 w A1_0 l1_0.length l1_0) (hc1_0 : l1_0.length ≤ c1_0) (hr1_1 : Kd.C k45 w A1_1 l1_1.length l1_1) (hc1_1 : l1_1.length ≤ c1_1) (hr1_2 : Kd.C (Kd.slice 74 k74) w A1_2 l1_2.length l1_2) (hc1_2 : l1_2.length ≤ c1_2) (h : laws_eqObject.f k l0_0 l0_1 l0_2 l1_0 l1_1 l1_2 = some r) :
 Calls Try.prog 8 #[.agg #[.slice A0_0 l0_0.length c0_0, .slice A0_1 l0_1.length c0_1, .slice A0_2 l0_2.length c0_2], .agg #[.slice A1_0 l1_0.length c1_0, .slice A1_1 l1_1.length c1_1, .slice A1_2 l1_2.length c1_2]] w fun e w' => e = .returned (.bool r) ∧ Below w.heap.size w w' := by
 have hu33 := Try.underlying33
 have HR0_0 := Aside0.mk hr0_0
 have HC0_0 := Aside0.mk hc0_0
 clear hr0_0 hc0_0
 have HR0_1 := Aside0.mk hr0_1
 have HC0_1 := Aside0.mk hc0_1
 clear hr0_1 hc0_1
 have HR0_2 := Aside0.mk hr0_2
 have HC0_2 := Aside0.mk hc0_2
 clear hr0_2 hc0_2
 have HR1_0 := Aside0.mk hr1_0
 have HC1_0 := Aside0.mk hc1_0
 clear hr1_0 hc1_0
 have HR1_1 := Aside0.mk hr1_1
 have HC1_1 := Aside0.mk hc1_1
 clear hr1_1 hc1_1
 have HR1_2 := Aside0.mk hr1_2
 have HC1_2 := Aside0.mk hc1_2
 clear hr1_2 hc1_2
 have HB := Aside0.mk (Below.refl w.heap.size w)
 have H : ((laws_eqSectionS.f k l0_0 l1_0).bind fun t318 => (if t318 = true then ((laws_eqOSymS.f k l0_1 l1_1).bind fun t319 => (if t319 = true then ((laws_eqENodeSS.f k l0_2 l1_2).bind fun t320 => (if t320 = true then (some true) else (some false))) else (some false))) else (some false))) = some r := h
 clear h
 obtain ⟨t318, A30, H⟩ := Option.bind_eq_some_iff.mp H
 have A3 := Aside0.mk A30
 clear A30
 by_cases c4 : t318 = true
 ·subst c4
  rw [if_pos rfl] at H
  obtain ⟨t319, A50, H⟩ := Option.bind_eq_some_iff.mp H
  have A5 := Aside0.mk A50
  clear A50
  by_cases c6 : t319 = true
  ·subst c6
   rw [if_pos rfl] at H
   obtain ⟨t320, A70, H⟩ := Option.bind_eq_some_iff.mp H
   have A7 := Aside0.mk A70
   clear A70
   by_cases c8 : t320 = true
   ·subst c8
    rw [if_pos rfl] at H
    obtain rfl := Option.some.inj H
    go_enter Try.func8, Try.ntmps8
    go_wp2_with (first | ((with_reducible refine gate_dst (N := 2) rfl ?_); refine zbx 2 #[.slice A0_0 l0_0.length c0_0, .slice A0_1 l0_1.length c0_1, .slice A0_2 l0_2.length c0_2] 33 ?_; intro gb316 hg w9 hbox hb; have BK316 := Aside0.mk (hbox); have GW316 := zs w hg; have GE316 := GW316; replace HB := zt w hb; clear hb hbox hg) | ((with_reducible refine gate_dst (N := 3) rfl ?_); refine zbx 3 #[.slice A1_0 l1_0.length c1_0, .slice A1_1 l1_1.length c1_1, .slice A1_2 l1_2.length c1_2] 33 ?_; intro gb317 hg w10 hbox hb; have BK317 := Aside0.mk (hbox); have GW317 := zs w hg; have GE317 := GW317; have NB316_317 := zlt BK316 hg; have NB317_316 := zgt (zlt BK316 hg); replace BK316 := zk BK316 hb; replace HB := zt w hb; clear hb hbox hg; have hnb11 := NB316_317.out; have hnc11 := NB317_316.out; have hcz12_0 := zc0 BK316; have hcz12_1 := zc1 BK316; have hcz12_2 := zc2 BK316; have hfz12_0 := blk_frozen BK316.out 0; have hfz12_1 := blk_frozen BK316.out 1; have hfz12_2 := blk_frozen BK316.out 2; have hcz13_0 := zc0 BK317; have hcz13_1 := zc1 BK317; have hcz13_2 := zc2 BK317; have hfz13_0 := blk_frozen BK317.out 0; have hfz13_1 := blk_frozen BK317.out 1; have hfz13_2 := blk_frozen BK317.out 2) | ((with_reducible refine gate_callee (f := 26) rfl ?_); refine zc (some 9) Try.func26 #[.slice A0_0 l0_0.length c0_0, .slice A1_0 l1_0.length c1_0] ?_; (with_reducible refine (laws_eqSectionS.calls k _ _ l0_0 _ _ l1_0 true _ ?side1 ?side2 ?side3 ?side4 A3.out).mono ?_); (case side1 => repeat (first | exact (Kd.C_below HR0_0.out HB.out) | (with_reducible refine Kd.C_alloc ?_ _) | (with_reducible refine Kd.C_drewN ?_ _) | (with_reducible refine Kd.C_drew ?_))); (case side2 => exact HC0_0.out); (case side3 => repeat (first | exact (Kd.C_below HR1_0.out HB.out) | (with_reducible refine Kd.C_alloc ?_ _) | (with_reducible refine Kd.C_drewN ?_ _) | (with_reducible refine Kd.C_drew ?_))); (case side4 => exact HC1_0.out); rintro e w14 ⟨rfl, hb⟩; refine ⟨_, rfl, ?_⟩; replace BK316 := zk BK316 hb; replace BK317 := zk BK317 hb; replace HB := zt w hb; (try clear hb); (try clear hb2); (try clear hk); (try clear hi); have hcz15_0 := zc0 BK316; have hcz15_1 := zc1 BK316; have hcz15_2 := zc2 BK316; have hfz15_0 := blk_frozen BK316.out 0; have hfz15_1 := blk_frozen BK316.out 1; have hfz15_2 := blk_frozen BK316.out 2; have hcz16_0 := zc0 BK317; have hcz16_1 := zc1 BK317; have hcz16_2 := zc2 BK317; have hfz16_0 := blk_frozen BK317.out 0; have hfz16_1 := blk_frozen BK317.out 1; have hfz16_2 := blk_frozen BK317.out 2) | ((with_reducible refine gate_callee (f := 27) rfl ?_); refine zc (some 15) Try.func27 #[.slice A0_1 l0_1.length c0_1, .slice A1_1 l1_1.length c1_1] ?_; (with_reducible refine (laws_eqOSymS.calls k _ _ l0_1 _ _ l1_1 true _ ?side1 ?side2 ?side3 ?side4 A5.out).mono ?_); (case side1 => repeat (first | exact (Kd.C_below HR0_1.out HB.out) | (with_reducible refine Kd.C_alloc ?_ _) | (with_reducible refine Kd.C_drewN ?_ _) | (with_reducible refine Kd.C_drew ?_))); (case side2 => exact HC0_1.out); (case side3 => repeat (first | exact (Kd.C_below HR1_1.out HB.out) | (with_reducible refine Kd.C_alloc ?_ _) | (with_reducible refine Kd.C_drewN ?_ _) | (with_reducible refine Kd.C_drew ?_))); (case side4 => exact HC1_1.out); rintro e w17 ⟨rfl, hb⟩; refine ⟨_, rfl, ?_⟩; replace BK316 := zk BK316 hb; replace BK317 := zk BK317 hb; replace HB := zt w hb; (try clear hb); (try clear hb2); (try clear hk); (try clear hi); have hcz18_0 := zc0 BK316; have hcz18_1 := zc1 BK316; have hcz18_2 := zc2 BK316; have hfz18_0 := blk_frozen BK316.out 0; have hfz18_1 := blk_frozen BK316.out 1; have hfz18_2 := blk_frozen BK316.out 2; have hcz19_0 := zc0 BK317; have hcz19_1 := zc1 BK317; have hcz19_2 := zc2 BK317; have hfz19_0 := blk_frozen BK317.out 0; have hfz19_1 := blk_frozen BK317.out 1; have hfz19_2 := blk_frozen BK317.out 2) | ((with_reducible refine gate_callee (f := 28) rfl ?_); refine zc (some 21) Try.func28 #[.slice A0_2 l0_2.length c0_2, .slice A1_2 l1_2.length c1_2] ?_; (with_reducible refine (laws_eqENodeSS.calls k _ _ l0_2 _ _ l1_2 true _ ?side1 ?side2 ?side3 ?side4 A7.out).mono ?_); (case side1 => repeat (first | exact (Kd.C_below HR0_2.out HB.out) | (with_reducible refine Kd.C_alloc ?_ _) | (with_reducible refine Kd.C_drewN ?_ _) | (with_reducible refine Kd.C_drew ?_))); (case side2 => exact HC0_2.out); (case side3 => repeat (first | exact (Kd.C_below HR1_2.out HB.out) | (with_reducible refine Kd.C_alloc ?_ _) | (with_reducible refine Kd.C_drewN ?_ _) | (with_reducible refine Kd.C_drew ?_))); (case side4 => exact HC1_2.out); rintro e w20 ⟨rfl, hb⟩; refine ⟨_, rfl, ?_⟩; replace BK316 := zk BK316 hb; replace BK317 := zk BK317 hb; replace HB := zt w hb; (try clear hb); (try clear hb2); (try clear hk); (try clear hi)))
    go_ret
    exact ⟨ze _, zb _⟩
   ·replace c8 := Bool.eq_false_iff.mpr c8
    subst c8
    rw [if_neg (show ¬ (false = true) by decide)] at H
    obtain rfl := Option.some.inj H
    go_enter Try.func8, Try.ntmps8
    go_wp2_with (first | ((with_reducible refine gate_dst (N := 2) rfl ?_); refine zbx 2 #[.slice A0_0 l0_0.length c0_0, .slice A0_1 l0_1.length c0_1, .slice A0_2 l0_2.length c0_2] 33 ?_; intro gb316 hg w21 hbox hb; have BK316 := Aside0.mk (hbox); have GW316 := zs w hg; have GE316 := GW316; replace HB := zt w hb; clear hb hbox hg) | ((with_reducible refine gate_dst (N := 3) rfl ?_); refine zbx 3 #[.slice A1_0 l1_0.length c1_0, .slice A1_1 l1_1.length c1_1, .slice A1_2 l1_2.length c1_2] 33 ?_; intro gb317 hg w22 hbox hb; have BK317 := Aside0.mk (hbox); have GW317 := zs w hg; have GE317 := GW317; have NB316_317 := zlt BK316 hg; have NB317_316 := zgt (zlt BK316 hg); replace BK316 := zk BK316 hb; replace HB := zt w hb; clear hb hbox hg; have hnb23 := NB316_317.out; have hnc23 := NB317_316.out; have hcz24_0 := zc0 BK316; have hcz24_1 := zc1 BK316; have hcz24_2 := zc2 BK316; have hfz24_0 := blk_frozen BK316.out 0; have hfz24_1 := blk_frozen BK316.out 1; have hfz24_2 := blk_frozen BK316.out 2; have hcz25_0 := zc0 BK317; have hcz25_1 := zc1 BK317; have hcz25_2 := zc2 BK317; have hfz25_0 := blk_frozen BK317.out 0; have hfz25_1 := blk_frozen BK317.out 1; have hfz25_2 := blk_frozen BK317.out 2) | ((with_reducible refine gate_callee (f := 26) rfl ?_); refine zc (some 9) Try.func26 #[.slice A0_0 l0_0.length c0_0, .slice A1_0 l1_0.length c1_0] ?_; (with_reducible refine (laws_eqSectionS.calls k _ _ l0_0 _ _ l1_0 true _ ?side1 ?side2 ?side3 ?side4 A3.out).mono ?_); (case side1 => repeat (first | exact (Kd.C_below HR0_0.out HB.out) | (with_reducible refine Kd.C_alloc ?_ _) | (with_reducible refine Kd.C_drewN ?_ _) | (with_reducible refine Kd.C_drew ?_))); (case side2 => exact HC0_0.out); (case side3 => repeat (first | exact (Kd.C_below HR1_0.out HB.out) | (with_reducible refine Kd.C_alloc ?_ _) | (with_reducible refine Kd.C_drewN ?_ _) | (with_reducible refine Kd.C_drew ?_))); (case side4 => exact HC1_0.out); rintro e w26 ⟨rfl, hb⟩; refine ⟨_, rfl, ?_⟩; replace BK316 := zk BK316 hb; replace BK317 := zk BK317 hb; replace HB := zt w hb; (try clear hb); (try clear hb2); (try clear hk); (try clear hi); have hcz27_0 := zc0 BK316; have hcz27_1 := zc1 BK316; have hcz27_2 := zc2 BK316; have hfz27_0 := blk_frozen BK316.out 0; have hfz27_1 := blk_frozen BK316.out 1; have hfz27_2 := blk_frozen BK316.out 2; have hcz28_0 := zc0 BK317; have hcz28_1 := zc1 BK317; have hcz28_2 := zc2 BK317; have hfz28_0 := blk_frozen BK317.out 0; have hfz28_1 := blk_frozen BK317.out 1; have hfz28_2 := blk_frozen BK317.out 2) | ((with_reducible refine gate_callee (f := 27) rfl ?_); refine zc (some 15) Try.func27 #[.slice A0_1 l0_1.length c0_1, .slice A1_1 l1_1.length c1_1] ?_; (with_reducible refine (laws_eqOSymS.calls k _ _ l0_1 _ _ l1_1 true _ ?side1 ?side2 ?side3 ?side4 A5.out).mono ?_); (case side1 => repeat (first | exact (Kd.C_below HR0_1.out HB.out) | (with_reducible refine Kd.C_alloc ?_ _) | (with_reducible refine Kd.C_drewN ?_ _) | (with_reducible refine Kd.C_drew ?_))); (case side2 => exact HC0_1.out); (case side3 => repeat (first | exact (Kd.C_below HR1_1.out HB.out) | (with_reducible refine Kd.C_alloc ?_ _) | (with_reducible refine Kd.C_drewN ?_ _) | (with_reducible refine Kd.C_drew ?_))); (case side4 => exact HC1_1.out); rintro e w29 ⟨rfl, hb⟩; refine ⟨_, rfl, ?_⟩; replace BK316 := zk BK316 hb; replace BK317 := zk BK317 hb; replace HB := zt w hb; (try clear hb); (try clear hb2); (try clear hk); (try clear hi); have hcz30_0 := zc0 BK316; have hcz30_1 := zc1 BK316; have hcz30_2 := zc2 BK316; have hfz30_0 := blk_frozen BK316.out 0; have hfz30_1 := blk_frozen BK316.out 1; have hfz30_2 := blk_frozen BK316.out 2; have hcz31_0 := zc0 BK317; have hcz31_1 := zc1 BK317; have hcz31_2 := zc2 BK317; have hfz31_0 := blk_frozen BK317.out 0; have hfz31_1 := blk_frozen BK317.out 1; have hfz31_2 := blk_frozen BK317.out 2) | ((with_reducible refine gate_callee (f := 28) rfl ?_); refine zc (some 21) Try.func28 #[.slice A0_2 l0_2.length c0_2, .slice A1_2 l1_2.length c1_2] ?_; (with_reducible refine (laws_eqENodeSS.calls k _ _ l0_2 _ _ l1_2 false _ ?side1 ?side2 ?side3 ?side4 A7.out).mono ?_); (case side1 => repeat (first | exact (Kd.C_below HR0_2.out HB.out) | (with_reducible refine Kd.C_alloc ?_ _) | (with_reducible refine Kd.C_drewN ?_ _) | (with_reducible refine Kd.C_drew ?_))); (case side2 => exact HC0_2.out); (case side3 => repeat (first | exact (Kd.C_below HR1_2.out HB.out) | (with_reducible refine Kd.C_alloc ?_ _) | (with_reducible refine Kd.C_drewN ?_ _) | (with_reducible refine Kd.C_drew ?_))); (case side4 => exact HC1_2.out); rintro e w32 ⟨rfl, hb⟩; refine ⟨_, rfl, ?_⟩; replace BK316 := zk BK316 hb; replace BK317 := zk BK317 hb; replace HB := zt w hb; (try clear hb); (try clear hb2); (try clear hk); (try clear hi)))
    go_ret
    exact ⟨ze _, zb _⟩
  ·replace c6 := Bool.eq_false_iff.mpr c6
   subst c6
   rw [if_neg (show ¬ (false = true) by decide)] at H
   obtain rfl := Option.some.inj H
   go_enter Try.func8, Try.ntmps8
   go_wp2_with (first | ((with_reducible refine gate_dst (N := 2) rfl ?_); refine zbx 2 #[.slice A0_0 l0_0.length c0_0, .slice A0_1 l0_1.length c0_1, .slice A0_2 l0_2.length c0_2] 33 ?_; intro gb316 hg w33 hbox hb; have BK316 := Aside0.mk (hbox); have GW316 := zs w hg; have GE316 := GW316; replace HB := zt w hb; clear hb hbox hg) | ((with_reducible refine gate_dst (N := 3) rfl ?_); refine zbx 3 #[.slice A1_0 l1_0.length c1_0, .slice A1_1 l1_1.length c1_1, .slice A1_2 l1_2.length c1_2] 33 ?_; intro gb317 hg w34 hbox hb; have BK317 := Aside0.mk (hbox); have GW317 := zs w hg; have GE317 := GW317; have NB316_317 := zlt BK316 hg; have NB317_316 := zgt (zlt BK316 hg); replace BK316 := zk BK316 hb; replace HB := zt w hb; clear hb hbox hg; have hnb35 := NB316_317.out; have hnc35 := NB317_316.out; have hcz36_0 := zc0 BK316; have hcz36_1 := zc1 BK316; have hcz36_2 := zc2 BK316; have hfz36_0 := blk_frozen BK316.out 0; have hfz36_1 := blk_frozen BK316.out 1; have hfz36_2 := blk_frozen BK316.out 2; have hcz37_0 := zc0 BK317; have hcz37_1 := zc1 BK317; have hcz37_2 := zc2 BK317; have hfz37_0 := blk_frozen BK317.out 0; have hfz37_1 := blk_frozen BK317.out 1; have hfz37_2 := blk_frozen BK317.out 2) | ((with_reducible refine gate_callee (f := 26) rfl ?_); refine zc (some 9) Try.func26 #[.slice A0_0 l0_0.length c0_0, .slice A1_0 l1_0.length c1_0] ?_; (with_reducible refine (laws_eqSectionS.calls k _ _ l0_0 _ _ l1_0 true _ ?side1 ?side2 ?side3 ?side4 A3.out).mono ?_); (case side1 => repeat (first | exact (Kd.C_below HR0_0.out HB.out) | (with_reducible refine Kd.C_alloc ?_ _) | (with_reducible refine Kd.C_drewN ?_ _) | (with_reducible refine Kd.C_drew ?_))); (case side2 => exact HC0_0.out); (case side3 => repeat (first | exact (Kd.C_below HR1_0.out HB.out) | (with_reducible refine Kd.C_alloc ?_ _) | (with_reducible refine Kd.C_drewN ?_ _) | (with_reducible refine Kd.C_drew ?_))); (case side4 => exact HC1_0.out); rintro e w38 ⟨rfl, hb⟩; refine ⟨_, rfl, ?_⟩; replace BK316 := zk BK316 hb; replace BK317 := zk BK317 hb; replace HB := zt w hb; (try clear hb); (try clear hb2); (try clear hk); (try clear hi); have hcz39_0 := zc0 BK316; have hcz39_1 := zc1 BK316; have hcz39_2 := zc2 BK316; have hfz39_0 := blk_frozen BK316.out 0; have hfz39_1 := blk_frozen BK316.out 1; have hfz39_2 := blk_frozen BK316.out 2; have hcz40_0 := zc0 BK317; have hcz40_1 := zc1 BK317; have hcz40_2 := zc2 BK317; have hfz40_0 := blk_frozen BK317.out 0; have hfz40_1 := blk_frozen BK317.out 1; have hfz40_2 := blk_frozen BK317.out 2) | ((with_reducible refine gate_callee (f := 27) rfl ?_); refine zc (some 15) Try.func27 #[.slice A0_1 l0_1.length c0_1, .slice A1_1 l1_1.length c1_1] ?_; (with_reducible refine (laws_eqOSymS.calls k _ _ l0_1 _ _ l1_1 false _ ?side1 ?side2 ?side3 ?side4 A5.out).mono ?_); (case side1 => repeat (first | exact (Kd.C_below HR0_1.out HB.out) | (with_reducible refine Kd.C_alloc ?_ _) | (with_reducible refine Kd.C_drewN ?_ _) | (with_reducible refine Kd.C_drew ?_))); (case side2 => exact HC0_1.out); (case side3 => repeat (first | exact (Kd.C_below HR1_1.out HB.out) | (with_reducible refine Kd.C_alloc ?_ _) | (with_reducible refine Kd.C_drewN ?_ _) | (with_reducible refine Kd.C_drew ?_))); (case side4 => exact HC1_1.out); rintro e w41 ⟨rfl, hb⟩; refine ⟨_, rfl, ?_⟩; replace BK316 := zk BK316 hb; replace BK317 := zk BK317 hb; replace HB := zt w hb; (try clear hb); (try clear hb2); (try clear hk); (try clear hi)))
   go_ret
   exact ⟨ze _, zb _⟩
 ·replace c4 := Bool.eq_false_iff.mpr c4
  subst c4
  rw [if_neg (show ¬ (false = true) by decide)] at H
  obtain rfl := Option.some.inj H
  go_enter Try.func8, Try.ntmps8
  go_wp2_with (first | ((with_reducible refine gate_dst (N := 2) rfl ?_); refine zbx 2 #[.slice A0_0 l0_0.length c0_0, .slice A0_1 l0_1.length c0_1, .slice A0_2 l0_2.length c0_2] 33 ?_; intro gb316 hg w42 hbox hb; have BK316 := Aside0.mk (hbox); have GW316 := zs w hg; have GE316 := GW316; replace HB := zt w hb; clear hb hbox hg) | ((with_reducible refine gate_dst (N := 3) rfl ?_); refine zbx 3 #[.slice A1_0 l1_0.length c1_0, .slice A1_1 l1_1.length c1_1, .slice A1_2 l1_2.length c1_2] 33 ?_; intro gb317 hg w43 hbox hb; have BK317 := Aside0.mk (hbox); have GW317 := zs w hg; have GE317 := GW317; have NB316_317 := zlt BK316 hg; have NB317_316 := zgt (zlt BK316 hg); replace BK316 := zk BK316 hb; replace HB := zt w hb; clear hb hbox hg; have hnb44 := NB316_317.out; have hnc44 := NB317_316.out; have hcz45_0 := zc0 BK316; have hcz45_1 := zc1 BK316; have hcz45_2 := zc2 BK316; have hfz45_0 := blk_frozen BK316.out 0; have hfz45_1 := blk_frozen BK316.out 1; have hfz45_2 := blk_frozen BK316.out 2; have hcz46_0 := zc0 BK317; have hcz46_1 := zc1 BK317; have hcz46_2 := zc2 BK317; have hfz46_0 := blk_frozen BK317.out 0; have hfz46_1 := blk_frozen BK317.out 1; have hfz46_2 := blk_frozen BK317.out 2) | ((with_reducible refine gate_callee (f := 26) rfl ?_); refine zc (some 9) Try.func26 #[.slice A0_0 l0_0.length c0_0, .slice A1_0 l1_0.length c1_0] ?_; (with_reducible refine (laws_eqSectionS.calls k _ _ l0_0 _ _ l1_0 false _ ?side1 ?side2 ?side3 ?side4 A3.out).mono ?_); (case side1 => repeat (first | exact (Kd.C_below HR0_0.out HB.out) | (with_reducible refine Kd.C_alloc ?_ _) | (with_reducible refine Kd.C_drewN ?_ _) | (with_reducible refine Kd.C_drew ?_))); (case side2 => exact HC0_0.out); (case side3 => repeat (first | exact (Kd.C_below HR1_0.out HB.out) | (with_reducible refine Kd.C_alloc ?_ _) | (with_reducible refine Kd.C_drewN ?_ _) | (with_reducible refine Kd.C_drew ?_))); (case side4 => exact HC1_0.out); rintro e w47 ⟨rfl, hb⟩; refine ⟨_, rfl, ?_⟩; replace BK316 := zk BK316 hb; replace BK317 := zk BK317 hb; replace HB := zt w hb; (try clear hb); (try clear hb2); (try clear hk); (try clear hi)))
  go_ret
  exact ⟨ze _, zb _⟩

/-! ### laws_FnExactObjectOk: function 3 -/
def laws_FnExactObjectOk.f (k : Nat) (l0_0 : List (S62)) (l0_1 : List (S64)) (l0_2 : List (List (S90))) : Option (Bool) := (laws_szObject.f k l0_0 l0_1 l0_2 1048576).bind fun t322 => (if t322 < 0 then (some true) else ((laws_toObject.f k l0_0 l0_1 l0_2).bind fun bt323 => ((spec_ObjectOk.f k bt323.1 bt323.2.1 bt323.2.2).bind fun t332 => ((laws_toObject.f k l0_0 l0_1 l0_2).bind fun bt333 => ((impl_ObjectOk.f k bt333.1 bt333.2.1 bt333.2.2).bind fun t343 => (if (t343 != t332) = true then (some false) else ((laws_toObject.f k l0_0 l0_1 l0_2).bind fun bt344 => ((laws_eqObject.f k bt333.1 bt333.2.1 bt333.2.2 bt344.1 bt344.2.1 bt344.2.2).bind fun t353 => (if t353 = true then (some true) else (some false))))))))))
theorem laws_FnExactObjectOk.mono : ∀ a0 a1 a2 k, LeO (laws_FnExactObjectOk.f k a0 a1 a2) (laws_FnExactObjectOk.f (k + 1) a0 a1 a2) := by
  intro a0 a1 a2 k
  unfold laws_FnExactObjectOk.f
  repeat' first
      | (with_reducible exact impl_ObjectOk.mono _ _ _ _)
      | (with_reducible exact laws_eqObject.mono _ _ _ _ _ _ _)
      | (with_reducible exact laws_szObject.mono _ _ _ _ _)
      | (with_reducible exact laws_toObject.mono _ _ _ _)
      | (with_reducible exact spec_ObjectOk.mono _ _ _ _)
      | (with_reducible exact LeO.refl _)
      | (with_reducible exact LeO.none _)
      | (with_reducible refine LeO.ite ?_ ?_)
      | (with_reducible refine LeO.bind ?_ (fun _ => ?_))
      | exact impl_ObjectOk.mono _ _ _ _
      | exact laws_eqObject.mono _ _ _ _ _ _ _
      | exact laws_szObject.mono _ _ _ _ _
      | exact laws_toObject.mono _ _ _ _
      | exact spec_ObjectOk.mono _ _ _ _
      | exact LeO.none _
      | refine LeO.ite ?_ ?_
      | refine LeO.bind ?_ (fun _ => ?_)
set_option maxHeartbeats 8000000 in
set_option maxRecDepth 100000 in
theorem laws_FnExactObjectOk.calls (k : Nat) (A0_0 : Option Addr) (c0_0 : Nat) (l0_0 : List (S62)) (A0_1 : Option Addr) (c0_1 : Nat) (l0_1 : List (S64)) (A0_2 : Option Addr) (c0_2 : Nat) (l0_2 : List (List (S90))) (r : Bool) (w : World) (hr0_0 : Kd.C k62 w A0_0 l0_0.length l0_0) (hc0_0 : l0_0.length ≤ c0_0) (hr0_1 : Kd.C k64 w A0_1 l0_1.length l0_1) (hc0_1 : l0_1.length ≤ c0_1) (hr0_2 : Kd.C (Kd.slice 90 k90) w A0_2 l0_2.length l0_2) (hc0_2 : l0_2.length ≤ c0_2) (h : laws_FnExactObjectOk.f k l0_0 l0_1 l0_2 = some r) :
 Calls Try.prog 3 #[.agg #[.slice A0_0 l0_0.length c0_0, .slice A0_1 l0_1.length c0_1, .slice A0_2 l0_2.length c0_2]] w fun e w' => e = .returned (.bool r) ∧ Below w.heap.size w w' := by
 have hu26 := Try.underlying26
 have hu33 := Try.underlying33
 have HR0_0 := Aside0.mk hr0_0
 have HC0_0 := Aside0.mk hc0_0
 clear hr0_0 hc0_0
 have HR0_1 := Aside0.mk hr0_1
 have HC0_1 := Aside0.mk hc0_1
 clear hr0_1 hc0_1
 have HR0_2 := Aside0.mk hr0_2
 have HC0_2 := Aside0.mk hc0_2
 clear hr0_2 hc0_2
 have HB := Aside0.mk (Below.refl w.heap.size w)
 have H : ((laws_szObject.f k l0_0 l0_1 l0_2 1048576).bind fun t322 => (if t322 < 0 then (some true) else ((laws_toObject.f k l0_0 l0_1 l0_2).bind fun bt323 => ((spec_ObjectOk.f k bt323.1 bt323.2.1 bt323.2.2).bind fun t332 => ((laws_toObject.f k l0_0 l0_1 l0_2).bind fun bt333 => ((impl_ObjectOk.f k bt333.1 bt333.2.1 bt333.2.2).bind fun t343 => (if (t343 != t332) = true then (some false) else ((laws_toObject.f k l0_0 l0_1 l0_2).bind fun bt344 => ((laws_eqObject.f k bt333.1 bt333.2.1 bt333.2.2 bt344.1 bt344.2.1 bt344.2.2).bind fun t353 => (if t353 = true then (some true) else (some false))))))))))) = some r := h
 clear h
 obtain ⟨t322, A20, H⟩ := Option.bind_eq_some_iff.mp H
 have A2 := Aside0.mk A20
 clear A20
 by_cases c3 : t322 < 0
 ·rw [if_pos c3] at H
  have c3b0 : decide (t322 < 0) = true := decide_eq_true c3
  clear c3
  obtain rfl := Option.some.inj H
  go_enter Try.func3, Try.ntmps3
  go_wp2_with (first | ((with_reducible refine gate_dst (N := 1) rfl ?_); refine zbx 1 #[.slice A0_0 l0_0.length c0_0, .slice A0_1 l0_1.length c0_1, .slice A0_2 l0_2.length c0_2] 26 ?_; intro gb321 hg w4 hbox hb; have BK321 := Aside0.mk (hbox); have GW321 := zs w hg; have GE321 := GW321; replace HB := zt w hb; clear hb hbox hg; have hcz5_0 := zc0 BK321; have hcz5_1 := zc1 BK321; have hcz5_2 := zc2 BK321; have hfz5_0 := blk_frozen BK321.out 0; have hfz5_1 := blk_frozen BK321.out 1; have hfz5_2 := blk_frozen BK321.out 2) | ((with_reducible refine gate_callee (f := 4) rfl ?_); refine zc (some 9) Try.func4 #[.agg #[.slice A0_0 l0_0.length c0_0, .slice A0_1 l0_1.length c0_1, .slice A0_2 l0_2.length c0_2], .int .i64 1048576] ?_; (with_reducible refine (laws_szObject.calls k _ _ l0_0 _ _ l0_1 _ _ l0_2 1048576 t322 _ ?side1 ?side2 ?side3 ?side4 ?side5 ?side6 A2.out).mono ?_); (case side1 => repeat (first | exact (Kd.C_below HR0_0.out HB.out) | (with_reducible refine Kd.C_alloc ?_ _) | (with_reducible refine Kd.C_drewN ?_ _) | (with_reducible refine Kd.C_drew ?_))); (case side2 => exact HC0_0.out); (case side3 => repeat (first | exact (Kd.C_below HR0_1.out HB.out) | (with_reducible refine Kd.C_alloc ?_ _) | (with_reducible refine Kd.C_drewN ?_ _) | (with_reducible refine Kd.C_drew ?_))); (case side4 => exact HC0_1.out); (case side5 => repeat (first | exact (Kd.C_below HR0_2.out HB.out) | (with_reducible refine Kd.C_alloc ?_ _) | (with_reducible refine Kd.C_drewN ?_ _) | (with_reducible refine Kd.C_drew ?_))); (case side6 => exact HC0_2.out); rintro e w6 ⟨rfl, hb⟩; refine ⟨_, rfl, ?_⟩; replace BK321 := zk BK321 hb; replace HB := zt w hb; (try clear hb); (try clear hb2); (try clear hk); (try clear hi)))
  go_ret
  exact ⟨ze _, zb _⟩
 ·rw [if_neg c3] at H
  have c3b0 : decide (t322 < 0) = false := decide_eq_false c3
  clear c3
  replace H := Option.bind_eq_some_iff.mp H
  obtain ⟨⟨t323, t326, t329⟩, A70, H⟩ := H
  replace H : ((spec_ObjectOk.f k t323 t326 t329).bind fun t332 => ((laws_toObject.f k l0_0 l0_1 l0_2).bind fun bt333 => ((impl_ObjectOk.f k bt333.1 bt333.2.1 bt333.2.2).bind fun t343 => (if (t343 != t332) = true then (some false) else ((laws_toObject.f k l0_0 l0_1 l0_2).bind fun bt344 => ((laws_eqObject.f k bt333.1 bt333.2.1 bt333.2.2 bt344.1 bt344.2.1 bt344.2.2).bind fun t353 => (if t353 = true then (some true) else (some false)))))))) = some r := H
  have A7 := Aside0.mk A70
  clear A70
  obtain ⟨t332, A80, H⟩ := Option.bind_eq_some_iff.mp H
  have A8 := Aside0.mk A80
  clear A80
  replace H := Option.bind_eq_some_iff.mp H
  obtain ⟨⟨t333, t336, t339⟩, A90, H⟩ := H
  replace H : ((impl_ObjectOk.f k t333 t336 t339).bind fun t343 => (if (t343 != t332) = true then (some false) else ((laws_toObject.f k l0_0 l0_1 l0_2).bind fun bt344 => ((laws_eqObject.f k t333 t336 t339 bt344.1 bt344.2.1 bt344.2.2).bind fun t353 => (if t353 = true then (some true) else (some false)))))) = some r := H
  have A9 := Aside0.mk A90
  clear A90
  obtain ⟨t343, A100, H⟩ := Option.bind_eq_some_iff.mp H
  have A10 := Aside0.mk A100
  clear A100
  by_cases c11 : (t343 != t332) = true
  ·rw [if_pos c11] at H
   have c11b0 : (t343 != t332) = true := c11
   (try (have c11b1 : decide (t343 = t332) = false := by simpa using c11))
   (try (have c11b2 : (t343 == t332) = false := by simpa using c11))
   (try (have c11b3 : ¬ (t343 = t332) := by simpa using c11))
   clear c11
   obtain rfl := Option.some.inj H
   go_enter Try.func3, Try.ntmps3
   go_wp2_with (first | ((with_reducible refine gate_dst (N := 1) rfl ?_); refine zbx 1 #[.slice A0_0 l0_0.length c0_0, .slice A0_1 l0_1.length c0_1, .slice A0_2 l0_2.length c0_2] 26 ?_; intro gb321 hg w12 hbox hb; have BK321 := Aside0.mk (hbox); have GW321 := zs w hg; have GE321 := GW321; replace HB := zt w hb; clear hb hbox hg; have hcz13_0 := zc0 BK321; have hcz13_1 := zc1 BK321; have hcz13_2 := zc2 BK321; have hfz13_0 := blk_frozen BK321.out 0; have hfz13_1 := blk_frozen BK321.out 1; have hfz13_2 := blk_frozen BK321.out 2) | ((with_reducible refine gate_callee (f := 4) rfl ?_); refine zc (some 9) Try.func4 #[.agg #[.slice A0_0 l0_0.length c0_0, .slice A0_1 l0_1.length c0_1, .slice A0_2 l0_2.length c0_2], .int .i64 1048576] ?_; (with_reducible refine (laws_szObject.calls k _ _ l0_0 _ _ l0_1 _ _ l0_2 1048576 t322 _ ?side1 ?side2 ?side3 ?side4 ?side5 ?side6 A2.out).mono ?_); (case side1 => repeat (first | exact (Kd.C_below HR0_0.out HB.out) | (with_reducible refine Kd.C_alloc ?_ _) | (with_reducible refine Kd.C_drewN ?_ _) | (with_reducible refine Kd.C_drew ?_))); (case side2 => exact HC0_0.out); (case side3 => repeat (first | exact (Kd.C_below HR0_1.out HB.out) | (with_reducible refine Kd.C_alloc ?_ _) | (with_reducible refine Kd.C_drewN ?_ _) | (with_reducible refine Kd.C_drew ?_))); (case side4 => exact HC0_1.out); (case side5 => repeat (first | exact (Kd.C_below HR0_2.out HB.out) | (with_reducible refine Kd.C_alloc ?_ _) | (with_reducible refine Kd.C_drewN ?_ _) | (with_reducible refine Kd.C_drew ?_))); (case side6 => exact HC0_2.out); rintro e w14 ⟨rfl, hb⟩; refine ⟨_, rfl, ?_⟩; replace BK321 := zk BK321 hb; replace HB := zt w hb; (try clear hb); (try clear hb2); (try clear hk); (try clear hi); have hcz15_0 := zc0 BK321; have hcz15_1 := zc1 BK321; have hcz15_2 := zc2 BK321; have hfz15_0 := blk_frozen BK321.out 0; have hfz15_1 := blk_frozen BK321.out 1; have hfz15_2 := blk_frozen BK321.out 2) | ((with_reducible refine gate_callee (f := 6) rfl ?_); refine zc (some 13) Try.func6 #[.agg #[.slice A0_0 l0_0.length c0_0, .slice A0_1 l0_1.length c0_1, .slice A0_2 l0_2.length c0_2]] ?_; (with_reducible refine (laws_toObject.calls k _ _ l0_0 _ _ l0_1 _ _ l0_2 t323 t326 t329 _ ?side1 ?side2 ?side3 ?side4 ?side5 ?side6 A7.out).mono ?_); (case side1 => repeat (first | exact (Kd.C_below HR0_0.out HB.out) | (with_reducible refine Kd.C_alloc ?_ _) | (with_reducible refine Kd.C_drewN ?_ _) | (with_reducible refine Kd.C_drew ?_))); (case side2 => exact HC0_0.out); (case side3 => repeat (first | exact (Kd.C_below HR0_1.out HB.out) | (with_reducible refine Kd.C_alloc ?_ _) | (with_reducible refine Kd.C_drewN ?_ _) | (with_reducible refine Kd.C_drew ?_))); (case side4 => exact HC0_1.out); (case side5 => repeat (first | exact (Kd.C_below HR0_2.out HB.out) | (with_reducible refine Kd.C_alloc ?_ _) | (with_reducible refine Kd.C_drewN ?_ _) | (with_reducible refine Kd.C_drew ?_))); (case side6 => exact HC0_2.out); rintro e w16 ⟨v324, v327, v330, rfl, ho0, ho1, ho2, hb⟩; refine ⟨_, rfl, ?_⟩; have HO325 := Aside0.mk (Kd.R_lower ho0 (below_size (zb _))); have HO328 := Aside0.mk (Kd.R_lower ho1 (below_size (zb _))); have HO331 := Aside0.mk (Kd.S_lower ho2 (below_size (zb _))); replace BK321 := zk BK321 hb; replace HB := zt w hb; (try clear hb); (try clear hb2); (try clear hk); (try clear hi); (try clear ho0); (try clear ho1); (try clear ho2); obtain ⟨Ao17, co17, eo17⟩ := Kd.R_slice HO325.out; subst eo17; obtain ⟨Ao18, co18, eo18⟩ := Kd.R_slice HO328.out; subst eo18; obtain ⟨Ao19, co19, eo19⟩ := Kd.S_slice HO331.out; subst eo19) | ((with_reducible refine gate_callee (f := 5) rfl ?_); refine zc (some 14) Try.func5 #[.agg #[.slice Ao17 t323.length co17, .slice Ao18 t326.length co18, .slice Ao19 t329.length co19]] ?_; (with_reducible refine (spec_ObjectOk.calls k _ _ t323 _ _ t326 _ _ t329 t332 _ ?side1 ?side2 ?side3 ?side4 ?side5 ?side6 A8.out).mono ?_); (case side1 => repeat (first | exact (Kd.R_reads' HO325.out).2.2 | (with_reducible refine Kd.C_alloc ?_ _) | (with_reducible refine Kd.C_drewN ?_ _) | (with_reducible refine Kd.C_drew ?_))); (case side2 => exact (Kd.R_reads' HO325.out).2.1); (case side3 => repeat (first | exact (Kd.R_reads' HO328.out).2.2 | (with_reducible refine Kd.C_alloc ?_ _) | (with_reducible refine Kd.C_drewN ?_ _) | (with_reducible refine Kd.C_drew ?_))); (case side4 => exact (Kd.R_reads' HO328.out).2.1); (case side5 => repeat (first | exact (Kd.S_reads' HO331.out).2.2 | (with_reducible refine Kd.C_alloc ?_ _) | (with_reducible refine Kd.C_drewN ?_ _) | (with_reducible refine Kd.C_drew ?_))); (case side6 => exact (Kd.S_reads' HO331.out).2.1); rintro e w20 ⟨rfl, hb⟩; refine ⟨_, rfl, ?_⟩; replace HO325 := Aside0.mk (Kd.R_below (by (with_reducible repeat (first | apply Kd.R_alloc | apply Kd.R_drewN | apply Kd.R_drew)); exact HO325.out) hb); replace HO328 := Aside0.mk (Kd.R_below (by (with_reducible repeat (first | apply Kd.R_alloc | apply Kd.R_drewN | apply Kd.R_drew)); exact HO328.out) hb); replace HO331 := Aside0.mk (Kd.S_below (by (with_reducible repeat (first | apply Kd.S_alloc | apply Kd.S_drewN | apply Kd.S_drew)); exact HO331.out) hb); replace BK321 := zk BK321 hb; replace HB := zt w hb; (try clear hb); (try clear hb2); (try clear hk); (try clear hi); have hcz21_0 := zc0 BK321; have hcz21_1 := zc1 BK321; have hcz21_2 := zc2 BK321; have hfz21_0 := blk_frozen BK321.out 0; have hfz21_1 := blk_frozen BK321.out 1; have hfz21_2 := blk_frozen BK321.out 2) | ((with_reducible refine gate_callee (f := 6) rfl ?_); refine zc (some 16) Try.func6 #[.agg #[.slice A0_0 l0_0.length c0_0, .slice A0_1 l0_1.length c0_1, .slice A0_2 l0_2.length c0_2]] ?_; (with_reducible refine (laws_toObject.calls k _ _ l0_0 _ _ l0_1 _ _ l0_2 t333 t336 t339 _ ?side1 ?side2 ?side3 ?side4 ?side5 ?side6 A9.out).mono ?_); (case side1 => repeat (first | exact (Kd.C_below HR0_0.out HB.out) | (with_reducible refine Kd.C_alloc ?_ _) | (with_reducible refine Kd.C_drewN ?_ _) | (with_reducible refine Kd.C_drew ?_))); (case side2 => exact HC0_0.out); (case side3 => repeat (first | exact (Kd.C_below HR0_1.out HB.out) | (with_reducible refine Kd.C_alloc ?_ _) | (with_reducible refine Kd.C_drewN ?_ _) | (with_reducible refine Kd.C_drew ?_))); (case side4 => exact HC0_1.out); (case side5 => repeat (first | exact (Kd.C_below HR0_2.out HB.out) | (with_reducible refine Kd.C_alloc ?_ _) | (with_reducible refine Kd.C_drewN ?_ _) | (with_reducible refine Kd.C_drew ?_))); (case side6 => exact HC0_2.out); rintro e w22 ⟨v334, v337, v340, rfl, ho0, ho1, ho2, hb⟩; refine ⟨_, rfl, ?_⟩; have HO335 := Aside0.mk (Kd.R_lower (Kd.R_new' ho0 (Kd.R_lt (by (with_reducible repeat (first | apply Kd.R_alloc | apply Kd.R_drewN | apply Kd.R_drew)); exact HO325.out))) (below_size (zb _))); have HO338 := Aside0.mk (Kd.R_lower (Kd.R_new' ho1 (Kd.R_lt (by (with_reducible repeat (first | apply Kd.R_alloc | apply Kd.R_drewN | apply Kd.R_drew)); exact HO328.out))) (below_size (zb _))); have HO341 := Aside0.mk (Kd.S_lower (Kd.S_new' ho2 (Kd.S_lt (by (with_reducible repeat (first | apply Kd.S_alloc | apply Kd.S_drewN | apply Kd.S_drew)); exact HO331.out))) (below_size (zb _))); replace HO325 := Aside0.mk (Kd.R_elder' (by (with_reducible repeat (first | apply Kd.R_alloc | apply Kd.R_drewN | apply Kd.R_drew)); exact HO325.out) (Kd.R_base ho0) hb); replace HO328 := Aside0.mk (Kd.R_elder' (by (with_reducible repeat (first | apply Kd.R_alloc | apply Kd.R_drewN | apply Kd.R_drew)); exact HO328.out) (Kd.R_base ho1) hb); replace HO331 := Aside0.mk (Kd.S_elder' (by (with_reducible repeat (first | apply Kd.S_alloc | apply Kd.S_drewN | apply Kd.S_drew)); exact HO331.out) (Kd.S_base ho2) hb); replace BK321 := zk BK321 hb; replace HB := zt w hb; (try clear hb); (try clear hb2); (try clear hk); (try clear hi); (try clear ho0); (try clear ho1); (try clear ho2)) | ((with_reducible refine gate_dst (N := 5) rfl ?_); refine zbx 5 #[.slice none 0 0, .slice none 0 0, .slice none 0 0] 33 ?_; intro gb342 hg w23 hbox hb; have BK342 := Aside0.mk (hbox); have GW342 := zs w hg; have GE342 := GW342; have NB321_342 := zlt BK321 hg; have NB342_321 := zgt (zlt BK321 hg); replace HO325 := Aside0.mk (Kd.R_below (by (with_reducible repeat (first | apply Kd.R_alloc | apply Kd.R_drewN | apply Kd.R_drew)); exact HO325.out) hb); replace HO328 := Aside0.mk (Kd.R_below (by (with_reducible repeat (first | apply Kd.R_alloc | apply Kd.R_drewN | apply Kd.R_drew)); exact HO328.out) hb); replace HO331 := Aside0.mk (Kd.S_below (by (with_reducible repeat (first | apply Kd.S_alloc | apply Kd.S_drewN | apply Kd.S_drew)); exact HO331.out) hb); replace HO335 := Aside0.mk (Kd.R_below (by (with_reducible repeat (first | apply Kd.R_alloc | apply Kd.R_drewN | apply Kd.R_drew)); exact HO335.out) hb); replace HO338 := Aside0.mk (Kd.R_below (by (with_reducible repeat (first | apply Kd.R_alloc | apply Kd.R_drewN | apply Kd.R_drew)); exact HO338.out) hb); replace HO341 := Aside0.mk (Kd.S_below (by (with_reducible repeat (first | apply Kd.S_alloc | apply Kd.S_drewN | apply Kd.S_drew)); exact HO341.out) hb); replace BK321 := zk BK321 hb; replace HB := zt w hb; clear hb hbox hg; obtain ⟨Ao24, co24, eo24⟩ := Kd.R_slice HO335.out; subst eo24; have hnb25 := NB342_321.out; have hnc25 := NB321_342.out; have hcz26_0 := zc0 BK342; have hcz26_1 := zc1 BK342; have hcz26_2 := zc2 BK342; have hfz26_0 := blk_frozen BK342.out 0; have hfz26_1 := blk_frozen BK342.out 1; have hfz26_2 := blk_frozen BK342.out 2; obtain ⟨Ao27, co27, eo27⟩ := Kd.R_slice HO338.out; subst eo27; obtain ⟨Ao28, co28, eo28⟩ := Kd.S_slice HO341.out; subst eo28) | ((with_reducible refine gate_callee (f := 7) rfl ?_); refine zc (some 18) Try.func7 #[.agg #[.slice Ao24 t333.length co24, .slice Ao27 t336.length co27, .slice Ao28 t339.length co28]] ?_; (with_reducible refine (impl_ObjectOk.calls k _ _ t333 _ _ t336 _ _ t339 t343 _ ?side1 ?side2 ?side3 ?side4 ?side5 ?side6 A10.out).mono ?_); (case side1 => refine (Kd.R_reads' (e := 43) (base := w.heap.size) (ok := fun k_ => (True ∧ some k_ ≠ (.slice Ao17 t323.length co17 : Value).ownBlock)) (n := t333.length) (c := co24) ?_).2.2; exact (by (with_reducible repeat (first | apply Kd.R_alloc | apply Kd.R_drewN | apply Kd.R_drew)); exact (Kd.R_mono (Kd.R_far (p := ⟨gb342, 2, none⟩) (Kd.R_far (p := ⟨gb342, 1, none⟩) (Kd.R_far (p := ⟨gb342, 0, none⟩) (Kd.R_types HO335.out BK342.out (by decide)) (fun _ hk => hk.2) (.slice Ao24 t333.length co24)) (fun _ hk => hk.2) (.slice Ao27 t336.length co27)) (fun _ hk => hk.2) (.slice Ao28 t339.length co28)) (fun _ h_ => h_.1)))); (case side2 => exact (Kd.R_reads' HO335.out).2.1); (case side3 => refine (Kd.R_reads' (e := 45) (base := w.heap.size) (ok := fun k_ => (True ∧ some k_ ≠ (.slice Ao18 t326.length co18 : Value).ownBlock)) (n := t336.length) (c := co27) ?_).2.2; exact (by (with_reducible repeat (first | apply Kd.R_alloc | apply Kd.R_drewN | apply Kd.R_drew)); exact (Kd.R_mono (Kd.R_far (p := ⟨gb342, 2, none⟩) (Kd.R_far (p := ⟨gb342, 1, none⟩) (Kd.R_far (p := ⟨gb342, 0, none⟩) (Kd.R_types HO338.out BK342.out (by decide)) (fun _ hk => hk.2) (.slice Ao24 t333.length co24)) (fun _ hk => hk.2) (.slice Ao27 t336.length co27)) (fun _ hk => hk.2) (.slice Ao28 t339.length co28)) (fun _ h_ => h_.1)))); (case side4 => exact (Kd.R_reads' HO338.out).2.1); (case side5 => refine (Kd.S_reads' (e := 49) (base := w.heap.size) (ok := fun k_ => (True ∧ some k_ ≠ (.slice Ao19 t329.length co19 : Value).ownBlock)) (n := t339.length) (c := co28) ?_).2.2; exact (by (with_reducible repeat (first | apply Kd.S_alloc | apply Kd.S_drewN | apply Kd.S_drew)); exact (Kd.S_mono (Kd.S_far (p := ⟨gb342, 2, none⟩) (Kd.S_far (p := ⟨gb342, 1, none⟩) (Kd.S_far (p := ⟨gb342, 0, none⟩) (Kd.S_types HO341.out BK342.out (by decide)) (fun _ hk => hk.2) (.slice Ao24 t333.length co24)) (fun _ hk => hk.2) (.slice Ao27 t336.length co27)) (fun _ hk => hk.2) (.slice Ao28 t339.length co28)) (fun _ h_ => h_.1)))); (case side6 => exact (Kd.S_reads' HO341.out).2.1); rintro e w29 ⟨rfl, hb⟩; refine ⟨_, rfl, ?_⟩; replace HO325 := Aside0.mk (Kd.R_below (by (with_reducible repeat (first | apply Kd.R_alloc | apply Kd.R_drewN | apply Kd.R_drew)); exact (Kd.R_mono (Kd.R_far (p := ⟨gb342, 2, none⟩) (Kd.R_far (p := ⟨gb342, 1, none⟩) (Kd.R_far (p := ⟨gb342, 0, none⟩) (Kd.R_types HO325.out BK342.out (by decide)) (fun _ hk => hk.2) (.slice Ao24 t333.length co24)) (fun _ hk => hk.2) (.slice Ao27 t336.length co27)) (fun _ hk => hk.2) (.slice Ao28 t339.length co28)) (fun _ h_ => h_.1))) hb); replace HO328 := Aside0.mk (Kd.R_below (by (with_reducible repeat (first | apply Kd.R_alloc | apply Kd.R_drewN | apply Kd.R_drew)); exact (Kd.R_mono (Kd.R_far (p := ⟨gb342, 2, none⟩) (Kd.R_far (p := ⟨gb342, 1, none⟩) (Kd.R_far (p := ⟨gb342, 0, none⟩) (Kd.R_types HO328.out BK342.out (by decide)) (fun _ hk => hk.2) (.slice Ao24 t333.length co24)) (fun _ hk => hk.2) (.slice Ao27 t336.length co27)) (fun _ hk => hk.2) (.slice Ao28 t339.length co28)) (fun _ h_ => h_.1))) hb); replace HO331 := Aside0.mk (Kd.S_below (by (with_reducible repeat (first | apply Kd.S_alloc | apply Kd.S_drewN | apply Kd.S_drew)); exact (Kd.S_mono (Kd.S_far (p := ⟨gb342, 2, none⟩) (Kd.S_far (p := ⟨gb342, 1, none⟩) (Kd.S_far (p := ⟨gb342, 0, none⟩) (Kd.S_types HO331.out BK342.out (by decide)) (fun _ hk => hk.2) (.slice Ao24 t333.length co24)) (fun _ hk => hk.2) (.slice Ao27 t336.length co27)) (fun _ hk => hk.2) (.slice Ao28 t339.length co28)) (fun _ h_ => h_.1))) hb); replace HO335 := Aside0.mk (Kd.R_below (by (with_reducible repeat (first | apply Kd.R_alloc | apply Kd.R_drewN | apply Kd.R_drew)); exact (Kd.R_mono (Kd.R_far (p := ⟨gb342, 2, none⟩) (Kd.R_far (p := ⟨gb342, 1, none⟩) (Kd.R_far (p := ⟨gb342, 0, none⟩) (Kd.R_types HO335.out BK342.out (by decide)) (fun _ hk => hk.2) (.slice Ao24 t333.length co24)) (fun _ hk => hk.2) (.slice Ao27 t336.length co27)) (fun _ hk => hk.2) (.slice Ao28 t339.length co28)) (fun _ h_ => h_.1))) hb); replace HO338 := Aside0.mk (Kd.R_below (by (with_reducible repeat (first | apply Kd.R_alloc | apply Kd.R_drewN | apply Kd.R_drew)); exact (Kd.R_mono (Kd.R_far (p := ⟨gb342, 2, none⟩) (Kd.R_far (p := ⟨gb342, 1, none⟩) (Kd.R_far (p := ⟨gb342, 0, none⟩) (Kd.R_types HO338.out BK342.out (by decide)) (fun _ hk => hk.2) (.slice Ao24 t333.length co24)) (fun _ hk => hk.2) (.slice Ao27 t336.length co27)) (fun _ hk => hk.2) (.slice Ao28 t339.length co28)) (fun _ h_ => h_.1))) hb); replace HO341 := Aside0.mk (Kd.S_below (by (with_reducible repeat (first | apply Kd.S_alloc | apply Kd.S_drewN | apply Kd.S_drew)); exact (Kd.S_mono (Kd.S_far (p := ⟨gb342, 2, none⟩) (Kd.S_far (p := ⟨gb342, 1, none⟩) (Kd.S_far (p := ⟨gb342, 0, none⟩) (Kd.S_types HO341.out BK342.out (by decide)) (fun _ hk => hk.2) (.slice Ao24 t333.length co24)) (fun _ hk => hk.2) (.slice Ao27 t336.length co27)) (fun _ hk => hk.2) (.slice Ao28 t339.length co28)) (fun _ h_ => h_.1))) hb); replace BK321 := zkw (g := gb321) (o := .cells #[.slice A0_0 l0_0.length c0_0, .slice A0_1 l0_1.length c0_1, .slice A0_2 l0_2.length c0_2] 26 (0, 0)) hb; replace BK342 := zkw (g := gb342) (o := .cells #[.slice Ao24 t333.length co24, .slice Ao27 t336.length co27, .slice Ao28 t339.length co28] 33 (0, 0)) hb; replace HB := zt w hb; (try clear hb); (try clear hb2); (try clear hk); (try clear hi)))
   go_ret
   exact ⟨ze _, zb _⟩
  ·rw [if_neg c11] at H
   have c11b0 : (t343 != t332) = false := by simpa using c11
   (try (have c11b1 : decide (t343 = t332) = true := by simpa using c11))
   (try (have c11b2 : (t343 == t332) = true := by simpa using c11))
   clear c11
   replace H := Option.bind_eq_some_iff.mp H
   obtain ⟨⟨t344, t347, t350⟩, A300, H⟩ := H
   replace H : ((laws_eqObject.f k t333 t336 t339 t344 t347 t350).bind fun t353 => (if t353 = true then (some true) else (some false))) = some r := H
   have A30 := Aside0.mk A300
   clear A300
   obtain ⟨t353, A310, H⟩ := Option.bind_eq_some_iff.mp H
   have A31 := Aside0.mk A310
   clear A310
   by_cases c32 : t353 = true
   ·subst c32
    rw [if_pos rfl] at H
    obtain rfl := Option.some.inj H
    go_enter Try.func3, Try.ntmps3
    try go_wp2_with (first | ((with_reducible refine gate_dst (N := 1) rfl ?_); refine zbx 1 #[.slice A0_0 l0_0.length c0_0, .slice A0_1 l0_1.length c0_1, .slice A0_2 l0_2.length c0_2] 26 ?_; intro gb321 hg w33 hbox hb; have BK321 := Aside0.mk (hbox); have GW321 := zs w hg; have GE321 := GW321; replace HB := zt w hb; clear hb hbox hg; have hcz34_0 := zc0 BK321; have hcz34_1 := zc1 BK321; have hcz34_2 := zc2 BK321; have hfz34_0 := blk_frozen BK321.out 0; have hfz34_1 := blk_frozen BK321.out 1; have hfz34_2 := blk_frozen BK321.out 2) | ((with_reducible refine gate_callee (f := 4) rfl ?_); refine zc (some 9) Try.func4 #[.agg #[.slice A0_0 l0_0.length c0_0, .slice A0_1 l0_1.length c0_1, .slice A0_2 l0_2.length c0_2], .int .i64 1048576] ?_; (with_reducible refine (laws_szObject.calls k _ _ l0_0 _ _ l0_1 _ _ l0_2 1048576 t322 _ ?side1 ?side2 ?side3 ?side4 ?side5 ?side6 A2.out).mono ?_); (case side1 => repeat (first | exact (Kd.C_below HR0_0.out HB.out) | (with_reducible refine Kd.C_alloc ?_ _) | (with_reducible refine Kd.C_drewN ?_ _) | (with_reducible refine Kd.C_drew ?_))); (case side2 => exact HC0_0.out); (case side3 => repeat (first | exact (Kd.C_below HR0_1.out HB.out) | (with_reducible refine Kd.C_alloc ?_ _) | (with_reducible refine Kd.C_drewN ?_ _) | (with_reducible refine Kd.C_drew ?_))); (case side4 => exact HC0_1.out); (case side5 => repeat (first | exact (Kd.C_below HR0_2.out HB.out) | (with_reducible refine Kd.C_alloc ?_ _) | (with_reducible refine Kd.C_drewN ?_ _) | (with_reducible refine Kd.C_drew ?_))); (case side6 => exact HC0_2.out); rintro e w35 ⟨rfl, hb⟩; refine ⟨_, rfl, ?_⟩; replace BK321 := zk BK321 hb; replace HB := zt w hb; (try clear hb); (try clear hb2); (try clear hk); (try clear hi); have hcz36_0 := zc0 BK321; have hcz36_1 := zc1 BK321; have hcz36_2 := zc2 BK321; have hfz36_0 := blk_frozen BK321.out 0; have hfz36_1 := blk_frozen BK321.out 1; have hfz36_2 := blk_frozen BK321.out 2) | ((with_reducible refine gate_callee (f := 6) rfl ?_); refine zc (some 13) Try.func6 #[.agg #[.slice A0_0 l0_0.length c0_0, .slice A0_1 l0_1.length c0_1, .slice A0_2 l0_2.length c0_2]] ?_; (with_reducible refine (laws_toObject.calls k _ _ l0_0 _ _ l0_1 _ _ l0_2 t323 t326 t329 _ ?side1 ?side2 ?side3 ?side4 ?side5 ?side6 A7.out).mono ?_); (case side1 => repeat (first | exact (Kd.C_below HR0_0.out HB.out) | (with_reducible refine Kd.C_alloc ?_ _) | (with_reducible refine Kd.C_drewN ?_ _) | (with_reducible refine Kd.C_drew ?_))); (case side2 => exact HC0_0.out); (case side3 => repeat (first | exact (Kd.C_below HR0_1.out HB.out) | (with_reducible refine Kd.C_alloc ?_ _) | (with_reducible refine Kd.C_drewN ?_ _) | (with_reducible refine Kd.C_drew ?_))); (case side4 => exact HC0_1.out); (case side5 => repeat (first | exact (Kd.C_below HR0_2.out HB.out) | (with_reducible refine Kd.C_alloc ?_ _) | (with_reducible refine Kd.C_drewN ?_ _) | (with_reducible refine Kd.C_drew ?_))); (case side6 => exact HC0_2.out); rintro e w37 ⟨v324, v327, v330, rfl, ho0, ho1, ho2, hb⟩; refine ⟨_, rfl, ?_⟩; have HO325 := Aside0.mk (Kd.R_lower ho0 (below_size (zb _))); have HO328 := Aside0.mk (Kd.R_lower ho1 (below_size (zb _))); have HO331 := Aside0.mk (Kd.S_lower ho2 (below_size (zb _))); replace BK321 := zk BK321 hb; replace HB := zt w hb; (try clear hb); (try clear hb2); (try clear hk); (try clear hi); (try clear ho0); (try clear ho1); (try clear ho2); obtain ⟨Ao38, co38, eo38⟩ := Kd.R_slice HO325.out; subst eo38; obtain ⟨Ao39, co39, eo39⟩ := Kd.R_slice HO328.out; subst eo39; obtain ⟨Ao40, co40, eo40⟩ := Kd.S_slice HO331.out; subst eo40) | ((with_reducible refine gate_callee (f := 5) rfl ?_); refine zc (some 14) Try.func5 #[.agg #[.slice Ao38 t323.length co38, .slice Ao39 t326.length co39, .slice Ao40 t329.length co40]] ?_; (with_reducible refine (spec_ObjectOk.calls k _ _ t323 _ _ t326 _ _ t329 t332 _ ?side1 ?side2 ?side3 ?side4 ?side5 ?side6 A8.out).mono ?_); (case side1 => repeat (first | exact (Kd.R_reads' HO325.out).2.2 | (with_reducible refine Kd.C_alloc ?_ _) | (with_reducible refine Kd.C_drewN ?_ _) | (with_reducible refine Kd.C_drew ?_))); (case side2 => exact (Kd.R_reads' HO325.out).2.1); (case side3 => repeat (first | exact (Kd.R_reads' HO328.out).2.2 | (with_reducible refine Kd.C_alloc ?_ _) | (with_reducible refine Kd.C_drewN ?_ _) | (with_reducible refine Kd.C_drew ?_))); (case side4 => exact (Kd.R_reads' HO328.out).2.1); (case side5 => repeat (first | exact (Kd.S_reads' HO331.out).2.2 | (with_reducible refine Kd.C_alloc ?_ _) | (with_reducible refine Kd.C_drewN ?_ _) | (with_reducible refine Kd.C_drew ?_))); (case side6 => exact (Kd.S_reads' HO331.out).2.1); rintro e w41 ⟨rfl, hb⟩; refine ⟨_, rfl, ?_⟩; replace HO325 := Aside0.mk (Kd.R_below (by (with_reducible repeat (first | apply Kd.R_alloc | apply Kd.R_drewN | apply Kd.R_drew)); exact HO325.out) hb); replace HO328 := Aside0.mk (Kd.R_below (by (with_reducible repeat (first | apply Kd.R_alloc | apply Kd.R_drewN | apply Kd.R_drew)); exact HO328.out) hb); replace HO331 := Aside0.mk (Kd.S_below (by (with_reducible repeat (first | apply Kd.S_alloc | apply Kd.S_drewN | apply Kd.S_drew)); exact HO331.out) hb); replace BK321 := zk BK321 hb; replace HB := zt w hb; (try clear hb); (try clear hb2); (try clear hk); (try clear hi); have hcz42_0 := zc0 BK321; have hcz42_1 := zc1 BK321; have hcz42_2 := zc2 BK321; have hfz42_0 := blk_frozen BK321.out 0; have hfz42_1 := blk_frozen BK321.out 1; have hfz42_2 := blk_frozen BK321.out 2) | ((with_reducible refine gate_callee (f := 6) rfl ?_); refine zc (some 16) Try.func6 #[.agg #[.slice A0_0 l0_0.length c0_0, .slice A0_1 l0_1.length c0_1, .slice A0_2 l0_2.length c0_2]] ?_; (with_reducible refine (laws_toObject.calls k _ _ l0_0 _ _ l0_1 _ _ l0_2 t333 t336 t339 _ ?side1 ?side2 ?side3 ?side4 ?side5 ?side6 A9.out).mono ?_); (case side1 => repeat (first | exact (Kd.C_below HR0_0.out HB.out) | (with_reducible refine Kd.C_alloc ?_ _) | (with_reducible refine Kd.C_drewN ?_ _) | (with_reducible refine Kd.C_drew ?_))); (case side2 => exact HC0_0.out); (case side3 => repeat (first | exact (Kd.C_below HR0_1.out HB.out) | (with_reducible refine Kd.C_alloc ?_ _) | (with_reducible refine Kd.C_drewN ?_ _) | (with_reducible refine Kd.C_drew ?_))); (case side4 => exact HC0_1.out); (case side5 => repeat (first | exact (Kd.C_below HR0_2.out HB.out) | (with_reducible refine Kd.C_alloc ?_ _) | (with_reducible refine Kd.C_drewN ?_ _) | (with_reducible refine Kd.C_drew ?_))); (case side6 => exact HC0_2.out); rintro e w43 ⟨v334, v337, v340, rfl, ho0, ho1, ho2, hb⟩; refine ⟨_, rfl, ?_⟩; have HO335 := Aside0.mk (Kd.R_lower (Kd.R_new' ho0 (Kd.R_lt (by (with_reducible repeat (first | apply Kd.R_alloc | apply Kd.R_drewN | apply Kd.R_drew)); exact HO325.out))) (below_size (zb _))); have HO338 := Aside0.mk (Kd.R_lower (Kd.R_new' ho1 (Kd.R_lt (by (with_reducible repeat (first | apply Kd.R_alloc | apply Kd.R_drewN | apply Kd.R_drew)); exact HO328.out))) (below_size (zb _))); have HO341 := Aside0.mk (Kd.S_lower (Kd.S_new' ho2 (Kd.S_lt (by (with_reducible repeat (first | apply Kd.S_alloc | apply Kd.S_drewN | apply Kd.S_drew)); exact HO331.out))) (below_size (zb _))); replace HO325 := Aside0.mk (Kd.R_elder' (by (with_reducible repeat (first | apply Kd.R_alloc | apply Kd.R_drewN | apply Kd.R_drew)); exact HO325.out) (Kd.R_base ho0) hb); replace HO328 := Aside0.mk (Kd.R_elder' (by (with_reducible repeat (first | apply Kd.R_alloc | apply Kd.R_drewN | apply Kd.R_drew)); exact HO328.out) (Kd.R_base ho1) hb); replace HO331 := Aside0.mk (Kd.S_elder' (by (with_reducible repeat (first | apply Kd.S_alloc | apply Kd.S_drewN | apply Kd.S_drew)); exact HO331.out) (Kd.S_base ho2) hb); replace BK321 := zk BK321 hb; replace HB := zt w hb; (try clear hb); (try clear hb2); (try clear hk); (try clear hi); (try clear ho0); (try clear ho1); (try clear ho2)) | ((with_reducible refine gate_dst (N := 5) rfl ?_); refine zbx 5 #[.slice none 0 0, .slice none 0 0, .slice none 0 0] 33 ?_; intro gb342 hg w44 hbox hb; have BK342 := Aside0.mk (hbox); have GW342 := zs w hg; have GE342 := GW342; have NB321_342 := zlt BK321 hg; have NB342_321 := zgt (zlt BK321 hg); replace HO325 := Aside0.mk (Kd.R_below (by (with_reducible repeat (first | apply Kd.R_alloc | apply Kd.R_drewN | apply Kd.R_drew)); exact HO325.out) hb); replace HO328 := Aside0.mk (Kd.R_below (by (with_reducible repeat (first | apply Kd.R_alloc | apply Kd.R_drewN | apply Kd.R_drew)); exact HO328.out) hb); replace HO331 := Aside0.mk (Kd.S_below (by (with_reducible repeat (first | apply Kd.S_alloc | apply Kd.S_drewN | apply Kd.S_drew)); exact HO331.out) hb); replace HO335 := Aside0.mk (Kd.R_below (by (with_reducible repeat (first | apply Kd.R_alloc | apply Kd.R_drewN | apply Kd.R_drew)); exact HO335.out) hb); replace HO338 := Aside0.mk (Kd.R_below (by (with_reducible repeat (first | apply Kd.R_alloc | apply Kd.R_drewN | apply Kd.R_drew)); exact HO338.out) hb); replace HO341 := Aside0.mk (Kd.S_below (by (with_reducible repeat (first | apply Kd.S_alloc | apply Kd.S_drewN | apply Kd.S_drew)); exact HO341.out) hb); replace BK321 := zk BK321 hb; replace HB := zt w hb; clear hb hbox hg; obtain ⟨Ao45, co45, eo45⟩ := Kd.R_slice HO335.out; subst eo45; have hnb46 := NB342_321.out; have hnc46 := NB321_342.out; have hcz47_0 := zc0 BK342; have hcz47_1 := zc1 BK342; have hcz47_2 := zc2 BK342; have hfz47_0 := blk_frozen BK342.out 0; have hfz47_1 := blk_frozen BK342.out 1; have hfz47_2 := blk_frozen BK342.out 2; obtain ⟨Ao48, co48, eo48⟩ := Kd.R_slice HO338.out; subst eo48; obtain ⟨Ao49, co49, eo49⟩ := Kd.S_slice HO341.out; subst eo49) | ((with_reducible refine gate_callee (f := 7) rfl ?_); refine zc (some 18) Try.func7 #[.agg #[.slice Ao45 t333.length co45, .slice Ao48 t336.length co48, .slice Ao49 t339.length co49]] ?_; (with_reducible refine (impl_ObjectOk.calls k _ _ t333 _ _ t336 _ _ t339 t343 _ ?side1 ?side2 ?side3 ?side4 ?side5 ?side6 A10.out).mono ?_); (case side1 => refine (Kd.R_reads' (e := 43) (base := w.heap.size) (ok := fun k_ => (True ∧ some k_ ≠ (.slice Ao38 t323.length co38 : Value).ownBlock)) (n := t333.length) (c := co45) ?_).2.2; exact (by (with_reducible repeat (first | apply Kd.R_alloc | apply Kd.R_drewN | apply Kd.R_drew)); exact (Kd.R_mono (Kd.R_far (p := ⟨gb342, 2, none⟩) (Kd.R_far (p := ⟨gb342, 1, none⟩) (Kd.R_far (p := ⟨gb342, 0, none⟩) (Kd.R_types HO335.out BK342.out (by decide)) (fun _ hk => hk.2) (.slice Ao45 t333.length co45)) (fun _ hk => hk.2) (.slice Ao48 t336.length co48)) (fun _ hk => hk.2) (.slice Ao49 t339.length co49)) (fun _ h_ => h_.1)))); (case side2 => exact (Kd.R_reads' HO335.out).2.1); (case side3 => refine (Kd.R_reads' (e := 45) (base := w.heap.size) (ok := fun k_ => (True ∧ some k_ ≠ (.slice Ao39 t326.length co39 : Value).ownBlock)) (n := t336.length) (c := co48) ?_).2.2; exact (by (with_reducible repeat (first | apply Kd.R_alloc | apply Kd.R_drewN | apply Kd.R_drew)); exact (Kd.R_mono (Kd.R_far (p := ⟨gb342, 2, none⟩) (Kd.R_far (p := ⟨gb342, 1, none⟩) (Kd.R_far (p := ⟨gb342, 0, none⟩) (Kd.R_types HO338.out BK342.out (by decide)) (fun _ hk => hk.2) (.slice Ao45 t333.length co45)) (fun _ hk => hk.2) (.slice Ao48 t336.length co48)) (fun _ hk => hk.2) (.slice Ao49 t339.length co49)) (fun _ h_ => h_.1)))); (case side4 => exact (Kd.R_reads' HO338.out).2.1); (case side5 => refine (Kd.S_reads' (e := 49) (base := w.heap.size) (ok := fun k_ => (True ∧ some k_ ≠ (.slice Ao40 t329.length co40 : Value).ownBlock)) (n := t339.length) (c := co49) ?_).2.2; exact (by (with_reducible repeat (first | apply Kd.S_alloc | apply Kd.S_drewN | apply Kd.S_drew)); exact (Kd.S_mono (Kd.S_far (p := ⟨gb342, 2, none⟩) (Kd.S_far (p := ⟨gb342, 1, none⟩) (Kd.S_far (p := ⟨gb342, 0, none⟩) (Kd.S_types HO341.out BK342.out (by decide)) (fun _ hk => hk.2) (.slice Ao45 t333.length co45)) (fun _ hk => hk.2) (.slice Ao48 t336.length co48)) (fun _ hk => hk.2) (.slice Ao49 t339.length co49)) (fun _ h_ => h_.1)))); (case side6 => exact (Kd.S_reads' HO341.out).2.1); rintro e w50 ⟨rfl, hb⟩; refine ⟨_, rfl, ?_⟩; replace HO325 := Aside0.mk (Kd.R_below (by (with_reducible repeat (first | apply Kd.R_alloc | apply Kd.R_drewN | apply Kd.R_drew)); exact (Kd.R_mono (Kd.R_far (p := ⟨gb342, 2, none⟩) (Kd.R_far (p := ⟨gb342, 1, none⟩) (Kd.R_far (p := ⟨gb342, 0, none⟩) (Kd.R_types HO325.out BK342.out (by decide)) (fun _ hk => hk.2) (.slice Ao45 t333.length co45)) (fun _ hk => hk.2) (.slice Ao48 t336.length co48)) (fun _ hk => hk.2) (.slice Ao49 t339.length co49)) (fun _ h_ => h_.1))) hb); replace HO328 := Aside0.mk (Kd.R_below (by (with_reducible repeat (first | apply Kd.R_alloc | apply Kd.R_drewN | apply Kd.R_drew)); exact (Kd.R_mono (Kd.R_far (p := ⟨gb342, 2, none⟩) (Kd.R_far (p := ⟨gb342, 1, none⟩) (Kd.R_far (p := ⟨gb342, 0, none⟩) (Kd.R_types HO328.out BK342.out (by decide)) (fun _ hk => hk.2) (.slice Ao45 t333.length co45)) (fun _ hk => hk.2) (.slice Ao48 t336.length co48)) (fun _ hk => hk.2) (.slice Ao49 t339.length co49)) (fun _ h_ => h_.1))) hb); replace HO331 := Aside0.mk (Kd.S_below (by (with_reducible repeat (first | apply Kd.S_alloc | apply Kd.S_drewN | apply Kd.S_drew)); exact (Kd.S_mono (Kd.S_far (p := ⟨gb342, 2, none⟩) (Kd.S_far (p := ⟨gb342, 1, none⟩) (Kd.S_far (p := ⟨gb342, 0, none⟩) (Kd.S_types HO331.out BK342.out (by decide)) (fun _ hk => hk.2) (.slice Ao45 t333.length co45)) (fun _ hk => hk.2) (.slice Ao48 t336.length co48)) (fun _ hk => hk.2) (.slice Ao49 t339.length co49)) (fun _ h_ => h_.1))) hb); replace HO335 := Aside0.mk (Kd.R_below (by (with_reducible repeat (first | apply Kd.R_alloc | apply Kd.R_drewN | apply Kd.R_drew)); exact (Kd.R_mono (Kd.R_far (p := ⟨gb342, 2, none⟩) (Kd.R_far (p := ⟨gb342, 1, none⟩) (Kd.R_far (p := ⟨gb342, 0, none⟩) (Kd.R_types HO335.out BK342.out (by decide)) (fun _ hk => hk.2) (.slice Ao45 t333.length co45)) (fun _ hk => hk.2) (.slice Ao48 t336.length co48)) (fun _ hk => hk.2) (.slice Ao49 t339.length co49)) (fun _ h_ => h_.1))) hb); replace HO338 := Aside0.mk (Kd.R_below (by (with_reducible repeat (first | apply Kd.R_alloc | apply Kd.R_drewN | apply Kd.R_drew)); exact (Kd.R_mono (Kd.R_far (p := ⟨gb342, 2, none⟩) (Kd.R_far (p := ⟨gb342, 1, none⟩) (Kd.R_far (p := ⟨gb342, 0, none⟩) (Kd.R_types HO338.out BK342.out (by decide)) (fun _ hk => hk.2) (.slice Ao45 t333.length co45)) (fun _ hk => hk.2) (.slice Ao48 t336.length co48)) (fun _ hk => hk.2) (.slice Ao49 t339.length co49)) (fun _ h_ => h_.1))) hb); replace HO341 := Aside0.mk (Kd.S_below (by (with_reducible repeat (first | apply Kd.S_alloc | apply Kd.S_drewN | apply Kd.S_drew)); exact (Kd.S_mono (Kd.S_far (p := ⟨gb342, 2, none⟩) (Kd.S_far (p := ⟨gb342, 1, none⟩) (Kd.S_far (p := ⟨gb342, 0, none⟩) (Kd.S_types HO341.out BK342.out (by decide)) (fun _ hk => hk.2) (.slice Ao45 t333.length co45)) (fun _ hk => hk.2) (.slice Ao48 t336.length co48)) (fun _ hk => hk.2) (.slice Ao49 t339.length co49)) (fun _ h_ => h_.1))) hb); replace BK321 := zkw (g := gb321) (o := .cells #[.slice A0_0 l0_0.length c0_0, .slice A0_1 l0_1.length c0_1, .slice A0_2 l0_2.length c0_2] 26 (0, 0)) hb; replace BK342 := zkw (g := gb342) (o := .cells #[.slice Ao45 t333.length co45, .slice Ao48 t336.length co48, .slice Ao49 t339.length co49] 33 (0, 0)) hb; replace HB := zt w hb; (try clear hb); (try clear hb2); (try clear hk); (try clear hi)))
    have n0_ := Aside0.mk (Kd.R_drew HO325.out)
    have n1_ := Aside0.mk (Kd.R_drew HO328.out)
    have n2_ := Aside0.mk (Kd.S_drew HO331.out)
    have n3_ := Aside0.mk (Kd.R_drew HO335.out)
    have n4_ := Aside0.mk (Kd.R_drew HO338.out)
    have n5_ := Aside0.mk (Kd.S_drew HO341.out)
    have n6_ := Aside0.mk (blk_drew BK321.out)
    have n7_ := Aside0.mk (blk_drew BK342.out)
    have n8_ := Aside0.mk (below_drew1 HB.out)
    clear HO325
    clear HO328
    clear HO331
    clear HO335
    clear HO338
    clear HO341
    clear BK321
    clear BK342
    clear HB
    have HO325 := n0_
    have HO328 := n1_
    have HO331 := n2_
    have HO335 := n3_
    have HO338 := n4_
    have HO341 := n5_
    have BK321 := n6_
    have BK342 := n7_
    have HB := n8_
    clear n0_ n1_ n2_ n3_ n4_ n5_ n6_ n7_ n8_
    refine start_ (n := 5) (S := fun w' => w'.cell? ⟨gb342, 0, none⟩ = some (.slice Ao45 t333.length co45) ∧ w'.cell? ⟨gb342, 1, none⟩ = some (.slice Ao48 t336.length co48) ∧ w'.cell? ⟨gb342, 2, none⟩ = some (.slice Ao49 t339.length co49) ∧ w'.cell? ⟨gb321, 0, none⟩ = some (.slice A0_0 l0_0.length c0_0) ∧ w'.cell? ⟨gb321, 1, none⟩ = some (.slice A0_1 l0_1.length c0_1) ∧ w'.cell? ⟨gb321, 2, none⟩ = some (.slice A0_2 l0_2.length c0_2)) (ds := []) (zm 5 0) (by kernel_rfl) rfl rfl ⟨(blk_cell BK342.out 0).trans rfl, (blk_cell BK342.out 1).trans rfl, (blk_cell BK342.out 2).trans rfl, (blk_cell BK321.out 0).trans rfl, (blk_cell BK321.out 1).trans rfl, (blk_cell BK321.out 2).trans rfl⟩ (fun hHeld => ?_)
    generalize w50.drew = w51 at HO325 HO328 HO331 HO335 HO338 HO341 BK321 BK342 HB hHeld ⊢
    refine take_ (i := 0) (N := some 22) (v := ?_) (a' := ?_) (zm 5 1) rfl rfl (by kernel_rfl) (fun _ _ _ h => h) (Or.inl ⟨by rfl, ?_⟩) hHeld ?_ ?_
    rotate_left
    ·rintro w' ⟨s0, s1, s2, s3, s4, s5⟩
     go_simp
     with_reducible rfl
    rotate_left
    ·simp only [Act.put, List.setIfInBounds_toArray, List.set_cons_zero, List.set_cons_succ, i64_w, i32_w]
     rfl
    refine take_ (i := 1) (N := some 23) (v := ?_) (a' := ?_) (zm 5 3) rfl rfl (by kernel_rfl) (fun _ _ _ h => h) (Or.inl ⟨by rfl, ?_⟩) hHeld ?_ ?_
    rotate_left
    ·rintro w' ⟨s0, s1, s2, s3, s4, s5⟩
     go_simp
     with_reducible rfl
    rotate_left
    ·simp only [Act.put, List.setIfInBounds_toArray, List.set_cons_zero, List.set_cons_succ, i64_w, i32_w]
     rfl
    refine one_ (i := 2) (N := some 24) (zm 5 7) rfl rfl (by kernel_rfl) (by decide) (fun K hK => ?_)
    refine zi Try.func6 #[.agg #[.slice A0_0 l0_0.length c0_0, .slice A0_1 l0_1.length c0_1, .slice A0_2 l0_2.length c0_2]] ?_
    with_reducible refine (laws_toObject.calls k _ _ l0_0 _ _ l0_1 _ _ l0_2 t344 t347 t350 _ ?side1 ?side2 ?side3 ?side4 ?side5 ?side6 A30.out).mono ?_
    (case side1 => repeat (first | exact (Kd.C_below HR0_0.out HB.out) | (with_reducible refine Kd.C_alloc ?_ _) | (with_reducible refine Kd.C_drewN ?_ _) | (with_reducible refine Kd.C_drew ?_)))
    (case side2 => exact HC0_0.out)
    (case side3 => repeat (first | exact (Kd.C_below HR0_1.out HB.out) | (with_reducible refine Kd.C_alloc ?_ _) | (with_reducible refine Kd.C_drewN ?_ _) | (with_reducible refine Kd.C_drew ?_)))
    (case side4 => exact HC0_1.out)
    (case side5 => repeat (first | exact (Kd.C_below HR0_2.out HB.out) | (with_reducible refine Kd.C_alloc ?_ _) | (with_reducible refine Kd.C_drewN ?_ _) | (with_reducible refine Kd.C_drew ?_)))
    (case side6 => exact HC0_2.out)
    rintro e w52 ⟨v345, v348, v351, rfl, ho0, ho1, ho2, hb⟩
    refine ⟨_, rfl, ?_⟩
    have n0_ := Aside0.mk (Kd.R_elder' (by (with_reducible repeat (first | apply Kd.R_alloc | apply Kd.R_drewN | apply Kd.R_drew)); exact HO325.out) (Kd.R_base ho0) hb)
    have n1_ := Aside0.mk (Kd.R_elder' (by (with_reducible repeat (first | apply Kd.R_alloc | apply Kd.R_drewN | apply Kd.R_drew)); exact HO328.out) (Kd.R_base ho1) hb)
    have n2_ := Aside0.mk (Kd.S_elder' (by (with_reducible repeat (first | apply Kd.S_alloc | apply Kd.S_drewN | apply Kd.S_drew)); exact HO331.out) (Kd.S_base ho2) hb)
    have n3_ := Aside0.mk (Kd.R_elder' (by (with_reducible repeat (first | apply Kd.R_alloc | apply Kd.R_drewN | apply Kd.R_drew)); exact HO335.out) (Kd.R_base ho0) hb)
    have n4_ := Aside0.mk (Kd.R_elder' (by (with_reducible repeat (first | apply Kd.R_alloc | apply Kd.R_drewN | apply Kd.R_drew)); exact HO338.out) (Kd.R_base ho1) hb)
    have n5_ := Aside0.mk (Kd.S_elder' (by (with_reducible repeat (first | apply Kd.S_alloc | apply Kd.S_drewN | apply Kd.S_drew)); exact HO341.out) (Kd.S_base ho2) hb)
    have n6_ := Aside0.mk (Kd.R_lower (Kd.R_new' (Kd.R_new' ho0 (Kd.R_lt (by (with_reducible repeat (first | apply Kd.R_alloc | apply Kd.R_drewN | apply Kd.R_drew)); exact HO325.out))) (Kd.R_lt (by (with_reducible repeat (first | apply Kd.R_alloc | apply Kd.R_drewN | apply Kd.R_drew)); exact HO335.out))) (below_size (zb _)))
    have n7_ := Aside0.mk (Kd.R_lower (Kd.R_new' (Kd.R_new' ho1 (Kd.R_lt (by (with_reducible repeat (first | apply Kd.R_alloc | apply Kd.R_drewN | apply Kd.R_drew)); exact HO328.out))) (Kd.R_lt (by (with_reducible repeat (first | apply Kd.R_alloc | apply Kd.R_drewN | apply Kd.R_drew)); exact HO338.out))) (below_size (zb _)))
    have n8_ := Aside0.mk (Kd.S_lower (Kd.S_new' (Kd.S_new' ho2 (Kd.S_lt (by (with_reducible repeat (first | apply Kd.S_alloc | apply Kd.S_drewN | apply Kd.S_drew)); exact HO331.out))) (Kd.S_lt (by (with_reducible repeat (first | apply Kd.S_alloc | apply Kd.S_drewN | apply Kd.S_drew)); exact HO341.out))) (below_size (zb _)))
    have n9_ := zk BK321 hb
    have n10_ := zk BK342 hb
    have n11_ := zt w hb
    clear HO325
    clear HO328
    clear HO331
    clear HO335
    clear HO338
    clear HO341
    clear BK321
    clear BK342
    clear HB
    have HO325 := n0_
    have HO328 := n1_
    have HO331 := n2_
    have HO335 := n3_
    have HO338 := n4_
    have HO341 := n5_
    have HO346 := n6_
    have HO349 := n7_
    have HO352 := n8_
    have BK321 := n9_
    have BK342 := n10_
    have HB := n11_
    clear n0_ n1_ n2_ n3_ n4_ n5_ n6_ n7_ n8_ n9_ n10_ n11_
    (try clear hb)
    (try clear hb2)
    (try clear hk)
    (try clear hi)
    (try clear ho0)
    (try clear ho1)
    (try clear ho2)
    obtain ⟨Ao53, co53, eo53⟩ := Kd.R_slice HO346.out
    (first | subst eo53 | (injection eo53 with f1_ f2_ f3_; have f4_ := f1_.symm; have f5_ := f3_.symm; clear f1_ f2_ f3_; subst f4_; subst f5_))
    obtain ⟨Ao54, co54, eo54⟩ := Kd.R_slice HO349.out
    (first | subst eo54 | (injection eo54 with f1_ f2_ f3_; have f4_ := f1_.symm; have f5_ := f3_.symm; clear f1_ f2_ f3_; subst f4_; subst f5_))
    obtain ⟨Ao55, co55, eo55⟩ := Kd.S_slice HO352.out
    (first | subst eo55 | (injection eo55 with f1_ f2_ f3_; have f4_ := f1_.symm; have f5_ := f3_.symm; clear f1_ f2_ f3_; subst f4_; subst f5_))
    refine hK.out _ _ ⟨(blk_cell BK342.out 0).trans rfl, (blk_cell BK342.out 1).trans rfl, (blk_cell BK342.out 2).trans rfl, (blk_cell BK321.out 0).trans rfl, (blk_cell BK321.out 1).trans rfl, (blk_cell BK321.out 2).trans rfl⟩ (fun hHeld => ?_)
    clear hK K
    refine zq ?_
    refine one_ (i := 3) (N := some 25) (zm 5 15) rfl rfl (by kernel_rfl) (by decide) (fun K hK => ?_)
    refine zi Try.func8 #[.agg #[.slice Ao45 t333.length co45, .slice Ao48 t336.length co48, .slice Ao49 t339.length co49], .agg #[.slice Ao53 t344.length co53, .slice Ao54 t347.length co54, .slice Ao55 t350.length co55]] ?_
    with_reducible refine (laws_eqObject.calls k _ _ t333 _ _ t336 _ _ t339 _ _ t344 _ _ t347 _ _ t350 true _ ?side1 ?side2 ?side3 ?side4 ?side5 ?side6 ?side7 ?side8 ?side9 ?side10 ?side11 ?side12 A31.out).mono ?_
    (case side1 => repeat (first | exact (Kd.R_reads' HO335.out).2.2 | (with_reducible refine Kd.C_alloc ?_ _) | (with_reducible refine Kd.C_drewN ?_ _) | (with_reducible refine Kd.C_drew ?_)))
    (case side2 => exact (Kd.R_reads' HO335.out).2.1)
    (case side3 => repeat (first | exact (Kd.R_reads' HO338.out).2.2 | (with_reducible refine Kd.C_alloc ?_ _) | (with_reducible refine Kd.C_drewN ?_ _) | (with_reducible refine Kd.C_drew ?_)))
    (case side4 => exact (Kd.R_reads' HO338.out).2.1)
    (case side5 => repeat (first | exact (Kd.S_reads' HO341.out).2.2 | (with_reducible refine Kd.C_alloc ?_ _) | (with_reducible refine Kd.C_drewN ?_ _) | (with_reducible refine Kd.C_drew ?_)))
    (case side6 => exact (Kd.S_reads' HO341.out).2.1)
    (case side7 => repeat (first | exact (Kd.R_reads' HO346.out).2.2 | (with_reducible refine Kd.C_alloc ?_ _) | (with_reducible refine Kd.C_drewN ?_ _) | (with_reducible refine Kd.C_drew ?_)))
    (case side8 => exact (Kd.R_reads' HO346.out).2.1)
    (case side9 => repeat (first | exact (Kd.R_reads' HO349.out).2.2 | (with_reducible refine Kd.C_alloc ?_ _) | (with_reducible refine Kd.C_drewN ?_ _) | (with_reducible refine Kd.C_drew ?_)))
    (case side10 => exact (Kd.R_reads' HO349.out).2.1)
    (case side11 => repeat (first | exact (Kd.S_reads' HO352.out).2.2 | (with_reducible refine Kd.C_alloc ?_ _) | (with_reducible refine Kd.C_drewN ?_ _) | (with_reducible refine Kd.C_drew ?_)))
    (case side12 => exact (Kd.S_reads' HO352.out).2.1)
    rintro e w56 ⟨rfl, hb⟩
    refine ⟨_, rfl, ?_⟩
    have n0_ := Aside0.mk (Kd.R_below (by (with_reducible repeat (first | apply Kd.R_alloc | apply Kd.R_drewN | apply Kd.R_drew)); exact HO325.out) hb)
    have n1_ := Aside0.mk (Kd.R_below (by (with_reducible repeat (first | apply Kd.R_alloc | apply Kd.R_drewN | apply Kd.R_drew)); exact HO328.out) hb)
    have n2_ := Aside0.mk (Kd.S_below (by (with_reducible repeat (first | apply Kd.S_alloc | apply Kd.S_drewN | apply Kd.S_drew)); exact HO331.out) hb)
    have n3_ := Aside0.mk (Kd.R_below (by (with_reducible repeat (first | apply Kd.R_alloc | apply Kd.R_drewN | apply Kd.R_drew)); exact HO335.out) hb)
    have n4_ := Aside0.mk (Kd.R_below (by (with_reducible repeat (first | apply Kd.R_alloc | apply Kd.R_drewN | apply Kd.R_drew)); exact HO338.out) hb)
    have n5_ := Aside0.mk (Kd.S_below (by (with_reducible repeat (first | apply Kd.S_alloc | apply Kd.S_drewN | apply Kd.S_drew)); exact HO341.out) hb)
    have n6_ := Aside0.mk (Kd.R_below (by (with_reducible repeat (first | apply Kd.R_alloc | apply Kd.R_drewN | apply Kd.R_drew)); exact HO346.out) hb)
    have n7_ := Aside0.mk (Kd.R_below (by (with_reducible repeat (first | apply Kd.R_alloc | apply Kd.R_drewN | apply Kd.R_drew)); exact HO349.out) hb)
    have n8_ := Aside0.mk (Kd.S_below (by (with_reducible repeat (first | apply Kd.S_alloc | apply Kd.S_drewN | apply Kd.S_drew)); exact HO352.out) hb)
    have n9_ := zk BK321 hb
    have n10_ := zk BK342 hb
    have n11_ := zt w hb
    clear HO325
    clear HO328
    clear HO331
    clear HO335
    clear HO338
    clear HO341
    clear HO346
    clear HO349
    clear HO352
    clear BK321
    clear BK342
    clear HB
    have HO325 := n0_
    have HO328 := n1_
    have HO331 := n2_
    have HO335 := n3_
    have HO338 := n4_
    have HO341 := n5_
    have HO346 := n6_
    have HO349 := n7_
    have HO352 := n8_
    have BK321 := n9_
    have BK342 := n10_
    have HB := n11_
    clear n0_ n1_ n2_ n3_ n4_ n5_ n6_ n7_ n8_ n9_ n10_ n11_
    (try clear hb)
    (try clear hb2)
    (try clear hk)
    (try clear hi)
    refine hK.out _ _ ⟨(blk_cell BK342.out 0).trans rfl, (blk_cell BK342.out 1).trans rfl, (blk_cell BK342.out 2).trans rfl, (blk_cell BK321.out 0).trans rfl, (blk_cell BK321.out 1).trans rfl, (blk_cell BK321.out 2).trans rfl⟩ (fun hHeld => ?_)
    clear hK K
    refine zq ?_
    refine pure_ (i := 4) (N := some 26) (v := ?_) (a' := ?_) (zm 5 31) rfl rfl (by kernel_rfl) (fun _ _ _ h => h) (Or.inl ⟨by rfl, ?_⟩) ?_ ?_
    rotate_left
    ·intro w'
     go_simp
     with_reducible rfl
    rotate_left
    ·simp only [Act.put, List.setIfInBounds_toArray, List.set_cons_zero, List.set_cons_succ, i64_w, i32_w]
     rfl
    refine done_ (by kernel_rfl) ?_
    try go_wp2
    go_ret
    exact ⟨ze _, zb _⟩
   ·replace c32 := Bool.eq_false_iff.mpr c32
    subst c32
    rw [if_neg (show ¬ (false = true) by decide)] at H
    obtain rfl := Option.some.inj H
    go_enter Try.func3, Try.ntmps3
    try go_wp2_with (first | ((with_reducible refine gate_dst (N := 1) rfl ?_); refine zbx 1 #[.slice A0_0 l0_0.length c0_0, .slice A0_1 l0_1.length c0_1, .slice A0_2 l0_2.length c0_2] 26 ?_; intro gb321 hg w57 hbox hb; have BK321 := Aside0.mk (hbox); have GW321 := zs w hg; have GE321 := GW321; replace HB := zt w hb; clear hb hbox hg; have hcz58_0 := zc0 BK321; have hcz58_1 := zc1 BK321; have hcz58_2 := zc2 BK321; have hfz58_0 := blk_frozen BK321.out 0; have hfz58_1 := blk_frozen BK321.out 1; have hfz58_2 := blk_frozen BK321.out 2) | ((with_reducible refine gate_callee (f := 4) rfl ?_); refine zc (some 9) Try.func4 #[.agg #[.slice A0_0 l0_0.length c0_0, .slice A0_1 l0_1.length c0_1, .slice A0_2 l0_2.length c0_2], .int .i64 1048576] ?_; (with_reducible refine (laws_szObject.calls k _ _ l0_0 _ _ l0_1 _ _ l0_2 1048576 t322 _ ?side1 ?side2 ?side3 ?side4 ?side5 ?side6 A2.out).mono ?_); (case side1 => repeat (first | exact (Kd.C_below HR0_0.out HB.out) | (with_reducible refine Kd.C_alloc ?_ _) | (with_reducible refine Kd.C_drewN ?_ _) | (with_reducible refine Kd.C_drew ?_))); (case side2 => exact HC0_0.out); (case side3 => repeat (first | exact (Kd.C_below HR0_1.out HB.out) | (with_reducible refine Kd.C_alloc ?_ _) | (with_reducible refine Kd.C_drewN ?_ _) | (with_reducible refine Kd.C_drew ?_))); (case side4 => exact HC0_1.out); (case side5 => repeat (first | exact (Kd.C_below HR0_2.out HB.out) | (with_reducible refine Kd.C_alloc ?_ _) | (with_reducible refine Kd.C_drewN ?_ _) | (with_reducible refine Kd.C_drew ?_))); (case side6 => exact HC0_2.out); rintro e w59 ⟨rfl, hb⟩; refine ⟨_, rfl, ?_⟩; replace BK321 := zk BK321 hb; replace HB := zt w hb; (try clear hb); (try clear hb2); (try clear hk); (try clear hi); have hcz60_0 := zc0 BK321; have hcz60_1 := zc1 BK321; have hcz60_2 := zc2 BK321; have hfz60_0 := blk_frozen BK321.out 0; have hfz60_1 := blk_frozen BK321.out 1; have hfz60_2 := blk_frozen BK321.out 2) | ((with_reducible refine gate_callee (f := 6) rfl ?_); refine zc (some 13) Try.func6 #[.agg #[.slice A0_0 l0_0.length c0_0, .slice A0_1 l0_1.length c0_1, .slice A0_2 l0_2.length c0_2]] ?_; (with_reducible refine (laws_toObject.calls k _ _ l0_0 _ _ l0_1 _ _ l0_2 t323 t326 t329 _ ?side1 ?side2 ?side3 ?side4 ?side5 ?side6 A7.out).mono ?_); (case side1 => repeat (first | exact (Kd.C_below HR0_0.out HB.out) | (with_reducible refine Kd.C_alloc ?_ _) | (with_reducible refine Kd.C_drewN ?_ _) | (with_reducible refine Kd.C_drew ?_))); (case side2 => exact HC0_0.out); (case side3 => repeat (first | exact (Kd.C_below HR0_1.out HB.out) | (with_reducible refine Kd.C_alloc ?_ _) | (with_reducible refine Kd.C_drewN ?_ _) | (with_reducible refine Kd.C_drew ?_))); (case side4 => exact HC0_1.out); (case side5 => repeat (first | exact (Kd.C_below HR0_2.out HB.out) | (with_reducible refine Kd.C_alloc ?_ _) | (with_reducible refine Kd.C_drewN ?_ _) | (with_reducible refine Kd.C_drew ?_))); (case side6 => exact HC0_2.out); rintro e w61 ⟨v324, v327, v330, rfl, ho0, ho1, ho2, hb⟩; refine ⟨_, rfl, ?_⟩; have HO325 := Aside0.mk (Kd.R_lower ho0 (below_size (zb _))); have HO328 := Aside0.mk (Kd.R_lower ho1 (below_size (zb _))); have HO331 := Aside0.mk (Kd.S_lower ho2 (below_size (zb _))); replace BK321 := zk BK321 hb; replace HB := zt w hb; (try clear hb); (try clear hb2); (try clear hk); (try clear hi); (try clear ho0); (try clear ho1); (try clear ho2); obtain ⟨Ao62, co62, eo62⟩ := Kd.R_slice HO325.out; subst eo62; obtain ⟨Ao63, co63, eo63⟩ := Kd.R_slice HO328.out; subst eo63; obtain ⟨Ao64, co64, eo64⟩ := Kd.S_slice HO331.out; subst eo64) | ((with_reducible refine gate_callee (f := 5) rfl ?_); refine zc (some 14) Try.func5 #[.agg #[.slice Ao62 t323.length co62, .slice Ao63 t326.length co63, .slice Ao64 t329.length co64]] ?_; (with_reducible refine (spec_ObjectOk.calls k _ _ t323 _ _ t326 _ _ t329 t332 _ ?side1 ?side2 ?side3 ?side4 ?side5 ?side6 A8.out).mono ?_); (case side1 => repeat (first | exact (Kd.R_reads' HO325.out).2.2 | (with_reducible refine Kd.C_alloc ?_ _) | (with_reducible refine Kd.C_drewN ?_ _) | (with_reducible refine Kd.C_drew ?_))); (case side2 => exact (Kd.R_reads' HO325.out).2.1); (case side3 => repeat (first | exact (Kd.R_reads' HO328.out).2.2 | (with_reducible refine Kd.C_alloc ?_ _) | (with_reducible refine Kd.C_drewN ?_ _) | (with_reducible refine Kd.C_drew ?_))); (case side4 => exact (Kd.R_reads' HO328.out).2.1); (case side5 => repeat (first | exact (Kd.S_reads' HO331.out).2.2 | (with_reducible refine Kd.C_alloc ?_ _) | (with_reducible refine Kd.C_drewN ?_ _) | (with_reducible refine Kd.C_drew ?_))); (case side6 => exact (Kd.S_reads' HO331.out).2.1); rintro e w65 ⟨rfl, hb⟩; refine ⟨_, rfl, ?_⟩; replace HO325 := Aside0.mk (Kd.R_below (by (with_reducible repeat (first | apply Kd.R_alloc | apply Kd.R_drewN | apply Kd.R_drew)); exact HO325.out) hb); replace HO328 := Aside0.mk (Kd.R_below (by (with_reducible repeat (first | apply Kd.R_alloc | apply Kd.R_drewN | apply Kd.R_drew)); exact HO328.out) hb); replace HO331 := Aside0.mk (Kd.S_below (by (with_reducible repeat (first | apply Kd.S_alloc | apply Kd.S_drewN | apply Kd.S_drew)); exact HO331.out) hb); replace BK321 := zk BK321 hb; replace HB := zt w hb; (try clear hb); (try clear hb2); (try clear hk); (try clear hi); have hcz66_0 := zc0 BK321; have hcz66_1 := zc1 BK321; have hcz66_2 := zc2 BK321; have hfz66_0 := blk_frozen BK321.out 0; have hfz66_1 := blk_frozen BK321.out 1; have hfz66_2 := blk_frozen BK321.out 2) | ((with_reducible refine gate_callee (f := 6) rfl ?_); refine zc (some 16) Try.func6 #[.agg #[.slice A0_0 l0_0.length c0_0, .slice A0_1 l0_1.length c0_1, .slice A0_2 l0_2.length c0_2]] ?_; (with_reducible refine (laws_toObject.calls k _ _ l0_0 _ _ l0_1 _ _ l0_2 t333 t336 t339 _ ?side1 ?side2 ?side3 ?side4 ?side5 ?side6 A9.out).mono ?_); (case side1 => repeat (first | exact (Kd.C_below HR0_0.out HB.out) | (with_reducible refine Kd.C_alloc ?_ _) | (with_reducible refine Kd.C_drewN ?_ _) | (with_reducible refine Kd.C_drew ?_))); (case side2 => exact HC0_0.out); (case side3 => repeat (first | exact (Kd.C_below HR0_1.out HB.out) | (with_reducible refine Kd.C_alloc ?_ _) | (with_reducible refine Kd.C_drewN ?_ _) | (with_reducible refine Kd.C_drew ?_))); (case side4 => exact HC0_1.out); (case side5 => repeat (first | exact (Kd.C_below HR0_2.out HB.out) | (with_reducible refine Kd.C_alloc ?_ _) | (with_reducible refine Kd.C_drewN ?_ _) | (with_reducible refine Kd.C_drew ?_))); (case side6 => exact HC0_2.out); rintro e w67 ⟨v334, v337, v340, rfl, ho0, ho1, ho2, hb⟩; refine ⟨_, rfl, ?_⟩; have HO335 := Aside0.mk (Kd.R_lower (Kd.R_new' ho0 (Kd.R_lt (by (with_reducible repeat (first | apply Kd.R_alloc | apply Kd.R_drewN | apply Kd.R_drew)); exact HO325.out))) (below_size (zb _))); have HO338 := Aside0.mk (Kd.R_lower (Kd.R_new' ho1 (Kd.R_lt (by (with_reducible repeat (first | apply Kd.R_alloc | apply Kd.R_drewN | apply Kd.R_drew)); exact HO328.out))) (below_size (zb _))); have HO341 := Aside0.mk (Kd.S_lower (Kd.S_new' ho2 (Kd.S_lt (by (with_reducible repeat (first | apply Kd.S_alloc | apply Kd.S_drewN | apply Kd.S_drew)); exact HO331.out))) (below_size (zb _))); replace HO325 := Aside0.mk (Kd.R_elder' (by (with_reducible repeat (first | apply Kd.R_alloc | apply Kd.R_drewN | apply Kd.R_drew)); exact HO325.out) (Kd.R_base ho0) hb); replace HO328 := Aside0.mk (Kd.R_elder' (by (with_reducible repeat (first | apply Kd.R_alloc | apply Kd.R_drewN | apply Kd.R_drew)); exact HO328.out) (Kd.R_base ho1) hb); replace HO331 := Aside0.mk (Kd.S_elder' (by (with_reducible repeat (first | apply Kd.S_alloc | apply Kd.S_drewN | apply Kd.S_drew)); exact HO331.out) (Kd.S_base ho2) hb); replace BK321 := zk BK321 hb; replace HB := zt w hb; (try clear hb); (try clear hb2); (try clear hk); (try clear hi); (try clear ho0); (try clear ho1); (try clear ho2)) | ((with_reducible refine gate_dst (N := 5) rfl ?_); refine zbx 5 #[.slice none 0 0, .slice none 0 0, .slice none 0 0] 33 ?_; intro gb342 hg w68 hbox hb; have BK342 := Aside0.mk (hbox); have GW342 := zs w hg; have GE342 := GW342; have NB321_342 := zlt BK321 hg; have NB342_321 := zgt (zlt BK321 hg); replace HO325 := Aside0.mk (Kd.R_below (by (with_reducible repeat (first | apply Kd.R_alloc | apply Kd.R_drewN | apply Kd.R_drew)); exact HO325.out) hb); replace HO328 := Aside0.mk (Kd.R_below (by (with_reducible repeat (first | apply Kd.R_alloc | apply Kd.R_drewN | apply Kd.R_drew)); exact HO328.out) hb); replace HO331 := Aside0.mk (Kd.S_below (by (with_reducible repeat (first | apply Kd.S_alloc | apply Kd.S_drewN | apply Kd.S_drew)); exact HO331.out) hb); replace HO335 := Aside0.mk (Kd.R_below (by (with_reducible repeat (first | apply Kd.R_alloc | apply Kd.R_drewN | apply Kd.R_drew)); exact HO335.out) hb); replace HO338 := Aside0.mk (Kd.R_below (by (with_reducible repeat (first | apply Kd.R_alloc | apply Kd.R_drewN | apply Kd.R_drew)); exact HO338.out) hb); replace HO341 := Aside0.mk (Kd.S_below (by (with_reducible repeat (first | apply Kd.S_alloc | apply Kd.S_drewN | apply Kd.S_drew)); exact HO341.out) hb); replace BK321 := zk BK321 hb; replace HB := zt w hb; clear hb hbox hg; obtain ⟨Ao69, co69, eo69⟩ := Kd.R_slice HO335.out; subst eo69; have hnb70 := NB342_321.out; have hnc70 := NB321_342.out; have hcz71_0 := zc0 BK342; have hcz71_1 := zc1 BK342; have hcz71_2 := zc2 BK342; have hfz71_0 := blk_frozen BK342.out 0; have hfz71_1 := blk_frozen BK342.out 1; have hfz71_2 := blk_frozen BK342.out 2; obtain ⟨Ao72, co72, eo72⟩ := Kd.R_slice HO338.out; subst eo72; obtain ⟨Ao73, co73, eo73⟩ := Kd.S_slice HO341.out; subst eo73) | ((with_reducible refine gate_callee (f := 7) rfl ?_); refine zc (some 18) Try.func7 #[.agg #[.slice Ao69 t333.length co69, .slice Ao72 t336.length co72, .slice Ao73 t339.length co73]] ?_; (with_reducible refine (impl_ObjectOk.calls k _ _ t333 _ _ t336 _ _ t339 t343 _ ?side1 ?side2 ?side3 ?side4 ?side5 ?side6 A10.out).mono ?_); (case side1 => refine (Kd.R_reads' (e := 43) (base := w.heap.size) (ok := fun k_ => (True ∧ some k_ ≠ (.slice Ao62 t323.length co62 : Value).ownBlock)) (n := t333.length) (c := co69) ?_).2.2; exact (by (with_reducible repeat (first | apply Kd.R_alloc | apply Kd.R_drewN | apply Kd.R_drew)); exact (Kd.R_mono (Kd.R_far (p := ⟨gb342, 2, none⟩) (Kd.R_far (p := ⟨gb342, 1, none⟩) (Kd.R_far (p := ⟨gb342, 0, none⟩) (Kd.R_types HO335.out BK342.out (by decide)) (fun _ hk => hk.2) (.slice Ao69 t333.length co69)) (fun _ hk => hk.2) (.slice Ao72 t336.length co72)) (fun _ hk => hk.2) (.slice Ao73 t339.length co73)) (fun _ h_ => h_.1)))); (case side2 => exact (Kd.R_reads' HO335.out).2.1); (case side3 => refine (Kd.R_reads' (e := 45) (base := w.heap.size) (ok := fun k_ => (True ∧ some k_ ≠ (.slice Ao63 t326.length co63 : Value).ownBlock)) (n := t336.length) (c := co72) ?_).2.2; exact (by (with_reducible repeat (first | apply Kd.R_alloc | apply Kd.R_drewN | apply Kd.R_drew)); exact (Kd.R_mono (Kd.R_far (p := ⟨gb342, 2, none⟩) (Kd.R_far (p := ⟨gb342, 1, none⟩) (Kd.R_far (p := ⟨gb342, 0, none⟩) (Kd.R_types HO338.out BK342.out (by decide)) (fun _ hk => hk.2) (.slice Ao69 t333.length co69)) (fun _ hk => hk.2) (.slice Ao72 t336.length co72)) (fun _ hk => hk.2) (.slice Ao73 t339.length co73)) (fun _ h_ => h_.1)))); (case side4 => exact (Kd.R_reads' HO338.out).2.1); (case side5 => refine (Kd.S_reads' (e := 49) (base := w.heap.size) (ok := fun k_ => (True ∧ some k_ ≠ (.slice Ao64 t329.length co64 : Value).ownBlock)) (n := t339.length) (c := co73) ?_).2.2; exact (by (with_reducible repeat (first | apply Kd.S_alloc | apply Kd.S_drewN | apply Kd.S_drew)); exact (Kd.S_mono (Kd.S_far (p := ⟨gb342, 2, none⟩) (Kd.S_far (p := ⟨gb342, 1, none⟩) (Kd.S_far (p := ⟨gb342, 0, none⟩) (Kd.S_types HO341.out BK342.out (by decide)) (fun _ hk => hk.2) (.slice Ao69 t333.length co69)) (fun _ hk => hk.2) (.slice Ao72 t336.length co72)) (fun _ hk => hk.2) (.slice Ao73 t339.length co73)) (fun _ h_ => h_.1)))); (case side6 => exact (Kd.S_reads' HO341.out).2.1); rintro e w74 ⟨rfl, hb⟩; refine ⟨_, rfl, ?_⟩; replace HO325 := Aside0.mk (Kd.R_below (by (with_reducible repeat (first | apply Kd.R_alloc | apply Kd.R_drewN | apply Kd.R_drew)); exact (Kd.R_mono (Kd.R_far (p := ⟨gb342, 2, none⟩) (Kd.R_far (p := ⟨gb342, 1, none⟩) (Kd.R_far (p := ⟨gb342, 0, none⟩) (Kd.R_types HO325.out BK342.out (by decide)) (fun _ hk => hk.2) (.slice Ao69 t333.length co69)) (fun _ hk => hk.2) (.slice Ao72 t336.length co72)) (fun _ hk => hk.2) (.slice Ao73 t339.length co73)) (fun _ h_ => h_.1))) hb); replace HO328 := Aside0.mk (Kd.R_below (by (with_reducible repeat (first | apply Kd.R_alloc | apply Kd.R_drewN | apply Kd.R_drew)); exact (Kd.R_mono (Kd.R_far (p := ⟨gb342, 2, none⟩) (Kd.R_far (p := ⟨gb342, 1, none⟩) (Kd.R_far (p := ⟨gb342, 0, none⟩) (Kd.R_types HO328.out BK342.out (by decide)) (fun _ hk => hk.2) (.slice Ao69 t333.length co69)) (fun _ hk => hk.2) (.slice Ao72 t336.length co72)) (fun _ hk => hk.2) (.slice Ao73 t339.length co73)) (fun _ h_ => h_.1))) hb); replace HO331 := Aside0.mk (Kd.S_below (by (with_reducible repeat (first | apply Kd.S_alloc | apply Kd.S_drewN | apply Kd.S_drew)); exact (Kd.S_mono (Kd.S_far (p := ⟨gb342, 2, none⟩) (Kd.S_far (p := ⟨gb342, 1, none⟩) (Kd.S_far (p := ⟨gb342, 0, none⟩) (Kd.S_types HO331.out BK342.out (by decide)) (fun _ hk => hk.2) (.slice Ao69 t333.length co69)) (fun _ hk => hk.2) (.slice Ao72 t336.length co72)) (fun _ hk => hk.2) (.slice Ao73 t339.length co73)) (fun _ h_ => h_.1))) hb); replace HO335 := Aside0.mk (Kd.R_below (by (with_reducible repeat (first | apply Kd.R_alloc | apply Kd.R_drewN | apply Kd.R_drew)); exact (Kd.R_mono (Kd.R_far (p := ⟨gb342, 2, none⟩) (Kd.R_far (p := ⟨gb342, 1, none⟩) (Kd.R_far (p := ⟨gb342, 0, none⟩) (Kd.R_types HO335.out BK342.out (by decide)) (fun _ hk => hk.2) (.slice Ao69 t333.length co69)) (fun _ hk => hk.2) (.slice Ao72 t336.length co72)) (fun _ hk => hk.2) (.slice Ao73 t339.length co73)) (fun _ h_ => h_.1))) hb); replace HO338 := Aside0.mk (Kd.R_below (by (with_reducible repeat (first | apply Kd.R_alloc | apply Kd.R_drewN | apply Kd.R_drew)); exact (Kd.R_mono (Kd.R_far (p := ⟨gb342, 2, none⟩) (Kd.R_far (p := ⟨gb342, 1, none⟩) (Kd.R_far (p := ⟨gb342, 0, none⟩) (Kd.R_types HO338.out BK342.out (by decide)) (fun _ hk => hk.2) (.slice Ao69 t333.length co69)) (fun _ hk => hk.2) (.slice Ao72 t336.length co72)) (fun _ hk => hk.2) (.slice Ao73 t339.length co73)) (fun _ h_ => h_.1))) hb); replace HO341 := Aside0.mk (Kd.S_below (by (with_reducible repeat (first | apply Kd.S_alloc | apply Kd.S_drewN | apply Kd.S_drew)); exact (Kd.S_mono (Kd.S_far (p := ⟨gb342, 2, none⟩) (Kd.S_far (p := ⟨gb342, 1, none⟩) (Kd.S_far (p := ⟨gb342, 0, none⟩) (Kd.S_types HO341.out BK342.out (by decide)) (fun _ hk => hk.2) (.slice Ao69 t333.length co69)) (fun _ hk => hk.2) (.slice Ao72 t336.length co72)) (fun _ hk => hk.2) (.slice Ao73 t339.length co73)) (fun _ h_ => h_.1))) hb); replace BK321 := zkw (g := gb321) (o := .cells #[.slice A0_0 l0_0.length c0_0, .slice A0_1 l0_1.length c0_1, .slice A0_2 l0_2.length c0_2] 26 (0, 0)) hb; replace BK342 := zkw (g := gb342) (o := .cells #[.slice Ao69 t333.length co69, .slice Ao72 t336.length co72, .slice Ao73 t339.length co73] 33 (0, 0)) hb; replace HB := zt w hb; (try clear hb); (try clear hb2); (try clear hk); (try clear hi)))
    have n0_ := Aside0.mk (Kd.R_drew HO325.out)
    have n1_ := Aside0.mk (Kd.R_drew HO328.out)
    have n2_ := Aside0.mk (Kd.S_drew HO331.out)
    have n3_ := Aside0.mk (Kd.R_drew HO335.out)
    have n4_ := Aside0.mk (Kd.R_drew HO338.out)
    have n5_ := Aside0.mk (Kd.S_drew HO341.out)
    have n6_ := Aside0.mk (blk_drew BK321.out)
    have n7_ := Aside0.mk (blk_drew BK342.out)
    have n8_ := Aside0.mk (below_drew1 HB.out)
    clear HO325
    clear HO328
    clear HO331
    clear HO335
    clear HO338
    clear HO341
    clear BK321
    clear BK342
    clear HB
    have HO325 := n0_
    have HO328 := n1_
    have HO331 := n2_
    have HO335 := n3_
    have HO338 := n4_
    have HO341 := n5_
    have BK321 := n6_
    have BK342 := n7_
    have HB := n8_
    clear n0_ n1_ n2_ n3_ n4_ n5_ n6_ n7_ n8_
    refine start_ (n := 5) (S := fun w' => w'.cell? ⟨gb342, 0, none⟩ = some (.slice Ao69 t333.length co69) ∧ w'.cell? ⟨gb342, 1, none⟩ = some (.slice Ao72 t336.length co72) ∧ w'.cell? ⟨gb342, 2, none⟩ = some (.slice Ao73 t339.length co73) ∧ w'.cell? ⟨gb321, 0, none⟩ = some (.slice A0_0 l0_0.length c0_0) ∧ w'.cell? ⟨gb321, 1, none⟩ = some (.slice A0_1 l0_1.length c0_1) ∧ w'.cell? ⟨gb321, 2, none⟩ = some (.slice A0_2 l0_2.length c0_2)) (ds := []) (zm 5 0) (by kernel_rfl) rfl rfl ⟨(blk_cell BK342.out 0).trans rfl, (blk_cell BK342.out 1).trans rfl, (blk_cell BK342.out 2).trans rfl, (blk_cell BK321.out 0).trans rfl, (blk_cell BK321.out 1).trans rfl, (blk_cell BK321.out 2).trans rfl⟩ (fun hHeld => ?_)
    generalize w74.drew = w75 at HO325 HO328 HO331 HO335 HO338 HO341 BK321 BK342 HB hHeld ⊢
    refine take_ (i := 0) (N := some 22) (v := ?_) (a' := ?_) (zm 5 1) rfl rfl (by kernel_rfl) (fun _ _ _ h => h) (Or.inl ⟨by rfl, ?_⟩) hHeld ?_ ?_
    rotate_left
    ·rintro w' ⟨s0, s1, s2, s3, s4, s5⟩
     go_simp
     with_reducible rfl
    rotate_left
    ·simp only [Act.put, List.setIfInBounds_toArray, List.set_cons_zero, List.set_cons_succ, i64_w, i32_w]
     rfl
    refine take_ (i := 1) (N := some 23) (v := ?_) (a' := ?_) (zm 5 3) rfl rfl (by kernel_rfl) (fun _ _ _ h => h) (Or.inl ⟨by rfl, ?_⟩) hHeld ?_ ?_
    rotate_left
    ·rintro w' ⟨s0, s1, s2, s3, s4, s5⟩
     go_simp
     with_reducible rfl
    rotate_left
    ·simp only [Act.put, List.setIfInBounds_toArray, List.set_cons_zero, List.set_cons_succ, i64_w, i32_w]
     rfl
    refine one_ (i := 2) (N := some 24) (zm 5 7) rfl rfl (by kernel_rfl) (by decide) (fun K hK => ?_)
    refine zi Try.func6 #[.agg #[.slice A0_0 l0_0.length c0_0, .slice A0_1 l0_1.length c0_1, .slice A0_2 l0_2.length c0_2]] ?_
    with_reducible refine (laws_toObject.calls k _ _ l0_0 _ _ l0_1 _ _ l0_2 t344 t347 t350 _ ?side1 ?side2 ?side3 ?side4 ?side5 ?side6 A30.out).mono ?_
    (case side1 => repeat (first | exact (Kd.C_below HR0_0.out HB.out) | (with_reducible refine Kd.C_alloc ?_ _) | (with_reducible refine Kd.C_drewN ?_ _) | (with_reducible refine Kd.C_drew ?_)))
    (case side2 => exact HC0_0.out)
    (case side3 => repeat (first | exact (Kd.C_below HR0_1.out HB.out) | (with_reducible refine Kd.C_alloc ?_ _) | (with_reducible refine Kd.C_drewN ?_ _) | (with_reducible refine Kd.C_drew ?_)))
    (case side4 => exact HC0_1.out)
    (case side5 => repeat (first | exact (Kd.C_below HR0_2.out HB.out) | (with_reducible refine Kd.C_alloc ?_ _) | (with_reducible refine Kd.C_drewN ?_ _) | (with_reducible refine Kd.C_drew ?_)))
    (case side6 => exact HC0_2.out)
    rintro e w76 ⟨v345, v348, v351, rfl, ho0, ho1, ho2, hb⟩
    refine ⟨_, rfl, ?_⟩
    have n0_ := Aside0.mk (Kd.R_elder' (by (with_reducible repeat (first | apply Kd.R_alloc | apply Kd.R_drewN | apply Kd.R_drew)); exact HO325.out) (Kd.R_base ho0) hb)
    have n1_ := Aside0.mk (Kd.R_elder' (by (with_reducible repeat (first | apply Kd.R_alloc | apply Kd.R_drewN | apply Kd.R_drew)); exact HO328.out) (Kd.R_base ho1) hb)
    have n2_ := Aside0.mk (Kd.S_elder' (by (with_reducible repeat (first | apply Kd.S_alloc | apply Kd.S_drewN | apply Kd.S_drew)); exact HO331.out) (Kd.S_base ho2) hb)
    have n3_ := Aside0.mk (Kd.R_elder' (by (with_reducible repeat (first | apply Kd.R_alloc | apply Kd.R_drewN | apply Kd.R_drew)); exact HO335.out) (Kd.R_base ho0) hb)
    have n4_ := Aside0.mk (Kd.R_elder' (by (with_reducible repeat (first | apply Kd.R_alloc | apply Kd.R_drewN | apply Kd.R_drew)); exact HO338.out) (Kd.R_base ho1) hb)
    have n5_ := Aside0.mk (Kd.S_elder' (by (with_reducible repeat (first | apply Kd.S_alloc | apply Kd.S_drewN | apply Kd.S_drew)); exact HO341.out) (Kd.S_base ho2) hb)
    have n6_ := Aside0.mk (Kd.R_lower (Kd.R_new' (Kd.R_new' ho0 (Kd.R_lt (by (with_reducible repeat (first | apply Kd.R_alloc | apply Kd.R_drewN | apply Kd.R_drew)); exact HO325.out))) (Kd.R_lt (by (with_reducible repeat (first | apply Kd.R_alloc | apply Kd.R_drewN | apply Kd.R_drew)); exact HO335.out))) (below_size (zb _)))
    have n7_ := Aside0.mk (Kd.R_lower (Kd.R_new' (Kd.R_new' ho1 (Kd.R_lt (by (with_reducible repeat (first | apply Kd.R_alloc | apply Kd.R_drewN | apply Kd.R_drew)); exact HO328.out))) (Kd.R_lt (by (with_reducible repeat (first | apply Kd.R_alloc | apply Kd.R_drewN | apply Kd.R_drew)); exact HO338.out))) (below_size (zb _)))
    have n8_ := Aside0.mk (Kd.S_lower (Kd.S_new' (Kd.S_new' ho2 (Kd.S_lt (by (with_reducible repeat (first | apply Kd.S_alloc | apply Kd.S_drewN | apply Kd.S_drew)); exact HO331.out))) (Kd.S_lt (by (with_reducible repeat (first | apply Kd.S_alloc | apply Kd.S_drewN | apply Kd.S_drew)); exact HO341.out))) (below_size (zb _)))
    have n9_ := zk BK321 hb
    have n10_ := zk BK342 hb
    have n11_ := zt w hb
    clear HO325
    clear HO328
    clear HO331
    clear HO335
    clear HO338
    clear HO341
    clear BK321
    clear BK342
    clear HB
    have HO325 := n0_
    have HO328 := n1_
    have HO331 := n2_
    have HO335 := n3_
    have HO338 := n4_
    have HO341 := n5_
    have HO346 := n6_
    have HO349 := n7_
    have HO352 := n8_
    have BK321 := n9_
    have BK342 := n10_
    have HB := n11_
    clear n0_ n1_ n2_ n3_ n4_ n5_ n6_ n7_ n8_ n9_ n10_ n11_
    (try clear hb)
    (try clear hb2)
    (try clear hk)
    (try clear hi)
    (try clear ho0)
    (try clear ho1)
    (try clear ho2)
    obtain ⟨Ao77, co77, eo77⟩ := Kd.R_slice HO346.out
    (first | subst eo77 | (injection eo77 with f1_ f2_ f3_; have f4_ := f1_.symm; have f5_ := f3_.symm; clear f1_ f2_ f3_; subst f4_; subst f5_))
    obtain ⟨Ao78, co78, eo78⟩ := Kd.R_slice HO349.out
    (first | subst eo78 | (injection eo78 with f1_ f2_ f3_; have f4_ := f1_.symm; have f5_ := f3_.symm; clear f1_ f2_ f3_; subst f4_; subst f5_))
    obtain ⟨Ao79, co79, eo79⟩ := Kd.S_slice HO352.out
    (first | subst eo79 | (injection eo79 with f1_ f2_ f3_; have f4_ := f1_.symm; have f5_ := f3_.symm; clear f1_ f2_ f3_; subst f4_; subst f5_))
    refine hK.out _ _ ⟨(blk_cell BK342.out 0).trans rfl, (blk_cell BK342.out 1).trans rfl, (blk_cell BK342.out 2).trans rfl, (blk_cell BK321.out 0).trans rfl, (blk_cell BK321.out 1).trans rfl, (blk_cell BK321.out 2).trans rfl⟩ (fun hHeld => ?_)
    clear hK K
    refine zq ?_
    refine one_ (i := 3) (N := some 25) (zm 5 15) rfl rfl (by kernel_rfl) (by decide) (fun K hK => ?_)
    refine zi Try.func8 #[.agg #[.slice Ao69 t333.length co69, .slice Ao72 t336.length co72, .slice Ao73 t339.length co73], .agg #[.slice Ao77 t344.length co77, .slice Ao78 t347.length co78, .slice Ao79 t350.length co79]] ?_
    with_reducible refine (laws_eqObject.calls k _ _ t333 _ _ t336 _ _ t339 _ _ t344 _ _ t347 _ _ t350 false _ ?side1 ?side2 ?side3 ?side4 ?side5 ?side6 ?side7 ?side8 ?side9 ?side10 ?side11 ?side12 A31.out).mono ?_
    (case side1 => repeat (first | exact (Kd.R_reads' HO335.out).2.2 | (with_reducible refine Kd.C_alloc ?_ _) | (with_reducible refine Kd.C_drewN ?_ _) | (with_reducible refine Kd.C_drew ?_)))
    (case side2 => exact (Kd.R_reads' HO335.out).2.1)
    (case side3 => repeat (first | exact (Kd.R_reads' HO338.out).2.2 | (with_reducible refine Kd.C_alloc ?_ _) | (with_reducible refine Kd.C_drewN ?_ _) | (with_reducible refine Kd.C_drew ?_)))
    (case side4 => exact (Kd.R_reads' HO338.out).2.1)
    (case side5 => repeat (first | exact (Kd.S_reads' HO341.out).2.2 | (with_reducible refine Kd.C_alloc ?_ _) | (with_reducible refine Kd.C_drewN ?_ _) | (with_reducible refine Kd.C_drew ?_)))
    (case side6 => exact (Kd.S_reads' HO341.out).2.1)
    (case side7 => repeat (first | exact (Kd.R_reads' HO346.out).2.2 | (with_reducible refine Kd.C_alloc ?_ _) | (with_reducible refine Kd.C_drewN ?_ _) | (with_reducible refine Kd.C_drew ?_)))
    (case side8 => exact (Kd.R_reads' HO346.out).2.1)
    (case side9 => repeat (first | exact (Kd.R_reads' HO349.out).2.2 | (with_reducible refine Kd.C_alloc ?_ _) | (with_reducible refine Kd.C_drewN ?_ _) | (with_reducible refine Kd.C_drew ?_)))
    (case side10 => exact (Kd.R_reads' HO349.out).2.1)
    (case side11 => repeat (first | exact (Kd.S_reads' HO352.out).2.2 | (with_reducible refine Kd.C_alloc ?_ _) | (with_reducible refine Kd.C_drewN ?_ _) | (with_reducible refine Kd.C_drew ?_)))
    (case side12 => exact (Kd.S_reads' HO352.out).2.1)
    rintro e w80 ⟨rfl, hb⟩
    refine ⟨_, rfl, ?_⟩
    have n0_ := Aside0.mk (Kd.R_below (by (with_reducible repeat (first | apply Kd.R_alloc | apply Kd.R_drewN | apply Kd.R_drew)); exact HO325.out) hb)
    have n1_ := Aside0.mk (Kd.R_below (by (with_reducible repeat (first | apply Kd.R_alloc | apply Kd.R_drewN | apply Kd.R_drew)); exact HO328.out) hb)
    have n2_ := Aside0.mk (Kd.S_below (by (with_reducible repeat (first | apply Kd.S_alloc | apply Kd.S_drewN | apply Kd.S_drew)); exact HO331.out) hb)
    have n3_ := Aside0.mk (Kd.R_below (by (with_reducible repeat (first | apply Kd.R_alloc | apply Kd.R_drewN | apply Kd.R_drew)); exact HO335.out) hb)
    have n4_ := Aside0.mk (Kd.R_below (by (with_reducible repeat (first | apply Kd.R_alloc | apply Kd.R_drewN | apply Kd.R_drew)); exact HO338.out) hb)
    have n5_ := Aside0.mk (Kd.S_below (by (with_reducible repeat (first | apply Kd.S_alloc | apply Kd.S_drewN | apply Kd.S_drew)); exact HO341.out) hb)
    have n6_ := Aside0.mk (Kd.R_below (by (with_reducible repeat (first | apply Kd.R_alloc | apply Kd.R_drewN | apply Kd.R_drew)); exact HO346.out) hb)
    have n7_ := Aside0.mk (Kd.R_below (by (with_reducible repeat (first | apply Kd.R_alloc | apply Kd.R_drewN | apply Kd.R_drew)); exact HO349.out) hb)
    have n8_ := Aside0.mk (Kd.S_below (by (with_reducible repeat (first | apply Kd.S_alloc | apply Kd.S_drewN | apply Kd.S_drew)); exact HO352.out) hb)
    have n9_ := zk BK321 hb
    have n10_ := zk BK342 hb
    have n11_ := zt w hb
    clear HO325
    clear HO328
    clear HO331
    clear HO335
    clear HO338
    clear HO341
    clear HO346
    clear HO349
    clear HO352
    clear BK321
    clear BK342
    clear HB
    have HO325 := n0_
    have HO328 := n1_
    have HO331 := n2_
    have HO335 := n3_
    have HO338 := n4_
    have HO341 := n5_
    have HO346 := n6_
    have HO349 := n7_
    have HO352 := n8_
    have BK321 := n9_
    have BK342 := n10_
    have HB := n11_
    clear n0_ n1_ n2_ n3_ n4_ n5_ n6_ n7_ n8_ n9_ n10_ n11_
    (try clear hb)
    (try clear hb2)
    (try clear hk)
    (try clear hi)
    refine hK.out _ _ ⟨(blk_cell BK342.out 0).trans rfl, (blk_cell BK342.out 1).trans rfl, (blk_cell BK342.out 2).trans rfl, (blk_cell BK321.out 0).trans rfl, (blk_cell BK321.out 1).trans rfl, (blk_cell BK321.out 2).trans rfl⟩ (fun hHeld => ?_)
    clear hK K
    refine zq ?_
    refine pure_ (i := 4) (N := some 26) (v := ?_) (a' := ?_) (zm 5 31) rfl rfl (by kernel_rfl) (fun _ _ _ h => h) (Or.inl ⟨by rfl, ?_⟩) ?_ ?_
    rotate_left
    ·intro w'
     go_simp
     with_reducible rfl
    rotate_left
    ·simp only [Act.put, List.setIfInBounds_toArray, List.set_cons_zero, List.set_cons_succ, i64_w, i32_w]
     rfl
    refine done_ (by kernel_rfl) ?_
    try go_wp2
    go_ret
    exact ⟨ze _, zb _⟩

end Go.Proofs.Ytbbngeooodcbcaa.PFnExactObjectOk
