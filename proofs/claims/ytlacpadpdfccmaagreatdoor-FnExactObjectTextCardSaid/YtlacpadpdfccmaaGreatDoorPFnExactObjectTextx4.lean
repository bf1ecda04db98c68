/- What the Go functions that the law FnExactObjectText reaches compute, function by function, and that Go comes to just that. -/
import Derived.Test.YtlacpadpdfccmaaGreatDoorPFnExactObjectTextx0
import Derived.Test.YtlacpadpdfccmaaGreatDoorAidZ
import Derived.Test.YtlacpadpdfccmaaGreatDoorPFnExactObjectTextx1
import Derived.Test.YtlacpadpdfccmaaGreatDoorPFnExactObjectTextx2
import Derived.Test.YtlacpadpdfccmaaGreatDoorPFnExactObjectTextx3
namespace Go.Proofs.YtlacpadpdfccmaaGreatDoor.PFnExactObjectText
open Go.RowKit Go.Proofs.YtlacpadpdfccmaaGreatDoor.Z Go.Proofs.YtlacpadpdfccmaaGreatDoorW.PrintWords Go.Proofs.YtlacpadpdfccmaaGreatDoorW.PrintLast Go.Proofs.YtlacpadpdfccmaaGreatDoorW.PrintMore
attribute [local go_sem] max2_int min2_int max_two min_two max_three min_three max_four min_four   -- for this text's walks alone
set_option linter.unusedVariables false
set_option linter.unusedSimpArgs false

def laws_eqObject.f (k : Nat) (l0_0 : List (S71)) (l0_1 : List (S72)) (l0_2 : List (List (S124))) (l1_0 : List (S71)) (l1_1 : List (S72)) (l1_2 : List (List (S124))) : Option (Bool) := (laws_eqSectionS.f k l0_0 l1_0).bind fun t400 => (if t400 = true then ((laws_eqOSymS.f k l0_1 l1_1).bind fun t401 => (if t401 = true then ((laws_eqENodeSS.f k l0_2 l1_2).bind fun t402 => (if t402 = true then (some true) else (some false))) else (some false))) else (some false))
theorem laws_eqObject.mono : ∀ a0 a1 a2 a3 a4 a5 k, LeO (laws_eqObject.f k a0 a1 a2 a3 a4 a5) (laws_eqObject.f (k + 1) a0 a1 a2 a3 a4 a5) := by
  intro a0 a1 a2 a3 a4 a5 k
  unfold laws_eqObject.f
  repeat' with_reducible first | exact laws_eqENodeSS.mono _ _ _ | exact laws_eqOSymS.mono _ _ _ | exact laws_eqSectionS.mono _ _ _ | exact LeO.refl _ | exact LeO.none _ | refine LeO.ite ?_ ?_ | refine LeO.bind ?_ (fun _ => ?_)
set_option maxHeartbeats 8000000 in
set_option maxRecDepth 100000 in
theorem laws_eqObject.calls (k : Nat) (A0_0 : Option Addr) (c0_0 : Nat) (l0_0 : List (S71)) (A0_1 : Option Addr) (c0_1 : Nat) (l0_1 : List (S72)) (A0_2 : Option Addr) (c0_2 : Nat) (l0_2 : List (List (S124))) (A1_0 : Option Addr) (c1_0 : Nat) (l1_0 : List (S71)) (A1_1 : Option Addr) (c1_1 : Nat) (l1_1 : List (S72)) (A1_2 : Option Addr) (c1_2 : Nat) (l1_2 : List (List (S124))) (r : Bool) (w : World) (hr0_0 : Kd.C k71 w A0_0 l0_0.length l0_0) (hc0_0 : l0_0.length ≤ c0_0) (hr0_1 : Kd.C k72 w A0_1 l0_1.length l0_1) (hc0_1 : l0_1.length ≤ c0_1) (hr0_2 : Kd.C (Kd.slice 124 k124) w A0_2 l0_2.length l0_2) (hc0_2 : l0_2.length ≤ c0_2) (hr1_0 : Kd.C k71 w A1_0 l1_0.length l1_0) (hc1_0 : l1_0.length ≤ c1_0) (hr1_1 : Kd.C k72 w A1_1 l1_1.length l1_1) (hc1_1 : l1_1.length ≤ c1_1) (hr1_2 : Kd.C (Kd.slice 124 k124) w A1_2 l1_2.length l1_2) (hc1_2 : l1_2.length ≤ c1_2) (h : laws_eqObject.f k l0_0 l0_1 l0_2 l1_0 l1_1 l1_2 = some r) :
 Calls Tryz.prog 9 #[.agg #[.slice A0_0 l0_0.length c0_0, .slice A0_1 l0_1.length c0_1, .slice A0_2 l0_2.length c0_2], .agg #[.slice A1_0 l1_0.length c1_0, .slice A1_1 l1_1.length c1_1, .slice A1_2 l1_2.length c1_2]] w fun e w' => e = .returned (.bool r) ∧ Below w.heap.size w w' := by
 have hu33 := Tryz.underlying33
 have HR0_0 := Aside0.mk hr0_0
 have HC0_0 := Aside0.mk hc0_0
 clear hr0_0 hc0_0
 have HR0_1 := Aside0.mk hr0_1
 have HC0_1 := Aside0.mk hc0_1
 clear hr0_1 hc0_1
 have HR0_2 := Aside0.mk hr0_2
 have HC0_2 := Aside0.mk hc0_2
 clear hr0_2 hc0_2
 have HR1_0 := Aside0.mk hr1_0
 have HC1_0 := Aside0.mk hc1_0
 clear hr1_0 hc1_0
 have HR1_1 := Aside0.mk hr1_1
 have HC1_1 := Aside0.mk hc1_1
 clear hr1_1 hc1_1
 have HR1_2 := Aside0.mk hr1_2
 have HC1_2 := Aside0.mk hc1_2
 clear hr1_2 hc1_2
 have HB := Aside0.mk (Below.refl w.heap.size w)
 have H : ((laws_eqSectionS.f k l0_0 l1_0).bind fun t400 => (if t400 = true then ((laws_eqOSymS.f k l0_1 l1_1).bind fun t401 => (if t401 = true then ((laws_eqENodeSS.f k l0_2 l1_2).bind fun t402 => (if t402 = true then (some true) else (some false))) else (some false))) else (some false))) = some r := h
 clear h
 obtain ⟨t400, A30, H⟩ := Option.bind_eq_some_iff.mp H
 have A3 := Aside0.mk A30
 clear A30
 by_cases c4 : t400 = true
 ·subst c4
  rw [if_pos rfl] at H
  obtain ⟨t401, A50, H⟩ := Option.bind_eq_some_iff.mp H
  have A5 := Aside0.mk A50
  clear A50
  by_cases c6 : t401 = true
  ·subst c6
   rw [if_pos rfl] at H
   obtain ⟨t402, A70, H⟩ := Option.bind_eq_some_iff.mp H
   have A7 := Aside0.mk A70
   clear A70
   by_cases c8 : t402 = true
   ·subst c8
    rw [if_pos rfl] at H
    obtain rfl := Option.some.inj H
    go_enter Tryz.func9, Tryz.ntmps9
    go_wp2_with (first | ((with_reducible refine gate_dst (N := 2) rfl ?_); refine zbx 2 #[.slice A0_0 l0_0.length c0_0, .slice A0_1 l0_1.length c0_1, .slice A0_2 l0_2.length c0_2] 33 ?_; intro gb398 hg w9 hbox hb; have BK398 := Aside0.mk (hbox); have GW398 := zs w hg; have GE398 := GW398; replace HB := zt w hb; clear hb hbox hg) | ((with_reducible refine gate_dst (N := 3) rfl ?_); refine zbx 3 #[.slice A1_0 l1_0.length c1_0, .slice A1_1 l1_1.length c1_1, .slice A1_2 l1_2.length c1_2] 33 ?_; intro gb399 hg w10 hbox hb; have BK399 := Aside0.mk (hbox); have GW399 := zs w hg; have GE399 := GW399; have NB398_399 := zlt BK398 hg; have NB399_398 := zgt (zlt BK398 hg); replace BK398 := zk BK398 hb; replace HB := zt w hb; clear hb hbox hg; have hnb11 := NB398_399.out; have hnc11 := NB399_398.out; obtain ⟨hcz12_0, hcz12_1, hcz12_2, hfz12_0, hfz12_1, hfz12_2⟩ := zF3 BK398; obtain ⟨hcz13_0, hcz13_1, hcz13_2, hfz13_0, hfz13_1, hfz13_2⟩ := zF3 BK399) | ((with_reducible refine gate_callee (f := 24) rfl ?_); refine zc (some 9) Tryz.func24 #[.slice A0_0 l0_0.length c0_0, .slice A1_0 l1_0.length c1_0] ?_; (with_reducible refine (laws_eqSectionS.calls k _ _ l0_0 _ _ l1_0 true _ ?side1 ?side2 ?side3 ?side4 A3.out).mono ?_); (case side1 => repeat (first | exact (Kd.C_below HR0_0.out HB.out) | (with_reducible refine Kd.C_alloc ?_ _) | (with_reducible refine Kd.C_drewN ?_ _) | (with_reducible refine Kd.C_drew ?_))); (case side2 => exact HC0_0.out); (case side3 => repeat (first | exact (Kd.C_below HR1_0.out HB.out) | (with_reducible refine Kd.C_alloc ?_ _) | (with_reducible refine Kd.C_drewN ?_ _) | (with_reducible refine Kd.C_drew ?_))); (case side4 => exact HC1_0.out); rintro e w14 ⟨rfl, hb⟩; refine ⟨_, rfl, ?_⟩; replace BK398 := zk BK398 hb; replace BK399 := zk BK399 hb; replace HB := zt w hb; (try clear hb); (try clear hb2); (try clear hk); (try clear hi); obtain ⟨hcz15_0, hcz15_1, hcz15_2, hfz15_0, hfz15_1, hfz15_2⟩ := zF3 BK398; obtain ⟨hcz16_0, hcz16_1, hcz16_2, hfz16_0, hfz16_1, hfz16_2⟩ := zF3 BK399) | ((with_reducible refine gate_callee (f := 25) rfl ?_); refine zc (some 15) Tryz.func25 #[.slice A0_1 l0_1.length c0_1, .slice A1_1 l1_1.length c1_1] ?_; (with_reducible refine (laws_eqOSymS.calls k _ _ l0_1 _ _ l1_1 true _ ?side1 ?side2 ?side3 ?side4 A5.out).mono ?_); (case side1 => repeat (first | exact (Kd.C_below HR0_1.out HB.out) | (with_reducible refine Kd.C_alloc ?_ _) | (with_reducible refine Kd.C_drewN ?_ _) | (with_reducible refine Kd.C_drew ?_))); (case side2 => exact HC0_1.out); (case side3 => repeat (first | exact (Kd.C_below HR1_1.out HB.out) | (with_reducible refine Kd.C_alloc ?_ _) | (with_reducible refine Kd.C_drewN ?_ _) | (with_reducible refine Kd.C_drew ?_))); (case side4 => exact HC1_1.out); rintro e w17 ⟨rfl, hb⟩; refine ⟨_, rfl, ?_⟩; replace BK398 := zk BK398 hb; replace BK399 := zk BK399 hb; replace HB := zt w hb; (try clear hb); (try clear hb2); (try clear hk); (try clear hi); obtain ⟨hcz18_0, hcz18_1, hcz18_2, hfz18_0, hfz18_1, hfz18_2⟩ := zF3 BK398; obtain ⟨hcz19_0, hcz19_1, hcz19_2, hfz19_0, hfz19_1, hfz19_2⟩ := zF3 BK399) | ((with_reducible refine gate_callee (f := 26) rfl ?_); refine zc (some 21) Tryz.func26 #[.slice A0_2 l0_2.length c0_2, .slice A1_2 l1_2.length c1_2] ?_; (with_reducible refine (laws_eqENodeSS.calls k _ _ l0_2 _ _ l1_2 true _ ?side1 ?side2 ?side3 ?side4 A7.out).mono ?_); (case side1 => repeat (first | exact (Kd.C_below HR0_2.out HB.out) | (with_reducible refine Kd.C_alloc ?_ _) | (with_reducible refine Kd.C_drewN ?_ _) | (with_reducible refine Kd.C_drew ?_))); (case side2 => exact HC0_2.out); (case side3 => repeat (first | exact (Kd.C_below HR1_2.out HB.out) | (with_reducible refine Kd.C_alloc ?_ _) | (with_reducible refine Kd.C_drewN ?_ _) | (with_reducible refine Kd.C_drew ?_))); (case side4 => exact HC1_2.out); rintro e w20 ⟨rfl, hb⟩; refine ⟨_, rfl, ?_⟩; replace BK398 := zk BK398 hb; replace BK399 := zk BK399 hb; replace HB := zt w hb; (try clear hb); (try clear hb2); (try clear hk); (try clear hi)))
    go_ret
    exact ⟨ze _, zb _⟩
   ·replace c8 := Bool.eq_false_iff.mpr c8
    subst c8
    rw [if_neg (show ¬ (false = true) by decide)] at H
    obtain rfl := Option.some.inj H
    go_enter Tryz.func9, Tryz.ntmps9
    go_wp2_with (first | ((with_reducible refine gate_dst (N := 2) rfl ?_); refine zbx 2 #[.slice A0_0 l0_0.length c0_0, .slice A0_1 l0_1.length c0_1, .slice A0_2 l0_2.length c0_2] 33 ?_; intro gb398 hg w21 hbox hb; have BK398 := Aside0.mk (hbox); have GW398 := zs w hg; have GE398 := GW398; replace HB := zt w hb; clear hb hbox hg) | ((with_reducible refine gate_dst (N := 3) rfl ?_); refine zbx 3 #[.slice A1_0 l1_0.length c1_0, .slice A1_1 l1_1.length c1_1, .slice A1_2 l1_2.length c1_2] 33 ?_; intro gb399 hg w22 hbox hb; have BK399 := Aside0.mk (hbox); have GW399 := zs w hg; have GE399 := GW399; have NB398_399 := zlt BK398 hg; have NB399_398 := zgt (zlt BK398 hg); replace BK398 := zk BK398 hb; replace HB := zt w hb; clear hb hbox hg; have hnb23 := NB398_399.out; have hnc23 := NB399_398.out; obtain ⟨hcz24_0, hcz24_1, hcz24_2, hfz24_0, hfz24_1, hfz24_2⟩ := zF3 BK398; obtain ⟨hcz25_0, hcz25_1, hcz25_2, hfz25_0, hfz25_1, hfz25_2⟩ := zF3 BK399) | ((with_reducible refine gate_callee (f := 24) rfl ?_); refine zc (some 9) Tryz.func24 #[.slice A0_0 l0_0.length c0_0, .slice A1_0 l1_0.length c1_0] ?_; (with_reducible refine (laws_eqSectionS.calls k _ _ l0_0 _ _ l1_0 true _ ?side1 ?side2 ?side3 ?side4 A3.out).mono ?_); (case side1 => repeat (first | exact (Kd.C_below HR0_0.out HB.out) | (with_reducible refine Kd.C_alloc ?_ _) | (with_reducible refine Kd.C_drewN ?_ _) | (with_reducible refine Kd.C_drew ?_))); (case side2 => exact HC0_0.out); (case side3 => repeat (first | exact (Kd.C_below HR1_0.out HB.out) | (with_reducible refine Kd.C_alloc ?_ _) | (with_reducible refine Kd.C_drewN ?_ _) | (with_reducible refine Kd.C_drew ?_))); (case side4 => exact HC1_0.out); rintro e w26 ⟨rfl, hb⟩; refine ⟨_, rfl, ?_⟩; replace BK398 := zk BK398 hb; replace BK399 := zk BK399 hb; replace HB := zt w hb; (try clear hb); (try clear hb2); (try clear hk); (try clear hi); obtain ⟨hcz27_0, hcz27_1, hcz27_2, hfz27_0, hfz27_1, hfz27_2⟩ := zF3 BK398; obtain ⟨hcz28_0, hcz28_1, hcz28_2, hfz28_0, hfz28_1, hfz28_2⟩ := zF3 BK399) | ((with_reducible refine gate_callee (f := 25) rfl ?_); refine zc (some 15) Tryz.func25 #[.slice A0_1 l0_1.length c0_1, .slice A1_1 l1_1.length c1_1] ?_; (with_reducible refine (laws_eqOSymS.calls k _ _ l0_1 _ _ l1_1 true _ ?side1 ?side2 ?side3 ?side4 A5.out).mono ?_); (case side1 => repeat (first | exact (Kd.C_below HR0_1.out HB.out) | (with_reducible refine Kd.C_alloc ?_ _) | (with_reducible refine Kd.C_drewN ?_ _) | (with_reducible refine Kd.C_drew ?_))); (case side2 => exact HC0_1.out); (case side3 => repeat (first | exact (Kd.C_below HR1_1.out HB.out) | (with_reducible refine Kd.C_alloc ?_ _) | (with_reducible refine Kd.C_drewN ?_ _) | (with_reducible refine Kd.C_drew ?_))); (case side4 => exact HC1_1.out); rintro e w29 ⟨rfl, hb⟩; refine ⟨_, rfl, ?_⟩; replace BK398 := zk BK398 hb; replace BK399 := zk BK399 hb; replace HB := zt w hb; (try clear hb); (try clear hb2); (try clear hk); (try clear hi); obtain ⟨hcz30_0, hcz30_1, hcz30_2, hfz30_0, hfz30_1, hfz30_2⟩ := zF3 BK398; obtain ⟨hcz31_0, hcz31_1, hcz31_2, hfz31_0, hfz31_1, hfz31_2⟩ := zF3 BK399) | ((with_reducible refine gate_callee (f := 26) rfl ?_); refine zc (some 21) Tryz.func26 #[.slice A0_2 l0_2.length c0_2, .slice A1_2 l1_2.length c1_2] ?_; (with_reducible refine (laws_eqENodeSS.calls k _ _ l0_2 _ _ l1_2 false _ ?side1 ?side2 ?side3 ?side4 A7.out).mono ?_); (case side1 => repeat (first | exact (Kd.C_below HR0_2.out HB.out) | (with_reducible refine Kd.C_alloc ?_ _) | (with_reducible refine Kd.C_drewN ?_ _) | (with_reducible refine Kd.C_drew ?_))); (case side2 => exact HC0_2.out); (case side3 => repeat (first | exact (Kd.C_below HR1_2.out HB.out) | (with_reducible refine Kd.C_alloc ?_ _) | (with_reducible refine Kd.C_drewN ?_ _) | (with_reducible refine Kd.C_drew ?_))); (case side4 => exact HC1_2.out); rintro e w32 ⟨rfl, hb⟩; refine ⟨_, rfl, ?_⟩; replace BK398 := zk BK398 hb; replace BK399 := zk BK399 hb; replace HB := zt w hb; (try clear hb); (try clear hb2); (try clear hk); (try clear hi)))
    go_ret
    exact ⟨ze _, zb _⟩
  ·replace c6 := Bool.eq_false_iff.mpr c6
   subst c6
   rw [if_neg (show ¬ (false = true) by decide)] at H
   obtain rfl := Option.some.inj H
   go_enter Tryz.func9, Tryz.ntmps9
   go_wp2_with (first | ((with_reducible refine gate_dst (N := 2) rfl ?_); refine zbx 2 #[.slice A0_0 l0_0.length c0_0, .slice A0_1 l0_1.length c0_1, .slice A0_2 l0_2.length c0_2] 33 ?_; intro gb398 hg w33 hbox hb; have BK398 := Aside0.mk (hbox); have GW398 := zs w hg; have GE398 := GW398; replace HB := zt w hb; clear hb hbox hg) | ((with_reducible refine gate_dst (N := 3) rfl ?_); refine zbx 3 #[.slice A1_0 l1_0.length c1_0, .slice A1_1 l1_1.length c1_1, .slice A1_2 l1_2.length c1_2] 33 ?_; intro gb399 hg w34 hbox hb; have BK399 := Aside0.mk (hbox); have GW399 := zs w hg; have GE399 := GW399; have NB398_399 := zlt BK398 hg; have NB399_398 := zgt (zlt BK398 hg); replace BK398 := zk BK398 hb; replace HB := zt w hb; clear hb hbox hg; have hnb35 := NB398_399.out; have hnc35 := NB399_398.out; obtain ⟨hcz36_0, hcz36_1, hcz36_2, hfz36_0, hfz36_1, hfz36_2⟩ := zF3 BK398; obtain ⟨hcz37_0, hcz37_1, hcz37_2, hfz37_0, hfz37_1, hfz37_2⟩ := zF3 BK399) | ((with_reducible refine gate_callee (f := 24) rfl ?_); refine zc (some 9) Tryz.func24 #[.slice A0_0 l0_0.length c0_0, .slice A1_0 l1_0.length c1_0] ?_; (with_reducible refine (laws_eqSectionS.calls k _ _ l0_0 _ _ l1_0 true _ ?side1 ?side2 ?side3 ?side4 A3.out).mono ?_); (case side1 => repeat (first | exact (Kd.C_below HR0_0.out HB.out) | (with_reducible refine Kd.C_alloc ?_ _) | (with_reducible refine Kd.C_drewN ?_ _) | (with_reducible refine Kd.C_drew ?_))); (case side2 => exact HC0_0.out); (case side3 => repeat (first | exact (Kd.C_below HR1_0.out HB.out) | (with_reducible refine Kd.C_alloc ?_ _) | (with_reducible refine Kd.C_drewN ?_ _) | (with_reducible refine Kd.C_drew ?_))); (case side4 => exact HC1_0.out); rintro e w38 ⟨rfl, hb⟩; refine ⟨_, rfl, ?_⟩; replace BK398 := zk BK398 hb; replace BK399 := zk BK399 hb; replace HB := zt w hb; (try clear hb); (try clear hb2); (try clear hk); (try clear hi); obtain ⟨hcz39_0, hcz39_1, hcz39_2, hfz39_0, hfz39_1, hfz39_2⟩ := zF3 BK398; obtain ⟨hcz40_0, hcz40_1, hcz40_2, hfz40_0, hfz40_1, hfz40_2⟩ := zF3 BK399) | ((with_reducible refine gate_callee (f := 25) rfl ?_); refine zc (some 15) Tryz.func25 #[.slice A0_1 l0_1.length c0_1, .slice A1_1 l1_1.length c1_1] ?_; (with_reducible refine (laws_eqOSymS.calls k _ _ l0_1 _ _ l1_1 false _ ?side1 ?side2 ?side3 ?side4 A5.out).mono ?_); (case side1 => repeat (first | exact (Kd.C_below HR0_1.out HB.out) | (with_reducible refine Kd.C_alloc ?_ _) | (with_reducible refine Kd.C_drewN ?_ _) | (with_reducible refine Kd.C_drew ?_))); (case side2 => exact HC0_1.out); (case side3 => repeat (first | exact (Kd.C_below HR1_1.out HB.out) | (with_reducible refine Kd.C_alloc ?_ _) | (with_reducible refine Kd.C_drewN ?_ _) | (with_reducible refine Kd.C_drew ?_))); (case side4 => exact HC1_1.out); rintro e w41 ⟨rfl, hb⟩; refine ⟨_, rfl, ?_⟩; replace BK398 := zk BK398 hb; replace BK399 := zk BK399 hb; replace HB := zt w hb; (try clear hb); (try clear hb2); (try clear hk); (try clear hi)))
   go_ret
   exact ⟨ze _, zb _⟩
 ·replace c4 := Bool.eq_false_iff.mpr c4
  subst c4
  rw [if_neg (show ¬ (false = true) by decide)] at H
  obtain rfl := Option.some.inj H
  go_enter Tryz.func9, Tryz.ntmps9
  go_wp2_with (first | ((with_reducible refine gate_dst (N := 2) rfl ?_); refine zbx 2 #[.slice A0_0 l0_0.length c0_0, .slice A0_1 l0_1.length c0_1, .slice A0_2 l0_2.length c0_2] 33 ?_; intro gb398 hg w42 hbox hb; have BK398 := Aside0.mk (hbox); have GW398 := zs w hg; have GE398 := GW398; replace HB := zt w hb; clear hb hbox hg) | ((with_reducible refine gate_dst (N := 3) rfl ?_); refine zbx 3 #[.slice A1_0 l1_0.length c1_0, .slice A1_1 l1_1.length c1_1, .slice A1_2 l1_2.length c1_2] 33 ?_; intro gb399 hg w43 hbox hb; have BK399 := Aside0.mk (hbox); have GW399 := zs w hg; have GE399 := GW399; have NB398_399 := zlt BK398 hg; have NB399_398 := zgt (zlt BK398 hg); replace BK398 := zk BK398 hb; replace HB := zt w hb; clear hb hbox hg; have hnb44 := NB398_399.out; have hnc44 := NB399_398.out; obtain ⟨hcz45_0, hcz45_1, hcz45_2, hfz45_0, hfz45_1, hfz45_2⟩ := zF3 BK398; obtain ⟨hcz46_0, hcz46_1, hcz46_2, hfz46_0, hfz46_1, hfz46_2⟩ := zF3 BK399) | ((with_reducible refine gate_callee (f := 24) rfl ?_); refine zc (some 9) Tryz.func24 #[.slice A0_0 l0_0.length c0_0, .slice A1_0 l1_0.length c1_0] ?_; (with_reducible refine (laws_eqSectionS.calls k _ _ l0_0 _ _ l1_0 false _ ?side1 ?side2 ?side3 ?side4 A3.out).mono ?_); (case side1 => repeat (first | exact (Kd.C_below HR0_0.out HB.out) | (with_reducible refine Kd.C_alloc ?_ _) | (with_reducible refine Kd.C_drewN ?_ _) | (with_reducible refine Kd.C_drew ?_))); (case side2 => exact HC0_0.out); (case side3 => repeat (first | exact (Kd.C_below HR1_0.out HB.out) | (with_reducible refine Kd.C_alloc ?_ _) | (with_reducible refine Kd.C_drewN ?_ _) | (with_reducible refine Kd.C_drew ?_))); (case side4 => exact HC1_0.out); rintro e w47 ⟨rfl, hb⟩; refine ⟨_, rfl, ?_⟩; replace BK398 := zk BK398 hb; replace BK399 := zk BK399 hb; replace HB := zt w hb; (try clear hb); (try clear hb2); (try clear hk); (try clear hi)))
  go_ret
  exact ⟨ze _, zb _⟩

def laws_FnExactObjectText.f (k : Nat) (l0_0 : List (S62)) (l0_1 : List (S65)) (l0_2 : List (List (S119))) : Option (Bool) := (laws_szObject.f k l0_0 l0_1 l0_2 1048576).bind fun t404 => (if t404 < 0 then (some true) else ((laws_toObject.f k l0_0 l0_1 l0_2).bind fun bt405 => ((spec_ObjectText.f k bt405.1 bt405.2.1 bt405.2.2).bind fun t414 => ((laws_toObject.f k l0_0 l0_1 l0_2).bind fun bt415 => ((impl_ObjectText.f k bt415.1 bt415.2.1 bt415.2.2).bind fun t425 => (if t425.toList = t414.toList then ((laws_toObject.f k l0_0 l0_1 l0_2).bind fun bt426 => ((laws_eqObject.f k bt415.1 bt415.2.1 bt415.2.2 bt426.1 bt426.2.1 bt426.2.2).bind fun t435 => (if t435 = true then (some true) else (some false)))) else (some false)))))))
theorem laws_FnExactObjectText.mono : ∀ a0 a1 a2 k, LeO (laws_FnExactObjectText.f k a0 a1 a2) (laws_FnExactObjectText.f (k + 1) a0 a1 a2) := by
  intro a0 a1 a2 k
  unfold laws_FnExactObjectText.f
  repeat' with_reducible first | exact impl_ObjectText.mono _ _ _ _ | exact laws_eqObject.mono _ _ _ _ _ _ _ | exact laws_szObject.mono _ _ _ _ _ | exact laws_toObject.mono _ _ _ _ | exact spec_ObjectText.mono _ _ _ _ | exact LeO.refl _ | exact LeO.none _ | refine LeO.ite ?_ ?_ | refine LeO.bind ?_ (fun _ => ?_)
set_option maxHeartbeats 8000000 in
set_option maxRecDepth 100000 in
theorem laws_FnExactObjectText.calls (k : Nat) (A0_0 : Option Addr) (c0_0 : Nat) (l0_0 : List (S62)) (A0_1 : Option Addr) (c0_1 : Nat) (l0_1 : List (S65)) (A0_2 : Option Addr) (c0_2 : Nat) (l0_2 : List (List (S119))) (r : Bool) (w : World) (hr0_0 : Kd.C k62 w A0_0 l0_0.length l0_0) (hc0_0 : l0_0.length ≤ c0_0) (hr0_1 : Kd.C k65 w A0_1 l0_1.length l0_1) (hc0_1 : l0_1.length ≤ c0_1) (hr0_2 : Kd.C (Kd.slice 119 k119) w A0_2 l0_2.length l0_2) (hc0_2 : l0_2.length ≤ c0_2) (hG : GW w) (h : laws_FnExactObjectText.f k l0_0 l0_1 l0_2 = some r) :
 Calls Tryz.prog 3 #[.agg #[.slice A0_0 l0_0.length c0_0, .slice A0_1 l0_1.length c0_1, .slice A0_2 l0_2.length c0_2]] w fun e w' => e = .returned (.bool r) ∧ Below w.heap.size w w' := by
 have hu26 := Tryz.underlying26
 have hu33 := Tryz.underlying33
 have HR0_0 := Aside0.mk hr0_0
 have HC0_0 := Aside0.mk hc0_0
 clear hr0_0 hc0_0
 have HR0_1 := Aside0.mk hr0_1
 have HC0_1 := Aside0.mk hc0_1
 clear hr0_1 hc0_1
 have HR0_2 := Aside0.mk hr0_2
 have HC0_2 := Aside0.mk hc0_2
 clear hr0_2 hc0_2
 have HB := Aside0.mk (Below.refl w.heap.size w)
 have HG := Aside0.mk hG
 clear hG
 have H : ((laws_szObject.f k l0_0 l0_1 l0_2 1048576).bind fun t404 => (if t404 < 0 then (some true) else ((laws_toObject.f k l0_0 l0_1 l0_2).bind fun bt405 => ((spec_ObjectText.f k bt405.1 bt405.2.1 bt405.2.2).bind fun t414 => ((laws_toObject.f k l0_0 l0_1 l0_2).bind fun bt415 => ((impl_ObjectText.f k bt415.1 bt415.2.1 bt415.2.2).bind fun t425 => (if t425.toList = t414.toList then ((laws_toObject.f k l0_0 l0_1 l0_2).bind fun bt426 => ((laws_eqObject.f k bt415.1 bt415.2.1 bt415.2.2 bt426.1 bt426.2.1 bt426.2.2).bind fun t435 => (if t435 = true then (some true) else (some false)))) else (some false)))))))) = some r := h
 clear h
 obtain ⟨t404, A20, H⟩ := Option.bind_eq_some_iff.mp H
 have A2 := Aside0.mk A20
 clear A20
 by_cases c3 : t404 < 0
 ·rw [if_pos c3] at H
  have c3b0 : decide (t404 < 0) = true := decide_eq_true c3
  clear c3
  obtain rfl := Option.some.inj H
  go_enter Tryz.func3, Tryz.ntmps3
  go_wp2_with (first | ((with_reducible refine gate_dst (N := 1) rfl ?_); refine zbx 1 #[.slice A0_0 l0_0.length c0_0, .slice A0_1 l0_1.length c0_1, .slice A0_2 l0_2.length c0_2] 26 ?_; intro gb403 hg w4 hbox hb; have BK403 := Aside0.mk (hbox); have GW403 := zs w hg; have GE403 := GW403; replace HB := zt w hb; clear hb hbox hg; obtain ⟨hcz5_0, hcz5_1, hcz5_2, hfz5_0, hfz5_1, hfz5_2⟩ := zF3 BK403) | ((with_reducible refine gate_callee (f := 5) rfl ?_); refine zc (some 9) Tryz.func5 #[.agg #[.slice A0_0 l0_0.length c0_0, .slice A0_1 l0_1.length c0_1, .slice A0_2 l0_2.length c0_2], .int .i64 1048576] ?_; (with_reducible refine (laws_szObject.calls k _ _ l0_0 _ _ l0_1 _ _ l0_2 1048576 t404 _ ?side1 ?side2 ?side3 ?side4 ?side5 ?side6 A2.out).mono ?_); (case side1 => repeat (first | exact (Kd.C_below HR0_0.out HB.out) | (with_reducible refine Kd.C_alloc ?_ _) | (with_reducible refine Kd.C_drewN ?_ _) | (with_reducible refine Kd.C_drew ?_))); (case side2 => exact HC0_0.out); (case side3 => repeat (first | exact (Kd.C_below HR0_1.out HB.out) | (with_reducible refine Kd.C_alloc ?_ _) | (with_reducible refine Kd.C_drewN ?_ _) | (with_reducible refine Kd.C_drew ?_))); (case side4 => exact HC0_1.out); (case side5 => repeat (first | exact (Kd.C_below HR0_2.out HB.out) | (with_reducible refine Kd.C_alloc ?_ _) | (with_reducible refine Kd.C_drewN ?_ _) | (with_reducible refine Kd.C_drew ?_))); (case side6 => exact HC0_2.out); rintro e w6 ⟨rfl, hb⟩; refine ⟨_, rfl, ?_⟩; replace BK403 := zk BK403 hb; replace HB := zt w hb; (try clear hb); (try clear hb2); (try clear hk); (try clear hi)))
  go_ret
  exact ⟨ze _, zb _⟩
 ·rw [if_neg c3] at H
  have c3b0 : decide (t404 < 0) = false := decide_eq_false c3
  clear c3
  replace H := Option.bind_eq_some_iff.mp H
  obtain ⟨⟨t405, t408, t411⟩, A70, H⟩ := H
  replace H : ((spec_ObjectText.f k t405 t408 t411).bind fun t414 => ((laws_toObject.f k l0_0 l0_1 l0_2).bind fun bt415 => ((impl_ObjectText.f k bt415.1 bt415.2.1 bt415.2.2).bind fun t425 => (if t425.toList = t414.toList then ((laws_toObject.f k l0_0 l0_1 l0_2).bind fun bt426 => ((laws_eqObject.f k bt415.1 bt415.2.1 bt415.2.2 bt426.1 bt426.2.1 bt426.2.2).bind fun t435 => (if t435 = true then (some true) else (some false)))) else (some false))))) = some r := H
  have A7 := Aside0.mk A70
  clear A70
  obtain ⟨t414, A80, H⟩ := Option.bind_eq_some_iff.mp H
  have A8 := Aside0.mk A80
  clear A80
  replace H := Option.bind_eq_some_iff.mp H
  obtain ⟨⟨t415, t418, t421⟩, A90, H⟩ := H
  replace H : ((impl_ObjectText.f k t415 t418 t421).bind fun t425 => (if t425.toList = t414.toList then ((laws_toObject.f k l0_0 l0_1 l0_2).bind fun bt426 => ((laws_eqObject.f k t415 t418 t421 bt426.1 bt426.2.1 bt426.2.2).bind fun t435 => (if t435 = true then (some true) else (some false)))) else (some false))) = some r := H
  have A9 := Aside0.mk A90
  clear A90
  obtain ⟨t425, A100, H⟩ := Option.bind_eq_some_iff.mp H
  have A10 := Aside0.mk A100
  clear A100
  by_cases c11 : t425.toList = t414.toList
  ·rw [if_pos c11] at H
   have c11b0 : (t425.toList == t414.toList) = true := beq_iff_eq.mpr c11
   have c11b1 : (t425.toList != t414.toList) = false := bne_eq_false_iff_eq.mpr c11
   clear c11
   replace H := Option.bind_eq_some_iff.mp H
   obtain ⟨⟨t426, t429, t432⟩, A120, H⟩ := H
   replace H : ((laws_eqObject.f k t415 t418 t421 t426 t429 t432).bind fun t435 => (if t435 = true then (some true) else (some false))) = some r := H
   have A12 := Aside0.mk A120
   clear A120
   obtain ⟨t435, A130, H⟩ := Option.bind_eq_some_iff.mp H
   have A13 := Aside0.mk A130
   clear A130
   by_cases c14 : t435 = true
   ·subst c14
    rw [if_pos rfl] at H
    obtain rfl := Option.some.inj H
    go_enter Tryz.func3, Tryz.ntmps3
    try go_wp2_with (first | ((with_reducible refine gate_dst (N := 1) rfl ?_); refine zbx 1 #[.slice A0_0 l0_0.length c0_0, .slice A0_1 l0_1.length c0_1, .slice A0_2 l0_2.length c0_2] 26 ?_; intro gb403 hg w15 hbox hb; have BK403 := Aside0.mk (hbox); have GW403 := zs w hg; have GE403 := GW403; replace HB := zt w hb; clear hb hbox hg; obtain ⟨hcz16_0, hcz16_1, hcz16_2, hfz16_0, hfz16_1, hfz16_2⟩ := zF3 BK403) | ((with_reducible refine gate_callee (f := 5) rfl ?_); refine zc (some 9) Tryz.func5 #[.agg #[.slice A0_0 l0_0.length c0_0, .slice A0_1 l0_1.length c0_1, .slice A0_2 l0_2.length c0_2], .int .i64 1048576] ?_; (with_reducible refine (laws_szObject.calls k _ _ l0_0 _ _ l0_1 _ _ l0_2 1048576 t404 _ ?side1 ?side2 ?side3 ?side4 ?side5 ?side6 A2.out).mono ?_); (case side1 => repeat (first | exact (Kd.C_below HR0_0.out HB.out) | (with_reducible refine Kd.C_alloc ?_ _) | (with_reducible refine Kd.C_drewN ?_ _) | (with_reducible refine Kd.C_drew ?_))); (case side2 => exact HC0_0.out); (case side3 => repeat (first | exact (Kd.C_below HR0_1.out HB.out) | (with_reducible refine Kd.C_alloc ?_ _) | (with_reducible refine Kd.C_drewN ?_ _) | (with_reducible refine Kd.C_drew ?_))); (case side4 => exact HC0_1.out); (case side5 => repeat (first | exact (Kd.C_below HR0_2.out HB.out) | (with_reducible refine Kd.C_alloc ?_ _) | (with_reducible refine Kd.C_drewN ?_ _) | (with_reducible refine Kd.C_drew ?_))); (case side6 => exact HC0_2.out); rintro e w17 ⟨rfl, hb⟩; refine ⟨_, rfl, ?_⟩; replace BK403 := zk BK403 hb; replace HB := zt w hb; (try clear hb); (try clear hb2); (try clear hk); (try clear hi); obtain ⟨hcz18_0, hcz18_1, hcz18_2, hfz18_0, hfz18_1, hfz18_2⟩ := zF3 BK403) | ((with_reducible refine gate_callee (f := 7) rfl ?_); refine zc (some 13) Tryz.func7 #[.agg #[.slice A0_0 l0_0.length c0_0, .slice A0_1 l0_1.length c0_1, .slice A0_2 l0_2.length c0_2]] ?_; (with_reducible refine (laws_toObject.calls k _ _ l0_0 _ _ l0_1 _ _ l0_2 t405 t408 t411 _ ?side1 ?side2 ?side3 ?side4 ?side5 ?side6 A7.out).mono ?_); (case side1 => repeat (first | exact (Kd.C_below HR0_0.out HB.out) | (with_reducible refine Kd.C_alloc ?_ _) | (with_reducible refine Kd.C_drewN ?_ _) | (with_reducible refine Kd.C_drew ?_))); (case side2 => exact HC0_0.out); (case side3 => repeat (first | exact (Kd.C_below HR0_1.out HB.out) | (with_reducible refine Kd.C_alloc ?_ _) | (with_reducible refine Kd.C_drewN ?_ _) | (with_reducible refine Kd.C_drew ?_))); (case side4 => exact HC0_1.out); (case side5 => repeat (first | exact (Kd.C_below HR0_2.out HB.out) | (with_reducible refine Kd.C_alloc ?_ _) | (with_reducible refine Kd.C_drewN ?_ _) | (with_reducible refine Kd.C_drew ?_))); (case side6 => exact HC0_2.out); rintro e w19 ⟨v406, v409, v412, rfl, ho0, ho1, ho2, hb⟩; refine ⟨_, rfl, ?_⟩; have HO407 := Aside0.mk (Kd.R_lower ho0 (below_size (zb _))); have HO410 := Aside0.mk (Kd.R_lower ho1 (below_size (zb _))); have HO413 := Aside0.mk (Kd.S_lower ho2 (below_size (zb _))); replace BK403 := zk BK403 hb; replace HB := zt w hb; (try clear hb); (try clear hb2); (try clear hk); (try clear hi); (try clear ho0); (try clear ho1); (try clear ho2); obtain ⟨Ao20, co20, eo20⟩ := Kd.R_slice HO407.out; subst eo20; obtain ⟨Ao21, co21, eo21⟩ := Kd.R_slice HO410.out; subst eo21; obtain ⟨Ao22, co22, eo22⟩ := Kd.S_slice HO413.out; subst eo22) | ((with_reducible refine gate_callee (f := 6) rfl ?_); refine zc (some 14) Tryz.func6 #[.agg #[.slice Ao20 t405.length co20, .slice Ao21 t408.length co21, .slice Ao22 t411.length co22]] ?_; (with_reducible refine (spec_ObjectText.calls k _ _ t405 _ _ t408 _ _ t411 t414 _ ?side1 ?side2 ?side3 ?side4 ?side5 ?side6 A8.out).mono ?_); (case side1 => repeat (first | exact (Kd.R_reads' HO407.out).2.2 | (with_reducible refine Kd.C_alloc ?_ _) | (with_reducible refine Kd.C_drewN ?_ _) | (with_reducible refine Kd.C_drew ?_))); (case side2 => exact (Kd.R_reads' HO407.out).2.1); (case side3 => repeat (first | exact (Kd.R_reads' HO410.out).2.2 | (with_reducible refine Kd.C_alloc ?_ _) | (with_reducible refine Kd.C_drewN ?_ _) | (with_reducible refine Kd.C_drew ?_))); (case side4 => exact (Kd.R_reads' HO410.out).2.1); (case side5 => repeat (first | exact (Kd.S_reads' HO413.out).2.2 | (with_reducible refine Kd.C_alloc ?_ _) | (with_reducible refine Kd.C_drewN ?_ _) | (with_reducible refine Kd.C_drew ?_))); (case side6 => exact (Kd.S_reads' HO413.out).2.1); rintro e w23 ⟨rfl, hb⟩; refine ⟨_, rfl, ?_⟩; replace HO407 := Aside0.mk (Kd.R_below (by (with_reducible repeat (first | apply Kd.R_alloc | apply Kd.R_drewN | apply Kd.R_drew)); exact HO407.out) hb); replace HO410 := Aside0.mk (Kd.R_below (by (with_reducible repeat (first | apply Kd.R_alloc | apply Kd.R_drewN | apply Kd.R_drew)); exact HO410.out) hb); replace HO413 := Aside0.mk (Kd.S_below (by (with_reducible repeat (first | apply Kd.S_alloc | apply Kd.S_drewN | apply Kd.S_drew)); exact HO413.out) hb); replace BK403 := zk BK403 hb; replace HB := zt w hb; (try clear hb); (try clear hb2); (try clear hk); (try clear hi); obtain ⟨hcz24_0, hcz24_1, hcz24_2, hfz24_0, hfz24_1, hfz24_2⟩ := zF3 BK403) | ((with_reducible refine gate_callee (f := 7) rfl ?_); refine zc (some 16) Tryz.func7 #[.agg #[.slice A0_0 l0_0.length c0_0, .slice A0_1 l0_1.length c0_1, .slice A0_2 l0_2.length c0_2]] ?_; (with_reducible refine (laws_toObject.calls k _ _ l0_0 _ _ l0_1 _ _ l0_2 t415 t418 t421 _ ?side1 ?side2 ?side3 ?side4 ?side5 ?side6 A9.out).mono ?_); (case side1 => repeat (first | exact (Kd.C_below HR0_0.out HB.out) | (with_reducible refine Kd.C_alloc ?_ _) | (with_reducible refine Kd.C_drewN ?_ _) | (with_reducible refine Kd.C_drew ?_))); (case side2 => exact HC0_0.out); (case side3 => repeat (first | exact (Kd.C_below HR0_1.out HB.out) | (with_reducible refine Kd.C_alloc ?_ _) | (with_reducible refine Kd.C_drewN ?_ _) | (with_reducible refine Kd.C_drew ?_))); (case side4 => exact HC0_1.out); (case side5 => repeat (first | exact (Kd.C_below HR0_2.out HB.out) | (with_reducible refine Kd.C_alloc ?_ _) | (with_reducible refine Kd.C_drewN ?_ _) | (with_reducible refine Kd.C_drew ?_))); (case side6 => exact HC0_2.out); rintro e w25 ⟨v416, v419, v422, rfl, ho0, ho1, ho2, hb⟩; refine ⟨_, rfl, ?_⟩; have HO417 := Aside0.mk (Kd.R_lower (Kd.R_new' ho0 (Kd.R_lt (by (with_reducible repeat (first | apply Kd.R_alloc | apply Kd.R_drewN | apply Kd.R_drew)); exact HO407.out))) (below_size (zb _))); have HO420 := Aside0.mk (Kd.R_lower (Kd.R_new' ho1 (Kd.R_lt (by (with_reducible repeat (first | apply Kd.R_alloc | apply Kd.R_drewN | apply Kd.R_drew)); exact HO410.out))) (below_size (zb _))); have HO423 := Aside0.mk (Kd.S_lower (Kd.S_new' ho2 (Kd.S_lt (by (with_reducible repeat (first | apply Kd.S_alloc | apply Kd.S_drewN | apply Kd.S_drew)); exact HO413.out))) (below_size (zb _))); replace HO407 := Aside0.mk (Kd.R_elder' (by (with_reducible repeat (first | apply Kd.R_alloc | apply Kd.R_drewN | apply Kd.R_drew)); exact HO407.out) (Kd.R_base ho0) hb); replace HO410 := Aside0.mk (Kd.R_elder' (by (with_reducible repeat (first | apply Kd.R_alloc | apply Kd.R_drewN | apply Kd.R_drew)); exact HO410.out) (Kd.R_base ho1) hb); replace HO413 := Aside0.mk (Kd.S_elder' (by (with_reducible repeat (first | apply Kd.S_alloc | apply Kd.S_drewN | apply Kd.S_drew)); exact HO413.out) (Kd.S_base ho2) hb); replace BK403 := zk BK403 hb; replace HB := zt w hb; (try clear hb); (try clear hb2); (try clear hk); (try clear hi); (try clear ho0); (try clear ho1); (try clear ho2)) | ((with_reducible refine gate_dst (N := 5) rfl ?_); refine zbx 5 #[.slice none 0 0, .slice none 0 0, .slice none 0 0] 33 ?_; intro gb424 hg w26 hbox hb; have BK424 := Aside0.mk (hbox); have GW424 := zs w hg; have GE424 := GW424; have NB403_424 := zlt BK403 hg; have NB424_403 := zgt (zlt BK403 hg); replace HO407 := Aside0.mk (Kd.R_below (by (with_reducible repeat (first | apply Kd.R_alloc | apply Kd.R_drewN | apply Kd.R_drew)); exact HO407.out) hb); replace HO410 := Aside0.mk (Kd.R_below (by (with_reducible repeat (first | apply Kd.R_alloc | apply Kd.R_drewN | apply Kd.R_drew)); exact HO410.out) hb); replace HO413 := Aside0.mk (Kd.S_below (by (with_reducible repeat (first | apply Kd.S_alloc | apply Kd.S_drewN | apply Kd.S_drew)); exact HO413.out) hb); replace HO417 := Aside0.mk (Kd.R_below (by (with_reducible repeat (first | apply Kd.R_alloc | apply Kd.R_drewN | apply Kd.R_drew)); exact HO417.out) hb); replace HO420 := Aside0.mk (Kd.R_below (by (with_reducible repeat (first | apply Kd.R_alloc | apply Kd.R_drewN | apply Kd.R_drew)); exact HO420.out) hb); replace HO423 := Aside0.mk (Kd.S_below (by (with_reducible repeat (first | apply Kd.S_alloc | apply Kd.S_drewN | apply Kd.S_drew)); exact HO423.out) hb); replace BK403 := zk BK403 hb; replace HB := zt w hb; clear hb hbox hg; obtain ⟨Ao27, co27, eo27⟩ := Kd.R_slice HO417.out; subst eo27; have hnb28 := NB424_403.out; have hnc28 := NB403_424.out; obtain ⟨hcz29_0, hcz29_1, hcz29_2, hfz29_0, hfz29_1, hfz29_2⟩ := zF3 BK424; obtain ⟨Ao30, co30, eo30⟩ := Kd.R_slice HO420.out; subst eo30; obtain ⟨Ao31, co31, eo31⟩ := Kd.S_slice HO423.out; subst eo31) | ((with_reducible refine gate_callee (f := 8) rfl ?_); refine zc (some 18) Tryz.func8 #[.agg #[.slice Ao27 t415.length co27, .slice Ao30 t418.length co30, .slice Ao31 t421.length co31]] ?_; (with_reducible refine (impl_ObjectText.calls k _ _ t415 _ _ t418 _ _ t421 t425 _ ?side1 ?side2 ?side3 ?side4 ?side5 ?side6 ?side7 A10.out).mono ?_); (case side1 => refine (Kd.R_reads' (e := 71) (base := w.heap.size) (ok := fun k_ => (True ∧ some k_ ≠ (.slice Ao20 t405.length co20 : Value).ownBlock)) (n := t415.length) (c := co27) ?_).2.2; exact (by (with_reducible repeat (first | apply Kd.R_alloc | apply Kd.R_drewN | apply Kd.R_drew)); exact (Kd.R_mono (Kd.R_far (p := ⟨gb424, 2, none⟩) (Kd.R_far (p := ⟨gb424, 1, none⟩) (Kd.R_far (p := ⟨gb424, 0, none⟩) (Kd.R_types HO417.out BK424.out (by decide)) (fun _ hk => hk.2) (.slice Ao27 t415.length co27)) (fun _ hk => hk.2) (.slice Ao30 t418.length co30)) (fun _ hk => hk.2) (.slice Ao31 t421.length co31)) (fun _ h_ => h_.1)))); (case side2 => exact (Kd.R_reads' HO417.out).2.1); (case side3 => refine (Kd.R_reads' (e := 72) (base := w.heap.size) (ok := fun k_ => (True ∧ some k_ ≠ (.slice Ao21 t408.length co21 : Value).ownBlock)) (n := t418.length) (c := co30) ?_).2.2; exact (by (with_reducible repeat (first | apply Kd.R_alloc | apply Kd.R_drewN | apply Kd.R_drew)); exact (Kd.R_mono (Kd.R_far (p := ⟨gb424, 2, none⟩) (Kd.R_far (p := ⟨gb424, 1, none⟩) (Kd.R_far (p := ⟨gb424, 0, none⟩) (Kd.R_types HO420.out BK424.out (by decide)) (fun _ hk => hk.2) (.slice Ao27 t415.length co27)) (fun _ hk => hk.2) (.slice Ao30 t418.length co30)) (fun _ hk => hk.2) (.slice Ao31 t421.length co31)) (fun _ h_ => h_.1)))); (case side4 => exact (Kd.R_reads' HO420.out).2.1); (case side5 => refine (Kd.S_reads' (e := 75) (base := w.heap.size) (ok := fun k_ => (True ∧ some k_ ≠ (.slice Ao22 t411.length co22 : Value).ownBlock)) (n := t421.length) (c := co31) ?_).2.2; exact (by (with_reducible repeat (first | apply Kd.S_alloc | apply Kd.S_drewN | apply Kd.S_drew)); exact (Kd.S_mono (Kd.S_far (p := ⟨gb424, 2, none⟩) (Kd.S_far (p := ⟨gb424, 1, none⟩) (Kd.S_far (p := ⟨gb424, 0, none⟩) (Kd.S_types HO423.out BK424.out (by decide)) (fun _ hk => hk.2) (.slice Ao27 t415.length co27)) (fun _ hk => hk.2) (.slice Ao30 t418.length co30)) (fun _ hk => hk.2) (.slice Ao31 t421.length co31)) (fun _ h_ => h_.1)))); (case side6 => exact (Kd.S_reads' HO423.out).2.1); (case side7 => exact GW.below HG.out (zb _)); rintro e w32 ⟨rfl, hb⟩; refine ⟨_, rfl, ?_⟩; replace HO407 := Aside0.mk (Kd.R_below (by (with_reducible repeat (first | apply Kd.R_alloc | apply Kd.R_drewN | apply Kd.R_drew)); exact (Kd.R_mono (Kd.R_far (p := ⟨gb424, 2, none⟩) (Kd.R_far (p := ⟨gb424, 1, none⟩) (Kd.R_far (p := ⟨gb424, 0, none⟩) (Kd.R_types HO407.out BK424.out (by decide)) (fun _ hk => hk.2) (.slice Ao27 t415.length co27)) (fun _ hk => hk.2) (.slice Ao30 t418.length co30)) (fun _ hk => hk.2) (.slice Ao31 t421.length co31)) (fun _ h_ => h_.1))) hb); replace HO410 := Aside0.mk (Kd.R_below (by (with_reducible repeat (first | apply Kd.R_alloc | apply Kd.R_drewN | apply Kd.R_drew)); exact (Kd.R_mono (Kd.R_far (p := ⟨gb424, 2, none⟩) (Kd.R_far (p := ⟨gb424, 1, none⟩) (Kd.R_far (p := ⟨gb424, 0, none⟩) (Kd.R_types HO410.out BK424.out (by decide)) (fun _ hk => hk.2) (.slice Ao27 t415.length co27)) (fun _ hk => hk.2) (.slice Ao30 t418.length co30)) (fun _ hk => hk.2) (.slice Ao31 t421.length co31)) (fun _ h_ => h_.1))) hb); replace HO413 := Aside0.mk (Kd.S_below (by (with_reducible repeat (first | apply Kd.S_alloc | apply Kd.S_drewN | apply Kd.S_drew)); exact (Kd.S_mono (Kd.S_far (p := ⟨gb424, 2, none⟩) (Kd.S_far (p := ⟨gb424, 1, none⟩) (Kd.S_far (p := ⟨gb424, 0, none⟩) (Kd.S_types HO413.out BK424.out (by decide)) (fun _ hk => hk.2) (.slice Ao27 t415.length co27)) (fun _ hk => hk.2) (.slice Ao30 t418.length co30)) (fun _ hk => hk.2) (.slice Ao31 t421.length co31)) (fun _ h_ => h_.1))) hb); replace HO417 := Aside0.mk (Kd.R_below (by (with_reducible repeat (first | apply Kd.R_alloc | apply Kd.R_drewN | apply Kd.R_drew)); exact (Kd.R_mono (Kd.R_far (p := ⟨gb424, 2, none⟩) (Kd.R_far (p := ⟨gb424, 1, none⟩) (Kd.R_far (p := ⟨gb424, 0, none⟩) (Kd.R_types HO417.out BK424.out (by decide)) (fun _ hk => hk.2) (.slice Ao27 t415.length co27)) (fun _ hk => hk.2) (.slice Ao30 t418.length co30)) (fun _ hk => hk.2) (.slice Ao31 t421.length co31)) (fun _ h_ => h_.1))) hb); replace HO420 := Aside0.mk (Kd.R_below (by (with_reducible repeat (first | apply Kd.R_alloc | apply Kd.R_drewN | apply Kd.R_drew)); exact (Kd.R_mono (Kd.R_far (p := ⟨gb424, 2, none⟩) (Kd.R_far (p := ⟨gb424, 1, none⟩) (Kd.R_far (p := ⟨gb424, 0, none⟩) (Kd.R_types HO420.out BK424.out (by decide)) (fun _ hk => hk.2) (.slice Ao27 t415.length co27)) (fun _ hk => hk.2) (.slice Ao30 t418.length co30)) (fun _ hk => hk.2) (.slice Ao31 t421.length co31)) (fun _ h_ => h_.1))) hb); replace HO423 := Aside0.mk (Kd.S_below (by (with_reducible repeat (first | apply Kd.S_alloc | apply Kd.S_drewN | apply Kd.S_drew)); exact (Kd.S_mono (Kd.S_far (p := ⟨gb424, 2, none⟩) (Kd.S_far (p := ⟨gb424, 1, none⟩) (Kd.S_far (p := ⟨gb424, 0, none⟩) (Kd.S_types HO423.out BK424.out (by decide)) (fun _ hk => hk.2) (.slice Ao27 t415.length co27)) (fun _ hk => hk.2) (.slice Ao30 t418.length co30)) (fun _ hk => hk.2) (.slice Ao31 t421.length co31)) (fun _ h_ => h_.1))) hb); replace BK403 := zkw (g := gb403) (o := .cells #[.slice A0_0 l0_0.length c0_0, .slice A0_1 l0_1.length c0_1, .slice A0_2 l0_2.length c0_2] 26 (0, 0)) hb; replace BK424 := zkw (g := gb424) (o := .cells #[.slice Ao27 t415.length co27, .slice Ao30 t418.length co30, .slice Ao31 t421.length co31] 33 (0, 0)) hb; replace HB := zt w hb; (try clear hb); (try clear hb2); (try clear hk); (try clear hi)))
    have n0_ := Aside0.mk (Kd.R_drew HO407.out)
    have n1_ := Aside0.mk (Kd.R_drew HO410.out)
    have n2_ := Aside0.mk (Kd.S_drew HO413.out)
    have n3_ := Aside0.mk (Kd.R_drew HO417.out)
    have n4_ := Aside0.mk (Kd.R_drew HO420.out)
    have n5_ := Aside0.mk (Kd.S_drew HO423.out)
    have n6_ := Aside0.mk (blk_drew BK403.out)
    have n7_ := Aside0.mk (blk_drew BK424.out)
    have n8_ := Aside0.mk (below_drew1 HB.out)
    clear HO407
    clear HO410
    clear HO413
    clear HO417
    clear HO420
    clear HO423
    clear BK403
    clear BK424
    clear HB
    have HO407 := n0_
    have HO410 := n1_
    have HO413 := n2_
    have HO417 := n3_
    have HO420 := n4_
    have HO423 := n5_
    have BK403 := n6_
    have BK424 := n7_
    have HB := n8_
    clear n0_ n1_ n2_ n3_ n4_ n5_ n6_ n7_ n8_
    refine start_ (n := 5) (S := fun w' => w'.cell? ⟨gb424, 0, none⟩ = some (.slice Ao27 t415.length co27) ∧ w'.cell? ⟨gb424, 1, none⟩ = some (.slice Ao30 t418.length co30) ∧ w'.cell? ⟨gb424, 2, none⟩ = some (.slice Ao31 t421.length co31) ∧ w'.cell? ⟨gb403, 0, none⟩ = some (.slice A0_0 l0_0.length c0_0) ∧ w'.cell? ⟨gb403, 1, none⟩ = some (.slice A0_1 l0_1.length c0_1) ∧ w'.cell? ⟨gb403, 2, none⟩ = some (.slice A0_2 l0_2.length c0_2)) (ds := []) (zm 5 0) (by kernel_rfl) rfl rfl ⟨zc0 BK424, zc1 BK424, zc2 BK424, zc0 BK403, zc1 BK403, zc2 BK403⟩ (fun hHeld => ?_)
    generalize w32.drew = w33 at HO407 HO410 HO413 HO417 HO420 HO423 BK403 BK424 HB hHeld ⊢
    refine zy 0 22 (zm 5 1) hHeld ?_
    refine zy 1 23 (zm 5 3) hHeld ?_
    refine one_ (i := 2) (N := some 24) (zm 5 7) rfl rfl (by kernel_rfl) (by decide) (fun K hK => ?_)
    refine zi Tryz.func7 #[.agg #[.slice A0_0 l0_0.length c0_0, .slice A0_1 l0_1.length c0_1, .slice A0_2 l0_2.length c0_2]] ?_
    with_reducible refine (laws_toObject.calls k _ _ l0_0 _ _ l0_1 _ _ l0_2 t426 t429 t432 _ ?side1 ?side2 ?side3 ?side4 ?side5 ?side6 A12.out).mono ?_
    (case side1 => repeat (first | exact (Kd.C_below HR0_0.out HB.out) | (with_reducible refine Kd.C_alloc ?_ _) | (with_reducible refine Kd.C_drewN ?_ _) | (with_reducible refine Kd.C_drew ?_)))
    (case side2 => exact HC0_0.out)
    (case side3 => repeat (first | exact (Kd.C_below HR0_1.out HB.out) | (with_reducible refine Kd.C_alloc ?_ _) | (with_reducible refine Kd.C_drewN ?_ _) | (with_reducible refine Kd.C_drew ?_)))
    (case side4 => exact HC0_1.out)
    (case side5 => repeat (first | exact (Kd.C_below HR0_2.out HB.out) | (with_reducible refine Kd.C_alloc ?_ _) | (with_reducible refine Kd.C_drewN ?_ _) | (with_reducible refine Kd.C_drew ?_)))
    (case side6 => exact HC0_2.out)
    rintro e w34 ⟨v427, v430, v433, rfl, ho0, ho1, ho2, hb⟩
    refine ⟨_, rfl, ?_⟩
    have n0_ := Aside0.mk (Kd.R_elder' (by (with_reducible repeat (first | apply Kd.R_alloc | apply Kd.R_drewN | apply Kd.R_drew)); exact HO407.out) (Kd.R_base ho0) hb)
    have n1_ := Aside0.mk (Kd.R_elder' (by (with_reducible repeat (first | apply Kd.R_alloc | apply Kd.R_drewN | apply Kd.R_drew)); exact HO410.out) (Kd.R_base ho1) hb)
    have n2_ := Aside0.mk (Kd.S_elder' (by (with_reducible repeat (first | apply Kd.S_alloc | apply Kd.S_drewN | apply Kd.S_drew)); exact HO413.out) (Kd.S_base ho2) hb)
    have n3_ := Aside0.mk (Kd.R_elder' (by (with_reducible repeat (first | apply Kd.R_alloc | apply Kd.R_drewN | apply Kd.R_drew)); exact HO417.out) (Kd.R_base ho0) hb)
    have n4_ := Aside0.mk (Kd.R_elder' (by (with_reducible repeat (first | apply Kd.R_alloc | apply Kd.R_drewN | apply Kd.R_drew)); exact HO420.out) (Kd.R_base ho1) hb)
    have n5_ := Aside0.mk (Kd.S_elder' (by (with_reducible repeat (first | apply Kd.S_alloc | apply Kd.S_drewN | apply Kd.S_drew)); exact HO423.out) (Kd.S_base ho2) hb)
    have n6_ := Aside0.mk (Kd.R_lower (Kd.R_new' (Kd.R_new' ho0 (Kd.R_lt (by (with_reducible repeat (first | apply Kd.R_alloc | apply Kd.R_drewN | apply Kd.R_drew)); exact HO407.out))) (Kd.R_lt (by (with_reducible repeat (first | apply Kd.R_alloc | apply Kd.R_drewN | apply Kd.R_drew)); exact HO417.out))) (below_size (zb _)))
    have n7_ := Aside0.mk (Kd.R_lower (Kd.R_new' (Kd.R_new' ho1 (Kd.R_lt (by (with_reducible repeat (first | apply Kd.R_alloc | apply Kd.R_drewN | apply Kd.R_drew)); exact HO410.out))) (Kd.R_lt (by (with_reducible repeat (first | apply Kd.R_alloc | apply Kd.R_drewN | apply Kd.R_drew)); exact HO420.out))) (below_size (zb _)))
    have n8_ := Aside0.mk (Kd.S_lower (Kd.S_new' (Kd.S_new' ho2 (Kd.S_lt (by (with_reducible repeat (first | apply Kd.S_alloc | apply Kd.S_drewN | apply Kd.S_drew)); exact HO413.out))) (Kd.S_lt (by (with_reducible repeat (first | apply Kd.S_alloc | apply Kd.S_drewN | apply Kd.S_drew)); exact HO423.out))) (below_size (zb _)))
    have n9_ := zk BK403 hb
    have n10_ := zk BK424 hb
    have n11_ := zt w hb
    clear HO407
    clear HO410
    clear HO413
    clear HO417
    clear HO420
    clear HO423
    clear BK403
    clear BK424
    clear HB
    have HO407 := n0_
    have HO410 := n1_
    have HO413 := n2_
    have HO417 := n3_
    have HO420 := n4_
    have HO423 := n5_
    have HO428 := n6_
    have HO431 := n7_
    have HO434 := n8_
    have BK403 := n9_
    have BK424 := n10_
    have HB := n11_
    clear n0_ n1_ n2_ n3_ n4_ n5_ n6_ n7_ n8_ n9_ n10_ n11_
    (try clear hb)
    (try clear hb2)
    (try clear hk)
    (try clear hi)
    (try clear ho0)
    (try clear ho1)
    (try clear ho2)
    obtain ⟨Ao35, co35, eo35⟩ := Kd.R_slice HO428.out
    (first | subst eo35 | (injection eo35 with f1_ f2_ f3_; have f4_ := f1_.symm; have f5_ := f3_.symm; clear f1_ f2_ f3_; subst f4_; subst f5_))
    obtain ⟨Ao36, co36, eo36⟩ := Kd.R_slice HO431.out
    (first | subst eo36 | (injection eo36 with f1_ f2_ f3_; have f4_ := f1_.symm; have f5_ := f3_.symm; clear f1_ f2_ f3_; subst f4_; subst f5_))
    obtain ⟨Ao37, co37, eo37⟩ := Kd.S_slice HO434.out
    (first | subst eo37 | (injection eo37 with f1_ f2_ f3_; have f4_ := f1_.symm; have f5_ := f3_.symm; clear f1_ f2_ f3_; subst f4_; subst f5_))
    refine hK.out _ _ ⟨zc0 BK424, zc1 BK424, zc2 BK424, zc0 BK403, zc1 BK403, zc2 BK403⟩ (fun hHeld => ?_)
    clear hK K
    refine zq ?_
    refine one_ (i := 3) (N := some 25) (zm 5 15) rfl rfl (by kernel_rfl) (by decide) (fun K hK => ?_)
    refine zi Tryz.func9 #[.agg #[.slice Ao27 t415.length co27, .slice Ao30 t418.length co30, .slice Ao31 t421.length co31], .agg #[.slice Ao35 t426.length co35, .slice Ao36 t429.length co36, .slice Ao37 t432.length co37]] ?_
    with_reducible refine (laws_eqObject.calls k _ _ t415 _ _ t418 _ _ t421 _ _ t426 _ _ t429 _ _ t432 true _ ?side1 ?side2 ?side3 ?side4 ?side5 ?side6 ?side7 ?side8 ?side9 ?side10 ?side11 ?side12 A13.out).mono ?_
    (case side1 => repeat (first | exact (Kd.R_reads' HO417.out).2.2 | (with_reducible refine Kd.C_alloc ?_ _) | (with_reducible refine Kd.C_drewN ?_ _) | (with_reducible refine Kd.C_drew ?_)))
    (case side2 => exact (Kd.R_reads' HO417.out).2.1)
    (case side3 => repeat (first | exact (Kd.R_reads' HO420.out).2.2 | (with_reducible refine Kd.C_alloc ?_ _) | (with_reducible refine Kd.C_drewN ?_ _) | (with_reducible refine Kd.C_drew ?_)))
    (case side4 => exact (Kd.R_reads' HO420.out).2.1)
    (case side5 => repeat (first | exact (Kd.S_reads' HO423.out).2.2 | (with_reducible refine Kd.C_alloc ?_ _) | (with_reducible refine Kd.C_drewN ?_ _) | (with_reducible refine Kd.C_drew ?_)))
    (case side6 => exact (Kd.S_reads' HO423.out).2.1)
    (case side7 => repeat (first | exact (Kd.R_reads' HO428.out).2.2 | (with_reducible refine Kd.C_alloc ?_ _) | (with_reducible refine Kd.C_drewN ?_ _) | (with_reducible refine Kd.C_drew ?_)))
    (case side8 => exact (Kd.R_reads' HO428.out).2.1)
    (case side9 => repeat (first | exact (Kd.R_reads' HO431.out).2.2 | (with_reducible refine Kd.C_alloc ?_ _) | (with_reducible refine Kd.C_drewN ?_ _) | (with_reducible refine Kd.C_drew ?_)))
    (case side10 => exact (Kd.R_reads' HO431.out).2.1)
    (case side11 => repeat (first | exact (Kd.S_reads' HO434.out).2.2 | (with_reducible refine Kd.C_alloc ?_ _) | (with_reducible refine Kd.C_drewN ?_ _) | (with_reducible refine Kd.C_drew ?_)))
    (case side12 => exact (Kd.S_reads' HO434.out).2.1)
    rintro e w38 ⟨rfl, hb⟩
    refine ⟨_, rfl, ?_⟩
    have n0_ := Aside0.mk (Kd.R_below (by (with_reducible repeat (first | apply Kd.R_alloc | apply Kd.R_drewN | apply Kd.R_drew)); exact HO407.out) hb)
    have n1_ := Aside0.mk (Kd.R_below (by (with_reducible repeat (first | apply Kd.R_alloc | apply Kd.R_drewN | apply Kd.R_drew)); exact HO410.out) hb)
    have n2_ := Aside0.mk (Kd.S_below (by (with_reducible repeat (first | apply Kd.S_alloc | apply Kd.S_drewN | apply Kd.S_drew)); exact HO413.out) hb)
    have n3_ := Aside0.mk (Kd.R_below (by (with_reducible repeat (first | apply Kd.R_alloc | apply Kd.R_drewN | apply Kd.R_drew)); exact HO417.out) hb)
    have n4_ := Aside0.mk (Kd.R_below (by (with_reducible repeat (first | apply Kd.R_alloc | apply Kd.R_drewN | apply Kd.R_drew)); exact HO420.out) hb)
    have n5_ := Aside0.mk (Kd.S_below (by (with_reducible repeat (first | apply Kd.S_alloc | apply Kd.S_drewN | apply Kd.S_drew)); exact HO423.out) hb)
    have n6_ := Aside0.mk (Kd.R_below (by (with_reducible repeat (first | apply Kd.R_alloc | apply Kd.R_drewN | apply Kd.R_drew)); exact HO428.out) hb)
    have n7_ := Aside0.mk (Kd.R_below (by (with_reducible repeat (first | apply Kd.R_alloc | apply Kd.R_drewN | apply Kd.R_drew)); exact HO431.out) hb)
    have n8_ := Aside0.mk (Kd.S_below (by (with_reducible repeat (first | apply Kd.S_alloc | apply Kd.S_drewN | apply Kd.S_drew)); exact HO434.out) hb)
    have n9_ := zk BK403 hb
    have n10_ := zk BK424 hb
    have n11_ := zt w hb
    clear HO407
    clear HO410
    clear HO413
    clear HO417
    clear HO420
    clear HO423
    clear HO428
    clear HO431
    clear HO434
    clear BK403
    clear BK424
    clear HB
    have HO407 := n0_
    have HO410 := n1_
    have HO413 := n2_
    have HO417 := n3_
    have HO420 := n4_
    have HO423 := n5_
    have HO428 := n6_
    have HO431 := n7_
    have HO434 := n8_
    have BK403 := n9_
    have BK424 := n10_
    have HB := n11_
    clear n0_ n1_ n2_ n3_ n4_ n5_ n6_ n7_ n8_ n9_ n10_ n11_
    (try clear hb)
    (try clear hb2)
    (try clear hk)
    (try clear hi)
    refine hK.out _ _ ⟨zc0 BK424, zc1 BK424, zc2 BK424, zc0 BK403, zc1 BK403, zc2 BK403⟩ (fun hHeld => ?_)
    clear hK K
    refine zq ?_
    refine pure_ (i := 4) (N := some 26) (v := ?_) (a' := ?_) (zm 5 31) rfl rfl (by kernel_rfl) (fun _ _ _ h => h) (Or.inl ⟨by rfl, ?_⟩) ?_ ?_
    rotate_left
    ·intro w'
     go_simp
     with_reducible rfl
    rotate_left
    ·simp only [Act.put, List.setIfInBounds_toArray, List.set_cons_zero, List.set_cons_succ, i64_w, i32_w]
     rfl
    refine done_ (by kernel_rfl) ?_
    try go_wp2
    go_ret
    exact ⟨ze _, zb _⟩
   ·replace c14 := Bool.eq_false_iff.mpr c14
    subst c14
    rw [if_neg (show ¬ (false = true) by decide)] at H
    obtain rfl := Option.some.inj H
    go_enter Tryz.func3, Tryz.ntmps3
    try go_wp2_with (first | ((with_reducible refine gate_dst (N := 1) rfl ?_); refine zbx 1 #[.slice A0_0 l0_0.length c0_0, .slice A0_1 l0_1.length c0_1, .slice A0_2 l0_2.length c0_2] 26 ?_; intro gb403 hg w39 hbox hb; have BK403 := Aside0.mk (hbox); have GW403 := zs w hg; have GE403 := GW403; replace HB := zt w hb; clear hb hbox hg; obtain ⟨hcz40_0, hcz40_1, hcz40_2, hfz40_0, hfz40_1, hfz40_2⟩ := zF3 BK403) | ((with_reducible refine gate_callee (f := 5) rfl ?_); refine zc (some 9) Tryz.func5 #[.agg #[.slice A0_0 l0_0.length c0_0, .slice A0_1 l0_1.length c0_1, .slice A0_2 l0_2.length c0_2], .int .i64 1048576] ?_; (with_reducible refine (laws_szObject.calls k _ _ l0_0 _ _ l0_1 _ _ l0_2 1048576 t404 _ ?side1 ?side2 ?side3 ?side4 ?side5 ?side6 A2.out).mono ?_); (case side1 => repeat (first | exact (Kd.C_below HR0_0.out HB.out) | (with_reducible refine Kd.C_alloc ?_ _) | (with_reducible refine Kd.C_drewN ?_ _) | (with_reducible refine Kd.C_drew ?_))); (case side2 => exact HC0_0.out); (case side3 => repeat (first | exact (Kd.C_below HR0_1.out HB.out) | (with_reducible refine Kd.C_alloc ?_ _) | (with_reducible refine Kd.C_drewN ?_ _) | (with_reducible refine Kd.C_drew ?_))); (case side4 => exact HC0_1.out); (case side5 => repeat (first | exact (Kd.C_below HR0_2.out HB.out) | (with_reducible refine Kd.C_alloc ?_ _) | (with_reducible refine Kd.C_drewN ?_ _) | (with_reducible refine Kd.C_drew ?_))); (case side6 => exact HC0_2.out); rintro e w41 ⟨rfl, hb⟩; refine ⟨_, rfl, ?_⟩; replace BK403 := zk BK403 hb; replace HB := zt w hb; (try clear hb); (try clear hb2); (try clear hk); (try clear hi); obtain ⟨hcz42_0, hcz42_1, hcz42_2, hfz42_0, hfz42_1, hfz42_2⟩ := zF3 BK403) | ((with_reducible refine gate_callee (f := 7) rfl ?_); refine zc (some 13) Tryz.func7 #[.agg #[.slice A0_0 l0_0.length c0_0, .slice A0_1 l0_1.length c0_1, .slice A0_2 l0_2.length c0_2]] ?_; (with_reducible refine (laws_toObject.calls k _ _ l0_0 _ _ l0_1 _ _ l0_2 t405 t408 t411 _ ?side1 ?side2 ?side3 ?side4 ?side5 ?side6 A7.out).mono ?_); (case side1 => repeat (first | exact (Kd.C_below HR0_0.out HB.out) | (with_reducible refine Kd.C_alloc ?_ _) | (with_reducible refine Kd.C_drewN ?_ _) | (with_reducible refine Kd.C_drew ?_))); (case side2 => exact HC0_0.out); (case side3 => repeat (first | exact (Kd.C_below HR0_1.out HB.out) | (with_reducible refine Kd.C_alloc ?_ _) | (with_reducible refine Kd.C_drewN ?_ _) | (with_reducible refine Kd.C_drew ?_))); (case side4 => exact HC0_1.out); (case side5 => repeat (first | exact (Kd.C_below HR0_2.out HB.out) | (with_reducible refine Kd.C_alloc ?_ _) | (with_reducible refine Kd.C_drewN ?_ _) | (with_reducible refine Kd.C_drew ?_))); (case side6 => exact HC0_2.out); rintro e w43 ⟨v406, v409, v412, rfl, ho0, ho1, ho2, hb⟩; refine ⟨_, rfl, ?_⟩; have HO407 := Aside0.mk (Kd.R_lower ho0 (below_size (zb _))); have HO410 := Aside0.mk (Kd.R_lower ho1 (below_size (zb _))); have HO413 := Aside0.mk (Kd.S_lower ho2 (below_size (zb _))); replace BK403 := zk BK403 hb; replace HB := zt w hb; (try clear hb); (try clear hb2); (try clear hk); (try clear hi); (try clear ho0); (try clear ho1); (try clear ho2); obtain ⟨Ao44, co44, eo44⟩ := Kd.R_slice HO407.out; subst eo44; obtain ⟨Ao45, co45, eo45⟩ := Kd.R_slice HO410.out; subst eo45; obtain ⟨Ao46, co46, eo46⟩ := Kd.S_slice HO413.out; subst eo46) | ((with_reducible refine gate_callee (f := 6) rfl ?_); refine zc (some 14) Tryz.func6 #[.agg #[.slice Ao44 t405.length co44, .slice Ao45 t408.length co45, .slice Ao46 t411.length co46]] ?_; (with_reducible refine (spec_ObjectText.calls k _ _ t405 _ _ t408 _ _ t411 t414 _ ?side1 ?side2 ?side3 ?side4 ?side5 ?side6 A8.out).mono ?_); (case side1 => repeat (first | exact (Kd.R_reads' HO407.out).2.2 | (with_reducible refine Kd.C_alloc ?_ _) | (with_reducible refine Kd.C_drewN ?_ _) | (with_reducible refine Kd.C_drew ?_))); (case side2 => exact (Kd.R_reads' HO407.out).2.1); (case side3 => repeat (first | exact (Kd.R_reads' HO410.out).2.2 | (with_reducible refine Kd.C_alloc ?_ _) | (with_reducible refine Kd.C_drewN ?_ _) | (with_reducible refine Kd.C_drew ?_))); (case side4 => exact (Kd.R_reads' HO410.out).2.1); (case side5 => repeat (first | exact (Kd.S_reads' HO413.out).2.2 | (with_reducible refine Kd.C_alloc ?_ _) | (with_reducible refine Kd.C_drewN ?_ _) | (with_reducible refine Kd.C_drew ?_))); (case side6 => exact (Kd.S_reads' HO413.out).2.1); rintro e w47 ⟨rfl, hb⟩; refine ⟨_, rfl, ?_⟩; replace HO407 := Aside0.mk (Kd.R_below (by (with_reducible repeat (first | apply Kd.R_alloc | apply Kd.R_drewN | apply Kd.R_drew)); exact HO407.out) hb); replace HO410 := Aside0.mk (Kd.R_below (by (with_reducible repeat (first | apply Kd.R_alloc | apply Kd.R_drewN | apply Kd.R_drew)); exact HO410.out) hb); replace HO413 := Aside0.mk (Kd.S_below (by (with_reducible repeat (first | apply Kd.S_alloc | apply Kd.S_drewN | apply Kd.S_drew)); exact HO413.out) hb); replace BK403 := zk BK403 hb; replace HB := zt w hb; (try clear hb); (try clear hb2); (try clear hk); (try clear hi); obtain ⟨hcz48_0, hcz48_1, hcz48_2, hfz48_0, hfz48_1, hfz48_2⟩ := zF3 BK403) | ((with_reducible refine gate_callee (f := 7) rfl ?_); refine zc (some 16) Tryz.func7 #[.agg #[.slice A0_0 l0_0.length c0_0, .slice A0_1 l0_1.length c0_1, .slice A0_2 l0_2.length c0_2]] ?_; (with_reducible refine (laws_toObject.calls k _ _ l0_0 _ _ l0_1 _ _ l0_2 t415 t418 t421 _ ?side1 ?side2 ?side3 ?side4 ?side5 ?side6 A9.out).mono ?_); (case side1 => repeat (first | exact (Kd.C_below HR0_0.out HB.out) | (with_reducible refine Kd.C_alloc ?_ _) | (with_reducible refine Kd.C_drewN ?_ _) | (with_reducible refine Kd.C_drew ?_))); (case side2 => exact HC0_0.out); (case side3 => repeat (first | exact (Kd.C_below HR0_1.out HB.out) | (with_reducible refine Kd.C_alloc ?_ _) | (with_reducible refine Kd.C_drewN ?_ _) | (with_reducible refine Kd.C_drew ?_))); (case side4 => exact HC0_1.out); (case side5 => repeat (first | exact (Kd.C_below HR0_2.out HB.out) | (with_reducible refine Kd.C_alloc ?_ _) | (with_reducible refine Kd.C_drewN ?_ _) | (with_reducible refine Kd.C_drew ?_))); (case side6 => exact HC0_2.out); rintro e w49 ⟨v416, v419, v422, rfl, ho0, ho1, ho2, hb⟩; refine ⟨_, rfl, ?_⟩; have HO417 := Aside0.mk (Kd.R_lower (Kd.R_new' ho0 (Kd.R_lt (by (with_reducible repeat (first | apply Kd.R_alloc | apply Kd.R_drewN | apply Kd.R_drew)); exact HO407.out))) (below_size (zb _))); have HO420 := Aside0.mk (Kd.R_lower (Kd.R_new' ho1 (Kd.R_lt (by (with_reducible repeat (first | apply Kd.R_alloc | apply Kd.R_drewN | apply Kd.R_drew)); exact HO410.out))) (below_size (zb _))); have HO423 := Aside0.mk (Kd.S_lower (Kd.S_new' ho2 (Kd.S_lt (by (with_reducible repeat (first | apply Kd.S_alloc | apply Kd.S_drewN | apply Kd.S_drew)); exact HO413.out))) (below_size (zb _))); replace HO407 := Aside0.mk (Kd.R_elder' (by (with_reducible repeat (first | apply Kd.R_alloc | apply Kd.R_drewN | apply Kd.R_drew)); exact HO407.out) (Kd.R_base ho0) hb); replace HO410 := Aside0.mk (Kd.R_elder' (by (with_reducible repeat (first | apply Kd.R_alloc | apply Kd.R_drewN | apply Kd.R_drew)); exact HO410.out) (Kd.R_base ho1) hb); replace HO413 := Aside0.mk (Kd.S_elder' (by (with_reducible repeat (first | apply Kd.S_alloc | apply Kd.S_drewN | apply Kd.S_drew)); exact HO413.out) (Kd.S_base ho2) hb); replace BK403 := zk BK403 hb; replace HB := zt w hb; (try clear hb); (try clear hb2); (try clear hk); (try clear hi); (try clear ho0); (try clear ho1); (try clear ho2)) | ((with_reducible refine gate_dst (N := 5) rfl ?_); refine zbx 5 #[.slice none 0 0, .slice none 0 0, .slice none 0 0] 33 ?_; intro gb424 hg w50 hbox hb; have BK424 := Aside0.mk (hbox); have GW424 := zs w hg; have GE424 := GW424; have NB403_424 := zlt BK403 hg; have NB424_403 := zgt (zlt BK403 hg); replace HO407 := Aside0.mk (Kd.R_below (by (with_reducible repeat (first | apply Kd.R_alloc | apply Kd.R_drewN | apply Kd.R_drew)); exact HO407.out) hb); replace HO410 := Aside0.mk (Kd.R_below (by (with_reducible repeat (first | apply Kd.R_alloc | apply Kd.R_drewN | apply Kd.R_drew)); exact HO410.out) hb); replace HO413 := Aside0.mk (Kd.S_below (by (with_reducible repeat (first | apply Kd.S_alloc | apply Kd.S_drewN | apply Kd.S_drew)); exact HO413.out) hb); replace HO417 := Aside0.mk (Kd.R_below (by (with_reducible repeat (first | apply Kd.R_alloc | apply Kd.R_drewN | apply Kd.R_drew)); exact HO417.out) hb); replace HO420 := Aside0.mk (Kd.R_below (by (with_reducible repeat (first | apply Kd.R_alloc | apply Kd.R_drewN | apply Kd.R_drew)); exact HO420.out) hb); replace HO423 := Aside0.mk (Kd.S_below (by (with_reducible repeat (first | apply Kd.S_alloc | apply Kd.S_drewN | apply Kd.S_drew)); exact HO423.out) hb); replace BK403 := zk BK403 hb; replace HB := zt w hb; clear hb hbox hg; obtain ⟨Ao51, co51, eo51⟩ := Kd.R_slice HO417.out; subst eo51; have hnb52 := NB424_403.out; have hnc52 := NB403_424.out; obtain ⟨hcz53_0, hcz53_1, hcz53_2, hfz53_0, hfz53_1, hfz53_2⟩ := zF3 BK424; obtain ⟨Ao54, co54, eo54⟩ := Kd.R_slice HO420.out; subst eo54; obtain ⟨Ao55, co55, eo55⟩ := Kd.S_slice HO423.out; subst eo55) | ((with_reducible refine gate_callee (f := 8) rfl ?_); refine zc (some 18) Tryz.func8 #[.agg #[.slice Ao51 t415.length co51, .slice Ao54 t418.length co54, .slice Ao55 t421.length co55]] ?_; (with_reducible refine (impl_ObjectText.calls k _ _ t415 _ _ t418 _ _ t421 t425 _ ?side1 ?side2 ?side3 ?side4 ?side5 ?side6 ?side7 A10.out).mono ?_); (case side1 => refine (Kd.R_reads' (e := 71) (base := w.heap.size) (ok := fun k_ => (True ∧ some k_ ≠ (.slice Ao44 t405.length co44 : Value).ownBlock)) (n := t415.length) (c := co51) ?_).2.2; exact (by (with_reducible repeat (first | apply Kd.R_alloc | apply Kd.R_drewN | apply Kd.R_drew)); exact (Kd.R_mono (Kd.R_far (p := ⟨gb424, 2, none⟩) (Kd.R_far (p := ⟨gb424, 1, none⟩) (Kd.R_far (p := ⟨gb424, 0, none⟩) (Kd.R_types HO417.out BK424.out (by decide)) (fun _ hk => hk.2) (.slice Ao51 t415.length co51)) (fun _ hk => hk.2) (.slice Ao54 t418.length co54)) (fun _ hk => hk.2) (.slice Ao55 t421.length co55)) (fun _ h_ => h_.1)))); (case side2 => exact (Kd.R_reads' HO417.out).2.1); (case side3 => refine (Kd.R_reads' (e := 72) (base := w.heap.size) (ok := fun k_ => (True ∧ some k_ ≠ (.slice Ao45 t408.length co45 : Value).ownBlock)) (n := t418.length) (c := co54) ?_).2.2; exact (by (with_reducible repeat (first | apply Kd.R_alloc | apply Kd.R_drewN | apply Kd.R_drew)); exact (Kd.R_mono (Kd.R_far (p := ⟨gb424, 2, none⟩) (Kd.R_far (p := ⟨gb424, 1, none⟩) (Kd.R_far (p := ⟨gb424, 0, none⟩) (Kd.R_types HO420.out BK424.out (by decide)) (fun _ hk => hk.2) (.slice Ao51 t415.length co51)) (fun _ hk => hk.2) (.slice Ao54 t418.length co54)) (fun _ hk => hk.2) (.slice Ao55 t421.length co55)) (fun _ h_ => h_.1)))); (case side4 => exact (Kd.R_reads' HO420.out).2.1); (case side5 => refine (Kd.S_reads' (e := 75) (base := w.heap.size) (ok := fun k_ => (True ∧ some k_ ≠ (.slice Ao46 t411.length co46 : Value).ownBlock)) (n := t421.length) (c := co55) ?_).2.2; exact (by (with_reducible repeat (first | apply Kd.S_alloc | apply Kd.S_drewN | apply Kd.S_drew)); exact (Kd.S_mono (Kd.S_far (p := ⟨gb424, 2, none⟩) (Kd.S_far (p := ⟨gb424, 1, none⟩) (Kd.S_far (p := ⟨gb424, 0, none⟩) (Kd.S_types HO423.out BK424.out (by decide)) (fun _ hk => hk.2) (.slice Ao51 t415.length co51)) (fun _ hk => hk.2) (.slice Ao54 t418.length co54)) (fun _ hk => hk.2) (.slice Ao55 t421.length co55)) (fun _ h_ => h_.1)))); (case side6 => exact (Kd.S_reads' HO423.out).2.1); (case side7 => exact GW.below HG.out (zb _)); rintro e w56 ⟨rfl, hb⟩; refine ⟨_, rfl, ?_⟩; replace HO407 := Aside0.mk (Kd.R_below (by (with_reducible repeat (first | apply Kd.R_alloc | apply Kd.R_drewN | apply Kd.R_drew)); exact (Kd.R_mono (Kd.R_far (p := ⟨gb424, 2, none⟩) (Kd.R_far (p := ⟨gb424, 1, none⟩) (Kd.R_far (p := ⟨gb424, 0, none⟩) (Kd.R_types HO407.out BK424.out (by decide)) (fun _ hk => hk.2) (.slice Ao51 t415.length co51)) (fun _ hk => hk.2) (.slice Ao54 t418.length co54)) (fun _ hk => hk.2) (.slice Ao55 t421.length co55)) (fun _ h_ => h_.1))) hb); replace HO410 := Aside0.mk (Kd.R_below (by (with_reducible repeat (first | apply Kd.R_alloc | apply Kd.R_drewN | apply Kd.R_drew)); exact (Kd.R_mono (Kd.R_far (p := ⟨gb424, 2, none⟩) (Kd.R_far (p := ⟨gb424, 1, none⟩) (Kd.R_far (p := ⟨gb424, 0, none⟩) (Kd.R_types HO410.out BK424.out (by decide)) (fun _ hk => hk.2) (.slice Ao51 t415.length co51)) (fun _ hk => hk.2) (.slice Ao54 t418.length co54)) (fun _ hk => hk.2) (.slice Ao55 t421.length co55)) (fun _ h_ => h_.1))) hb); replace HO413 := Aside0.mk (Kd.S_below (by (with_reducible repeat (first | apply Kd.S_alloc | apply Kd.S_drewN | apply Kd.S_drew)); exact (Kd.S_mono (Kd.S_far (p := ⟨gb424, 2, none⟩) (Kd.S_far (p := ⟨gb424, 1, none⟩) (Kd.S_far (p := ⟨gb424, 0, none⟩) (Kd.S_types HO413.out BK424.out (by decide)) (fun _ hk => hk.2) (.slice Ao51 t415.length co51)) (fun _ hk => hk.2) (.slice Ao54 t418.length co54)) (fun _ hk => hk.2) (.slice Ao55 t421.length co55)) (fun _ h_ => h_.1))) hb); replace HO417 := Aside0.mk (Kd.R_below (by (with_reducible repeat (first | apply Kd.R_alloc | apply Kd.R_drewN | apply Kd.R_drew)); exact (Kd.R_mono (Kd.R_far (p := ⟨gb424, 2, none⟩) (Kd.R_far (p := ⟨gb424, 1, none⟩) (Kd.R_far (p := ⟨gb424, 0, none⟩) (Kd.R_types HO417.out BK424.out (by decide)) (fun _ hk => hk.2) (.slice Ao51 t415.length co51)) (fun _ hk => hk.2) (.slice Ao54 t418.length co54)) (fun _ hk => hk.2) (.slice Ao55 t421.length co55)) (fun _ h_ => h_.1))) hb); replace HO420 := Aside0.mk (Kd.R_below (by (with_reducible repeat (first | apply Kd.R_alloc | apply Kd.R_drewN | apply Kd.R_drew)); exact (Kd.R_mono (Kd.R_far (p := ⟨gb424, 2, none⟩) (Kd.R_far (p := ⟨gb424, 1, none⟩) (Kd.R_far (p := ⟨gb424, 0, none⟩) (Kd.R_types HO420.out BK424.out (by decide)) (fun _ hk => hk.2) (.slice Ao51 t415.length co51)) (fun _ hk => hk.2) (.slice Ao54 t418.length co54)) (fun _ hk => hk.2) (.slice Ao55 t421.length co55)) (fun _ h_ => h_.1))) hb); replace HO423 := Aside0.mk (Kd.S_below (by (with_reducible repeat (first | apply Kd.S_alloc | apply Kd.S_drewN | apply Kd.S_drew)); exact (Kd.S_mono (Kd.S_far (p := ⟨gb424, 2, none⟩) (Kd.S_far (p := ⟨gb424, 1, none⟩) (Kd.S_far (p := ⟨gb424, 0, none⟩) (Kd.S_types HO423.out BK424.out (by decide)) (fun _ hk => hk.2) (.slice Ao51 t415.length co51)) (fun _ hk => hk.2) (.slice Ao54 t418.length co54)) (fun _ hk => hk.2) (.slice Ao55 t421.length co55)) (fun _ h_ => h_.1))) hb); replace BK403 := zkw (g := gb403) (o := .cells #[.slice A0_0 l0_0.length c0_0, .slice A0_1 l0_1.length c0_1, .slice A0_2 l0_2.length c0_2] 26 (0, 0)) hb; replace BK424 := zkw (g := gb424) (o := .cells #[.slice Ao51 t415.length co51, .slice Ao54 t418.length co54, .slice Ao55 t421.length co55] 33 (0, 0)) hb; replace HB := zt w hb; (try clear hb); (try clear hb2); (try clear hk); (try clear hi)))
    have n0_ := Aside0.mk (Kd.R_drew HO407.out)
    have n1_ := Aside0.mk (Kd.R_drew HO410.out)
    have n2_ := Aside0.mk (Kd.S_drew HO413.out)
    have n3_ := Aside0.mk (Kd.R_drew HO417.out)
    have n4_ := Aside0.mk (Kd.R_drew HO420.out)
    have n5_ := Aside0.mk (Kd.S_drew HO423.out)
    have n6_ := Aside0.mk (blk_drew BK403.out)
    have n7_ := Aside0.mk (blk_drew BK424.out)
    have n8_ := Aside0.mk (below_drew1 HB.out)
    clear HO407
    clear HO410
    clear HO413
    clear HO417
    clear HO420
    clear HO423
    clear BK403
    clear BK424
    clear HB
    have HO407 := n0_
    have HO410 := n1_
    have HO413 := n2_
    have HO417 := n3_
    have HO420 := n4_
    have HO423 := n5_
    have BK403 := n6_
    have BK424 := n7_
    have HB := n8_
    clear n0_ n1_ n2_ n3_ n4_ n5_ n6_ n7_ n8_
    refine start_ (n := 5) (S := fun w' => w'.cell? ⟨gb424, 0, none⟩ = some (.slice Ao51 t415.length co51) ∧ w'.cell? ⟨gb424, 1, none⟩ = some (.slice Ao54 t418.length co54) ∧ w'.cell? ⟨gb424, 2, none⟩ = some (.slice Ao55 t421.length co55) ∧ w'.cell? ⟨gb403, 0, none⟩ = some (.slice A0_0 l0_0.length c0_0) ∧ w'.cell? ⟨gb403, 1, none⟩ = some (.slice A0_1 l0_1.length c0_1) ∧ w'.cell? ⟨gb403, 2, none⟩ = some (.slice A0_2 l0_2.length c0_2)) (ds := []) (zm 5 0) (by kernel_rfl) rfl rfl ⟨zc0 BK424, zc1 BK424, zc2 BK424, zc0 BK403, zc1 BK403, zc2 BK403⟩ (fun hHeld => ?_)
    generalize w56.drew = w57 at HO407 HO410 HO413 HO417 HO420 HO423 BK403 BK424 HB hHeld ⊢
    refine zy 0 22 (zm 5 1) hHeld ?_
    refine zy 1 23 (zm 5 3) hHeld ?_
    refine one_ (i := 2) (N := some 24) (zm 5 7) rfl rfl (by kernel_rfl) (by decide) (fun K hK => ?_)
    refine zi Tryz.func7 #[.agg #[.slice A0_0 l0_0.length c0_0, .slice A0_1 l0_1.length c0_1, .slice A0_2 l0_2.length c0_2]] ?_
    with_reducible refine (laws_toObject.calls k _ _ l0_0 _ _ l0_1 _ _ l0_2 t426 t429 t432 _ ?side1 ?side2 ?side3 ?side4 ?side5 ?side6 A12.out).mono ?_
    (case side1 => repeat (first | exact (Kd.C_below HR0_0.out HB.out) | (with_reducible refine Kd.C_alloc ?_ _) | (with_reducible refine Kd.C_drewN ?_ _) | (with_reducible refine Kd.C_drew ?_)))
    (case side2 => exact HC0_0.out)
    (case side3 => repeat (first | exact (Kd.C_below HR0_1.out HB.out) | (with_reducible refine Kd.C_alloc ?_ _) | (with_reducible refine Kd.C_drewN ?_ _) | (with_reducible refine Kd.C_drew ?_)))
    (case side4 => exact HC0_1.out)
    (case side5 => repeat (first | exact (Kd.C_below HR0_2.out HB.out) | (with_reducible refine Kd.C_alloc ?_ _) | (with_reducible refine Kd.C_drewN ?_ _) | (with_reducible refine Kd.C_drew ?_)))
    (case side6 => exact HC0_2.out)
    rintro e w58 ⟨v427, v430, v433, rfl, ho0, ho1, ho2, hb⟩
    refine ⟨_, rfl, ?_⟩
    have n0_ := Aside0.mk (Kd.R_elder' (by (with_reducible repeat (first | apply Kd.R_alloc | apply Kd.R_drewN | apply Kd.R_drew)); exact HO407.out) (Kd.R_base ho0) hb)
    have n1_ := Aside0.mk (Kd.R_elder' (by (with_reducible repeat (first | apply Kd.R_alloc | apply Kd.R_drewN | apply Kd.R_drew)); exact HO410.out) (Kd.R_base ho1) hb)
    have n2_ := Aside0.mk (Kd.S_elder' (by (with_reducible repeat (first | apply Kd.S_alloc | apply Kd.S_drewN | apply Kd.S_drew)); exact HO413.out) (Kd.S_base ho2) hb)
    have n3_ := Aside0.mk (Kd.R_elder' (by (with_reducible repeat (first | apply Kd.R_alloc | apply Kd.R_drewN | apply Kd.R_drew)); exact HO417.out) (Kd.R_base ho0) hb)
    have n4_ := Aside0.mk (Kd.R_elder' (by (with_reducible repeat (first | apply Kd.R_alloc | apply Kd.R_drewN | apply Kd.R_drew)); exact HO420.out) (Kd.R_base ho1) hb)
    have n5_ := Aside0.mk (Kd.S_elder' (by (with_reducible repeat (first | apply Kd.S_alloc | apply Kd.S_drewN | apply Kd.S_drew)); exact HO423.out) (Kd.S_base ho2) hb)
    have n6_ := Aside0.mk (Kd.R_lower (Kd.R_new' (Kd.R_new' ho0 (Kd.R_lt (by (with_reducible repeat (first | apply Kd.R_alloc | apply Kd.R_drewN | apply Kd.R_drew)); exact HO407.out))) (Kd.R_lt (by (with_reducible repeat (first | apply Kd.R_alloc | apply Kd.R_drewN | apply Kd.R_drew)); exact HO417.out))) (below_size (zb _)))
    have n7_ := Aside0.mk (Kd.R_lower (Kd.R_new' (Kd.R_new' ho1 (Kd.R_lt (by (with_reducible repeat (first | apply Kd.R_alloc | apply Kd.R_drewN | apply Kd.R_drew)); exact HO410.out))) (Kd.R_lt (by (with_reducible repeat (first | apply Kd.R_alloc | apply Kd.R_drewN | apply Kd.R_drew)); exact HO420.out))) (below_size (zb _)))
    have n8_ := Aside0.mk (Kd.S_lower (Kd.S_new' (Kd.S_new' ho2 (Kd.S_lt (by (with_reducible repeat (first | apply Kd.S_alloc | apply Kd.S_drewN | apply Kd.S_drew)); exact HO413.out))) (Kd.S_lt (by (with_reducible repeat (first | apply Kd.S_alloc | apply Kd.S_drewN | apply Kd.S_drew)); exact HO423.out))) (below_size (zb _)))
    have n9_ := zk BK403 hb
    have n10_ := zk BK424 hb
    have n11_ := zt w hb
    clear HO407
    clear HO410
    clear HO413
    clear HO417
    clear HO420
    clear HO423
    clear BK403
    clear BK424
    clear HB
    have HO407 := n0_
    have HO410 := n1_
    have HO413 := n2_
    have HO417 := n3_
    have HO420 := n4_
    have HO423 := n5_
    have HO428 := n6_
    have HO431 := n7_
    have HO434 := n8_
    have BK403 := n9_
    have BK424 := n10_
    have HB := n11_
    clear n0_ n1_ n2_ n3_ n4_ n5_ n6_ n7_ n8_ n9_ n10_ n11_
    (try clear hb)
    (try clear hb2)
    (try clear hk)
    (try clear hi)
    (try clear ho0)
    (try clear ho1)
    (try clear ho2)
    obtain ⟨Ao59, co59, eo59⟩ := Kd.R_slice HO428.out
    (first | subst eo59 | (injection eo59 with f1_ f2_ f3_; have f4_ := f1_.symm; have f5_ := f3_.symm; clear f1_ f2_ f3_; subst f4_; subst f5_))
    obtain ⟨Ao60, co60, eo60⟩ := Kd.R_slice HO431.out
    (first | subst eo60 | (injection eo60 with f1_ f2_ f3_; have f4_ := f1_.symm; have f5_ := f3_.symm; clear f1_ f2_ f3_; subst f4_; subst f5_))
    obtain ⟨Ao61, co61, eo61⟩ := Kd.S_slice HO434.out
    (first | subst eo61 | (injection eo61 with f1_ f2_ f3_; have f4_ := f1_.symm; have f5_ := f3_.symm; clear f1_ f2_ f3_; subst f4_; subst f5_))
    refine hK.out _ _ ⟨zc0 BK424, zc1 BK424, zc2 BK424, zc0 BK403, zc1 BK403, zc2 BK403⟩ (fun hHeld => ?_)
    clear hK K
    refine zq ?_
    refine one_ (i := 3) (N := some 25) (zm 5 15) rfl rfl (by kernel_rfl) (by decide) (fun K hK => ?_)
    refine zi Tryz.func9 #[.agg #[.slice Ao51 t415.length co51, .slice Ao54 t418.length co54, .slice Ao55 t421.length co55], .agg #[.slice Ao59 t426.length co59, .slice Ao60 t429.length co60, .slice Ao61 t432.length co61]] ?_
    with_reducible refine (laws_eqObject.calls k _ _ t415 _ _ t418 _ _ t421 _ _ t426 _ _ t429 _ _ t432 false _ ?side1 ?side2 ?side3 ?side4 ?side5 ?side6 ?side7 ?side8 ?side9 ?side10 ?side11 ?side12 A13.out).mono ?_
    (case side1 => repeat (first | exact (Kd.R_reads' HO417.out).2.2 | (with_reducible refine Kd.C_alloc ?_ _) | (with_reducible refine Kd.C_drewN ?_ _) | (with_reducible refine Kd.C_drew ?_)))
    (case side2 => exact (Kd.R_reads' HO417.out).2.1)
    (case side3 => repeat (first | exact (Kd.R_reads' HO420.out).2.2 | (with_reducible refine Kd.C_alloc ?_ _) | (with_reducible refine Kd.C_drewN ?_ _) | (with_reducible refine Kd.C_drew ?_)))
    (case side4 => exact (Kd.R_reads' HO420.out).2.1)
    (case side5 => repeat (first | exact (Kd.S_reads' HO423.out).2.2 | (with_reducible refine Kd.C_alloc ?_ _) | (with_reducible refine Kd.C_drewN ?_ _) | (with_reducible refine Kd.C_drew ?_)))
    (case side6 => exact (Kd.S_reads' HO423.out).2.1)
    (case side7 => repeat (first | exact (Kd.R_reads' HO428.out).2.2 | (with_reducible refine Kd.C_alloc ?_ _) | (with_reducible refine Kd.C_drewN ?_ _) | (with_reducible refine Kd.C_drew ?_)))
    (case side8 => exact (Kd.R_reads' HO428.out).2.1)
    (case side9 => repeat (first | exact (Kd.R_reads' HO431.out).2.2 | (with_reducible refine Kd.C_alloc ?_ _) | (with_reducible refine Kd.C_drewN ?_ _) | (with_reducible refine Kd.C_drew ?_)))
    (case side10 => exact (Kd.R_reads' HO431.out).2.1)
    (case side11 => repeat (first | exact (Kd.S_reads' HO434.out).2.2 | (with_reducible refine Kd.C_alloc ?_ _) | (with_reducible refine Kd.C_drewN ?_ _) | (with_reducible refine Kd.C_drew ?_)))
    (case side12 => exact (Kd.S_reads' HO434.out).2.1)
    rintro e w62 ⟨rfl, hb⟩
    refine ⟨_, rfl, ?_⟩
    have n0_ := Aside0.mk (Kd.R_below (by (with_reducible repeat (first | apply Kd.R_alloc | apply Kd.R_drewN | apply Kd.R_drew)); exact HO407.out) hb)
    have n1_ := Aside0.mk (Kd.R_below (by (with_reducible repeat (first | apply Kd.R_alloc | apply Kd.R_drewN | apply Kd.R_drew)); exact HO410.out) hb)
    have n2_ := Aside0.mk (Kd.S_below (by (with_reducible repeat (first | apply Kd.S_alloc | apply Kd.S_drewN | apply Kd.S_drew)); exact HO413.out) hb)
    have n3_ := Aside0.mk (Kd.R_below (by (with_reducible repeat (first | apply Kd.R_alloc | apply Kd.R_drewN | apply Kd.R_drew)); exact HO417.out) hb)
    have n4_ := Aside0.mk (Kd.R_below (by (with_reducible repeat (first | apply Kd.R_alloc | apply Kd.R_drewN | apply Kd.R_drew)); exact HO420.out) hb)
    have n5_ := Aside0.mk (Kd.S_below (by (with_reducible repeat (first | apply Kd.S_alloc | apply Kd.S_drewN | apply Kd.S_drew)); exact HO423.out) hb)
    have n6_ := Aside0.mk (Kd.R_below (by (with_reducible repeat (first | apply Kd.R_alloc | apply Kd.R_drewN | apply Kd.R_drew)); exact HO428.out) hb)
    have n7_ := Aside0.mk (Kd.R_below (by (with_reducible repeat (first | apply Kd.R_alloc | apply Kd.R_drewN | apply Kd.R_drew)); exact HO431.out) hb)
    have n8_ := Aside0.mk (Kd.S_below (by (with_reducible repeat (first | apply Kd.S_alloc | apply Kd.S_drewN | apply Kd.S_drew)); exact HO434.out) hb)
    have n9_ := zk BK403 hb
    have n10_ := zk BK424 hb
    have n11_ := zt w hb
    clear HO407
    clear HO410
    clear HO413
    clear HO417
    clear HO420
    clear HO423
    clear HO428
    clear HO431
    clear HO434
    clear BK403
    clear BK424
    clear HB
    have HO407 := n0_
    have HO410 := n1_
    have HO413 := n2_
    have HO417 := n3_
    have HO420 := n4_
    have HO423 := n5_
    have HO428 := n6_
    have HO431 := n7_
    have HO434 := n8_
    have BK403 := n9_
    have BK424 := n10_
    have HB := n11_
    clear n0_ n1_ n2_ n3_ n4_ n5_ n6_ n7_ n8_ n9_ n10_ n11_
    (try clear hb)
    (try clear hb2)
    (try clear hk)
    (try clear hi)
    refine hK.out _ _ ⟨zc0 BK424, zc1 BK424, zc2 BK424, zc0 BK403, zc1 BK403, zc2 BK403⟩ (fun hHeld => ?_)
    clear hK K
    refine zq ?_
    refine pure_ (i := 4) (N := some 26) (v := ?_) (a' := ?_) (zm 5 31) rfl rfl (by kernel_rfl) (fun _ _ _ h => h) (Or.inl ⟨by rfl, ?_⟩) ?_ ?_
    rotate_left
    ·intro w'
     go_simp
     with_reducible rfl
    rotate_left
    ·simp only [Act.put, List.setIfInBounds_toArray, List.set_cons_zero, List.set_cons_succ, i64_w, i32_w]
     rfl
    refine done_ (by kernel_rfl) ?_
    try go_wp2
    go_ret
    exact ⟨ze _, zb _⟩
  ·rw [if_neg c11] at H
   have c11b0 : (t425.toList == t414.toList) = false := beq_eq_false_iff_ne.mpr c11
   have c11b1 : (t425.toList != t414.toList) = true := bne_iff_ne.mpr c11
   obtain rfl := Option.some.inj H
   go_enter Tryz.func3, Tryz.ntmps3
   go_wp2_with (first | ((with_reducible refine gate_dst (N := 1) rfl ?_); refine zbx 1 #[.slice A0_0 l0_0.length c0_0, .slice A0_1 l0_1.length c0_1, .slice A0_2 l0_2.length c0_2] 26 ?_; intro gb403 hg w63 hbox hb; have BK403 := Aside0.mk (hbox); have GW403 := zs w hg; have GE403 := GW403; replace HB := zt w hb; clear hb hbox hg; obtain ⟨hcz64_0, hcz64_1, hcz64_2, hfz64_0, hfz64_1, hfz64_2⟩ := zF3 BK403) | ((with_reducible refine gate_callee (f := 5) rfl ?_); refine zc (some 9) Tryz.func5 #[.agg #[.slice A0_0 l0_0.length c0_0, .slice A0_1 l0_1.length c0_1, .slice A0_2 l0_2.length c0_2], .int .i64 1048576] ?_; (with_reducible refine (laws_szObject.calls k _ _ l0_0 _ _ l0_1 _ _ l0_2 1048576 t404 _ ?side1 ?side2 ?side3 ?side4 ?side5 ?side6 A2.out).mono ?_); (case side1 => repeat (first | exact (Kd.C_below HR0_0.out HB.out) | (with_reducible refine Kd.C_alloc ?_ _) | (with_reducible refine Kd.C_drewN ?_ _) | (with_reducible refine Kd.C_drew ?_))); (case side2 => exact HC0_0.out); (case side3 => repeat (first | exact (Kd.C_below HR0_1.out HB.out) | (with_reducible refine Kd.C_alloc ?_ _) | (with_reducible refine Kd.C_drewN ?_ _) | (with_reducible refine Kd.C_drew ?_))); (case side4 => exact HC0_1.out); (case side5 => repeat (first | exact (Kd.C_below HR0_2.out HB.out) | (with_reducible refine Kd.C_alloc ?_ _) | (with_reducible refine Kd.C_drewN ?_ _) | (with_reducible refine Kd.C_drew ?_))); (case side6 => exact HC0_2.out); rintro e w65 ⟨rfl, hb⟩; refine ⟨_, rfl, ?_⟩; replace BK403 := zk BK403 hb; replace HB := zt w hb; (try clear hb); (try clear hb2); (try clear hk); (try clear hi); obtain ⟨hcz66_0, hcz66_1, hcz66_2, hfz66_0, hfz66_1, hfz66_2⟩ := zF3 BK403) | ((with_reducible refine gate_callee (f := 7) rfl ?_); refine zc (some 13) Tryz.func7 #[.agg #[.slice A0_0 l0_0.length c0_0, .slice A0_1 l0_1.length c0_1, .slice A0_2 l0_2.length c0_2]] ?_; (with_reducible refine (laws_toObject.calls k _ _ l0_0 _ _ l0_1 _ _ l0_2 t405 t408 t411 _ ?side1 ?side2 ?side3 ?side4 ?side5 ?side6 A7.out).mono ?_); (case side1 => repeat (first | exact (Kd.C_below HR0_0.out HB.out) | (with_reducible refine Kd.C_alloc ?_ _) | (with_reducible refine Kd.C_drewN ?_ _) | (with_reducible refine Kd.C_drew ?_))); (case side2 => exact HC0_0.out); (case side3 => repeat (first | exact (Kd.C_below HR0_1.out HB.out) | (with_reducible refine Kd.C_alloc ?_ _) | (with_reducible refine Kd.C_drewN ?_ _) | (with_reducible refine Kd.C_drew ?_))); (case side4 => exact HC0_1.out); (case side5 => repeat (first | exact (Kd.C_below HR0_2.out HB.out) | (with_reducible refine Kd.C_alloc ?_ _) | (with_reducible refine Kd.C_drewN ?_ _) | (with_reducible refine Kd.C_drew ?_))); (case side6 => exact HC0_2.out); rintro e w67 ⟨v406, v409, v412, rfl, ho0, ho1, ho2, hb⟩; refine ⟨_, rfl, ?_⟩; have HO407 := Aside0.mk (Kd.R_lower ho0 (below_size (zb _))); have HO410 := Aside0.mk (Kd.R_lower ho1 (below_size (zb _))); have HO413 := Aside0.mk (Kd.S_lower ho2 (below_size (zb _))); replace BK403 := zk BK403 hb; replace HB := zt w hb; (try clear hb); (try clear hb2); (try clear hk); (try clear hi); (try clear ho0); (try clear ho1); (try clear ho2); obtain ⟨Ao68, co68, eo68⟩ := Kd.R_slice HO407.out; subst eo68; obtain ⟨Ao69, co69, eo69⟩ := Kd.R_slice HO410.out; subst eo69; obtain ⟨Ao70, co70, eo70⟩ := Kd.S_slice HO413.out; subst eo70) | ((with_reducible refine gate_callee (f := 6) rfl ?_); refine zc (some 14) Tryz.func6 #[.agg #[.slice Ao68 t405.length co68, .slice Ao69 t408.length co69, .slice Ao70 t411.length co70]] ?_; (with_reducible refine (spec_ObjectText.calls k _ _ t405 _ _ t408 _ _ t411 t414 _ ?side1 ?side2 ?side3 ?side4 ?side5 ?side6 A8.out).mono ?_); (case side1 => repeat (first | exact (Kd.R_reads' HO407.out).2.2 | (with_reducible refine Kd.C_alloc ?_ _) | (with_reducible refine Kd.C_drewN ?_ _) | (with_reducible refine Kd.C_drew ?_))); (case side2 => exact (Kd.R_reads' HO407.out).2.1); (case side3 => repeat (first | exact (Kd.R_reads' HO410.out).2.2 | (with_reducible refine Kd.C_alloc ?_ _) | (with_reducible refine Kd.C_drewN ?_ _) | (with_reducible refine Kd.C_drew ?_))); (case side4 => exact (Kd.R_reads' HO410.out).2.1); (case side5 => repeat (first | exact (Kd.S_reads' HO413.out).2.2 | (with_reducible refine Kd.C_alloc ?_ _) | (with_reducible refine Kd.C_drewN ?_ _) | (with_reducible refine Kd.C_drew ?_))); (case side6 => exact (Kd.S_reads' HO413.out).2.1); rintro e w71 ⟨rfl, hb⟩; refine ⟨_, rfl, ?_⟩; replace HO407 := Aside0.mk (Kd.R_below (by (with_reducible repeat (first | apply Kd.R_alloc | apply Kd.R_drewN | apply Kd.R_drew)); exact HO407.out) hb); replace HO410 := Aside0.mk (Kd.R_below (by (with_reducible repeat (first | apply Kd.R_alloc | apply Kd.R_drewN | apply Kd.R_drew)); exact HO410.out) hb); replace HO413 := Aside0.mk (Kd.S_below (by (with_reducible repeat (first | apply Kd.S_alloc | apply Kd.S_drewN | apply Kd.S_drew)); exact HO413.out) hb); replace BK403 := zk BK403 hb; replace HB := zt w hb; (try clear hb); (try clear hb2); (try clear hk); (try clear hi); obtain ⟨hcz72_0, hcz72_1, hcz72_2, hfz72_0, hfz72_1, hfz72_2⟩ := zF3 BK403) | ((with_reducible refine gate_callee (f := 7) rfl ?_); refine zc (some 16) Tryz.func7 #[.agg #[.slice A0_0 l0_0.length c0_0, .slice A0_1 l0_1.length c0_1, .slice A0_2 l0_2.length c0_2]] ?_; (with_reducible refine (laws_toObject.calls k _ _ l0_0 _ _ l0_1 _ _ l0_2 t415 t418 t421 _ ?side1 ?side2 ?side3 ?side4 ?side5 ?side6 A9.out).mono ?_); (case side1 => repeat (first | exact (Kd.C_below HR0_0.out HB.out) | (with_reducible refine Kd.C_alloc ?_ _) | (with_reducible refine Kd.C_drewN ?_ _) | (with_reducible refine Kd.C_drew ?_))); (case side2 => exact HC0_0.out); (case side3 => repeat (first | exact (Kd.C_below HR0_1.out HB.out) | (with_reducible refine Kd.C_alloc ?_ _) | (with_reducible refine Kd.C_drewN ?_ _) | (with_reducible refine Kd.C_drew ?_))); (case side4 => exact HC0_1.out); (case side5 => repeat (first | exact (Kd.C_below HR0_2.out HB.out) | (with_reducible refine Kd.C_alloc ?_ _) | (with_reducible refine Kd.C_drewN ?_ _) | (with_reducible refine Kd.C_drew ?_))); (case side6 => exact HC0_2.out); rintro e w73 ⟨v416, v419, v422, rfl, ho0, ho1, ho2, hb⟩; refine ⟨_, rfl, ?_⟩; have HO417 := Aside0.mk (Kd.R_lower (Kd.R_new' ho0 (Kd.R_lt (by (with_reducible repeat (first | apply Kd.R_alloc | apply Kd.R_drewN | apply Kd.R_drew)); exact HO407.out))) (below_size (zb _))); have HO420 := Aside0.mk (Kd.R_lower (Kd.R_new' ho1 (Kd.R_lt (by (with_reducible repeat (first | apply Kd.R_alloc | apply Kd.R_drewN | apply Kd.R_drew)); exact HO410.out))) (below_size (zb _))); have HO423 := Aside0.mk (Kd.S_lower (Kd.S_new' ho2 (Kd.S_lt (by (with_reducible repeat (first | apply Kd.S_alloc | apply Kd.S_drewN | apply Kd.S_drew)); exact HO413.out))) (below_size (zb _))); replace HO407 := Aside0.mk (Kd.R_elder' (by (with_reducible repeat (first | apply Kd.R_alloc | apply Kd.R_drewN | apply Kd.R_drew)); exact HO407.out) (Kd.R_base ho0) hb); replace HO410 := Aside0.mk (Kd.R_elder' (by (with_reducible repeat (first | apply Kd.R_alloc | apply Kd.R_drewN | apply Kd.R_drew)); exact HO410.out) (Kd.R_base ho1) hb); replace HO413 := Aside0.mk (Kd.S_elder' (by (with_reducible repeat (first | apply Kd.S_alloc | apply Kd.S_drewN | apply Kd.S_drew)); exact HO413.out) (Kd.S_base ho2) hb); replace BK403 := zk BK403 hb; replace HB := zt w hb; (try clear hb); (try clear hb2); (try clear hk); (try clear hi); (try clear ho0); (try clear ho1); (try clear ho2)) | ((with_reducible refine gate_dst (N := 5) rfl ?_); refine zbx 5 #[.slice none 0 0, .slice none 0 0, .slice none 0 0] 33 ?_; intro gb424 hg w74 hbox hb; have BK424 := Aside0.mk (hbox); have GW424 := zs w hg; have GE424 := GW424; have NB403_424 := zlt BK403 hg; have NB424_403 := zgt (zlt BK403 hg); replace HO407 := Aside0.mk (Kd.R_below (by (with_reducible repeat (first | apply Kd.R_alloc | apply Kd.R_drewN | apply Kd.R_drew)); exact HO407.out) hb); replace HO410 := Aside0.mk (Kd.R_below (by (with_reducible repeat (first | apply Kd.R_alloc | apply Kd.R_drewN | apply Kd.R_drew)); exact HO410.out) hb); replace HO413 := Aside0.mk (Kd.S_below (by (with_reducible repeat (first | apply Kd.S_alloc | apply Kd.S_drewN | apply Kd.S_drew)); exact HO413.out) hb); replace HO417 := Aside0.mk (Kd.R_below (by (with_reducible repeat (first | apply Kd.R_alloc | apply Kd.R_drewN | apply Kd.R_drew)); exact HO417.out) hb); replace HO420 := Aside0.mk (Kd.R_below (by (with_reducible repeat (first | apply Kd.R_alloc | apply Kd.R_drewN | apply Kd.R_drew)); exact HO420.out) hb); replace HO423 := Aside0.mk (Kd.S_below (by (with_reducible repeat (first | apply Kd.S_alloc | apply Kd.S_drewN | apply Kd.S_drew)); exact HO423.out) hb); replace BK403 := zk BK403 hb; replace HB := zt w hb; clear hb hbox hg; obtain ⟨Ao75, co75, eo75⟩ := Kd.R_slice HO417.out; subst eo75; have hnb76 := NB424_403.out; have hnc76 := NB403_424.out; obtain ⟨hcz77_0, hcz77_1, hcz77_2, hfz77_0, hfz77_1, hfz77_2⟩ := zF3 BK424; obtain ⟨Ao78, co78, eo78⟩ := Kd.R_slice HO420.out; subst eo78; obtain ⟨Ao79, co79, eo79⟩ := Kd.S_slice HO423.out; subst eo79) | ((with_reducible refine gate_callee (f := 8) rfl ?_); refine zc (some 18) Tryz.func8 #[.agg #[.slice Ao75 t415.length co75, .slice Ao78 t418.length co78, .slice Ao79 t421.length co79]] ?_; (with_reducible refine (impl_ObjectText.calls k _ _ t415 _ _ t418 _ _ t421 t425 _ ?side1 ?side2 ?side3 ?side4 ?side5 ?side6 ?side7 A10.out).mono ?_); (case side1 => refine (Kd.R_reads' (e := 71) (base := w.heap.size) (ok := fun k_ => (True ∧ some k_ ≠ (.slice Ao68 t405.length co68 : Value).ownBlock)) (n := t415.length) (c := co75) ?_).2.2; exact (by (with_reducible repeat (first | apply Kd.R_alloc | apply Kd.R_drewN | apply Kd.R_drew)); exact (Kd.R_mono (Kd.R_far (p := ⟨gb424, 2, none⟩) (Kd.R_far (p := ⟨gb424, 1, none⟩) (Kd.R_far (p := ⟨gb424, 0, none⟩) (Kd.R_types HO417.out BK424.out (by decide)) (fun _ hk => hk.2) (.slice Ao75 t415.length co75)) (fun _ hk => hk.2) (.slice Ao78 t418.length co78)) (fun _ hk => hk.2) (.slice Ao79 t421.length co79)) (fun _ h_ => h_.1)))); (case side2 => exact (Kd.R_reads' HO417.out).2.1); (case side3 => refine (Kd.R_reads' (e := 72) (base := w.heap.size) (ok := fun k_ => (True ∧ some k_ ≠ (.slice Ao69 t408.length co69 : Value).ownBlock)) (n := t418.length) (c := co78) ?_).2.2; exact (by (with_reducible repeat (first | apply Kd.R_alloc | apply Kd.R_drewN | apply Kd.R_drew)); exact (Kd.R_mono (Kd.R_far (p := ⟨gb424, 2, none⟩) (Kd.R_far (p := ⟨gb424, 1, none⟩) (Kd.R_far (p := ⟨gb424, 0, none⟩) (Kd.R_types HO420.out BK424.out (by decide)) (fun _ hk => hk.2) (.slice Ao75 t415.length co75)) (fun _ hk => hk.2) (.slice Ao78 t418.length co78)) (fun _ hk => hk.2) (.slice Ao79 t421.length co79)) (fun _ h_ => h_.1)))); (case side4 => exact (Kd.R_reads' HO420.out).2.1); (case side5 => refine (Kd.S_reads' (e := 75) (base := w.heap.size) (ok := fun k_ => (True ∧ some k_ ≠ (.slice Ao70 t411.length co70 : Value).ownBlock)) (n := t421.length) (c := co79) ?_).2.2; exact (by (with_reducible repeat (first | apply Kd.S_alloc | apply Kd.S_drewN | apply Kd.S_drew)); exact (Kd.S_mono (Kd.S_far (p := ⟨gb424, 2, none⟩) (Kd.S_far (p := ⟨gb424, 1, none⟩) (Kd.S_far (p := ⟨gb424, 0, none⟩) (Kd.S_types HO423.out BK424.out (by decide)) (fun _ hk => hk.2) (.slice Ao75 t415.length co75)) (fun _ hk => hk.2) (.slice Ao78 t418.length co78)) (fun _ hk => hk.2) (.slice Ao79 t421.length co79)) (fun _ h_ => h_.1)))); (case side6 => exact (Kd.S_reads' HO423.out).2.1); (case side7 => exact GW.below HG.out (zb _)); rintro e w80 ⟨rfl, hb⟩; refine ⟨_, rfl, ?_⟩; replace HO407 := Aside0.mk (Kd.R_below (by (with_reducible repeat (first | apply Kd.R_alloc | apply Kd.R_drewN | apply Kd.R_drew)); exact (Kd.R_mono (Kd.R_far (p := ⟨gb424, 2, none⟩) (Kd.R_far (p := ⟨gb424, 1, none⟩) (Kd.R_far (p := ⟨gb424, 0, none⟩) (Kd.R_types HO407.out BK424.out (by decide)) (fun _ hk => hk.2) (.slice Ao75 t415.length co75)) (fun _ hk => hk.2) (.slice Ao78 t418.length co78)) (fun _ hk => hk.2) (.slice Ao79 t421.length co79)) (fun _ h_ => h_.1))) hb); replace HO410 := Aside0.mk (Kd.R_below (by (with_reducible repeat (first | apply Kd.R_alloc | apply Kd.R_drewN | apply Kd.R_drew)); exact (Kd.R_mono (Kd.R_far (p := ⟨gb424, 2, none⟩) (Kd.R_far (p := ⟨gb424, 1, none⟩) (Kd.R_far (p := ⟨gb424, 0, none⟩) (Kd.R_types HO410.out BK424.out (by decide)) (fun _ hk => hk.2) (.slice Ao75 t415.length co75)) (fun _ hk => hk.2) (.slice Ao78 t418.length co78)) (fun _ hk => hk.2) (.slice Ao79 t421.length co79)) (fun _ h_ => h_.1))) hb); replace HO413 := Aside0.mk (Kd.S_below (by (with_reducible repeat (first | apply Kd.S_alloc | apply Kd.S_drewN | apply Kd.S_drew)); exact (Kd.S_mono (Kd.S_far (p := ⟨gb424, 2, none⟩) (Kd.S_far (p := ⟨gb424, 1, none⟩) (Kd.S_far (p := ⟨gb424, 0, none⟩) (Kd.S_types HO413.out BK424.out (by decide)) (fun _ hk => hk.2) (.slice Ao75 t415.length co75)) (fun _ hk => hk.2) (.slice Ao78 t418.length co78)) (fun _ hk => hk.2) (.slice Ao79 t421.length co79)) (fun _ h_ => h_.1))) hb); replace HO417 := Aside0.mk (Kd.R_below (by (with_reducible repeat (first | apply Kd.R_alloc | apply Kd.R_drewN | apply Kd.R_drew)); exact (Kd.R_mono (Kd.R_far (p := ⟨gb424, 2, none⟩) (Kd.R_far (p := ⟨gb424, 1, none⟩) (Kd.R_far (p := ⟨gb424, 0, none⟩) (Kd.R_types HO417.out BK424.out (by decide)) (fun _ hk => hk.2) (.slice Ao75 t415.length co75)) (fun _ hk => hk.2) (.slice Ao78 t418.length co78)) (fun _ hk => hk.2) (.slice Ao79 t421.length co79)) (fun _ h_ => h_.1))) hb); replace HO420 := Aside0.mk (Kd.R_below (by (with_reducible repeat (first | apply Kd.R_alloc | apply Kd.R_drewN | apply Kd.R_drew)); exact (Kd.R_mono (Kd.R_far (p := ⟨gb424, 2, none⟩) (Kd.R_far (p := ⟨gb424, 1, none⟩) (Kd.R_far (p := ⟨gb424, 0, none⟩) (Kd.R_types HO420.out BK424.out (by decide)) (fun _ hk => hk.2) (.slice Ao75 t415.length co75)) (fun _ hk => hk.2) (.slice Ao78 t418.length co78)) (fun _ hk => hk.2) (.slice Ao79 t421.length co79)) (fun _ h_ => h_.1))) hb); replace HO423 := Aside0.mk (Kd.S_below (by (with_reducible repeat (first | apply Kd.S_alloc | apply Kd.S_drewN | apply Kd.S_drew)); exact (Kd.S_mono (Kd.S_far (p := ⟨gb424, 2, none⟩) (Kd.S_far (p := ⟨gb424, 1, none⟩) (Kd.S_far (p := ⟨gb424, 0, none⟩) (Kd.S_types HO423.out BK424.out (by decide)) (fun _ hk => hk.2) (.slice Ao75 t415.length co75)) (fun _ hk => hk.2) (.slice Ao78 t418.length co78)) (fun _ hk => hk.2) (.slice Ao79 t421.length co79)) (fun _ h_ => h_.1))) hb); replace BK403 := zkw (g := gb403) (o := .cells #[.slice A0_0 l0_0.length c0_0, .slice A0_1 l0_1.length c0_1, .slice A0_2 l0_2.length c0_2] 26 (0, 0)) hb; replace BK424 := zkw (g := gb424) (o := .cells #[.slice Ao75 t415.length co75, .slice Ao78 t418.length co78, .slice Ao79 t421.length co79] 33 (0, 0)) hb; replace HB := zt w hb; (try clear hb); (try clear hb2); (try clear hk); (try clear hi)))
   go_ret
   exact ⟨ze _, zb _⟩

end Go.Proofs.YtlacpadpdfccmaaGreatDoor.PFnExactObjectText
