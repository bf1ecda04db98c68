/- What the Go functions that the law FnExactObjectText reaches compute, function by function, and that Go comes to just that. -/
import Derived.Test.YtlacpadpdfccmaaGreatDoorPFnExactObjectTextx0
import Derived.Test.YtlacpadpdfccmaaGreatDoorAidZ
import Derived.Test.YtlacpadpdfccmaaGreatDoorPFnExactObjectTextx1
namespace Go.Proofs.YtlacpadpdfccmaaGreatDoor.PFnExactObjectText
open Go.RowKit Go.Proofs.YtlacpadpdfccmaaGreatDoor.Z Go.Proofs.YtlacpadpdfccmaaGreatDoorW.PrintWords Go.Proofs.YtlacpadpdfccmaaGreatDoorW.PrintLast Go.Proofs.YtlacpadpdfccmaaGreatDoorW.PrintMore
attribute [local go_sem] max2_int min2_int max_two min_two max_three min_three max_four min_four   -- for this text's walks alone
set_option linter.unusedVariables false
set_option linter.unusedSimpArgs false

def laws_toObject.f (k : Nat) (l0_0 : List (S62)) (l0_1 : List (S65)) (l0_2 : List (List (S119))) : Option ((List (S71)) × (List (S72)) × (List (List (S124)))) := (laws_toSectionS.f k l0_0).bind fun t283 => ((laws_toOSymS.f k l0_1).bind fun t286 => ((laws_toENodeSS.f k l0_2).bind fun t289 => (some (t283, t286, t289))))
theorem laws_toObject.mono : ∀ a0 a1 a2 k, LeO (laws_toObject.f k a0 a1 a2) (laws_toObject.f (k + 1) a0 a1 a2) := by
  intro a0 a1 a2 k
  unfold laws_toObject.f
  repeat' with_reducible first | exact laws_toENodeSS.mono _ _ | exact laws_toOSymS.mono _ _ | exact laws_toSectionS.mono _ _ | exact LeO.refl _ | exact LeO.none _ | refine LeO.ite ?_ ?_ | refine LeO.bind ?_ (fun _ => ?_)
set_option maxHeartbeats 8000000 in
set_option maxRecDepth 100000 in
theorem laws_toObject.calls (k : Nat) (A0_0 : Option Addr) (c0_0 : Nat) (l0_0 : List (S62)) (A0_1 : Option Addr) (c0_1 : Nat) (l0_1 : List (S65)) (A0_2 : Option Addr) (c0_2 : Nat) (l0_2 : List (List (S119))) (r1 : List (S71)) (r2 : List (S72)) (r3 : List (List (S124))) (w : World) (hr0_0 : Kd.C k62 w A0_0 l0_0.length l0_0) (hc0_0 : l0_0.length ≤ c0_0) (hr0_1 : Kd.C k65 w A0_1 l0_1.length l0_1) (hc0_1 : l0_1.length ≤ c0_1) (hr0_2 : Kd.C (Kd.slice 119 k119) w A0_2 l0_2.length l0_2) (hc0_2 : l0_2.length ≤ c0_2) (h : laws_toObject.f k l0_0 l0_1 l0_2 = some (r1, r2, r3)) :
 Calls Tryz.prog 7 #[.agg #[.slice A0_0 l0_0.length c0_0, .slice A0_1 l0_1.length c0_1, .slice A0_2 l0_2.length c0_2]] w fun e w' => ∃ v0_ v1_ v2_ : Value, e = .returned (.agg #[v0_, v1_, v2_]) ∧ Kd.R k71 71 w' w.heap.size (fun _ => True) v0_ r1 ∧ Kd.R k72 72 w' w.heap.size (fun _ => True) v1_ r2 ∧ Kd.S (Kd.slice 124 k124) 75 w' w.heap.size (fun _ => True) v2_ r3 ∧ Below w.heap.size w w' := by
 have hu26 := Tryz.underlying26
 have hu33 := Tryz.underlying33
 have HR0_0 := Aside0.mk hr0_0
 have HC0_0 := Aside0.mk hc0_0
 clear hr0_0 hc0_0
 have HR0_1 := Aside0.mk hr0_1
 have HC0_1 := Aside0.mk hc0_1
 clear hr0_1 hc0_1
 have HR0_2 := Aside0.mk hr0_2
 have HC0_2 := Aside0.mk hc0_2
 clear hr0_2 hc0_2
 have HB := Aside0.mk (Below.refl w.heap.size w)
 have H : ((laws_toSectionS.f k l0_0).bind fun t283 => ((laws_toOSymS.f k l0_1).bind fun t286 => ((laws_toENodeSS.f k l0_2).bind fun t289 => (some (t283, t286, t289))))) = some (r1, r2, r3) := h
 clear h
 obtain ⟨t283, A20, H⟩ := Option.bind_eq_some_iff.mp H
 have A2 := Aside0.mk A20
 clear A20
 obtain ⟨t286, A30, H⟩ := Option.bind_eq_some_iff.mp H
 have A3 := Aside0.mk A30
 clear A30
 obtain ⟨t289, A40, H⟩ := Option.bind_eq_some_iff.mp H
 have A4 := Aside0.mk A40
 clear A40
 simp only [Option.some.injEq, Prod.mk.injEq] at H
 obtain ⟨rfl, rfl, rfl⟩ := H
 go_enter Tryz.func7, Tryz.ntmps7
 go_wp2_with (first | ((with_reducible refine gate_dst (N := 1) rfl ?_); refine zbx 1 #[.slice A0_0 l0_0.length c0_0, .slice A0_1 l0_1.length c0_1, .slice A0_2 l0_2.length c0_2] 26 ?_; intro gb280 hg w5 hbox hb; have BK280 := Aside0.mk (hbox); have GW280 := zs w hg; have GE280 := GW280; replace HB := zt w hb; clear hb hbox hg) | ((with_reducible refine gate_dst (N := 2) rfl ?_); refine zbx 2 #[.slice none 0 0, .slice none 0 0, .slice none 0 0] 33 ?_; intro gb281 hg w6 hbox hb; have BK281 := Aside0.mk (hbox); have GW281 := zs w hg; have GE281 := GW281; have NB280_281 := zlt BK280 hg; have NB281_280 := zgt (zlt BK280 hg); replace BK280 := zk BK280 hb; replace HB := zt w hb; clear hb hbox hg) | ((with_reducible refine gate_dst (N := 3) rfl ?_); refine zbx 3 #[.slice none 0 0, .slice none 0 0, .slice none 0 0] 33 ?_; intro gb282 hg w7 hbox hb; have BK282 := Aside0.mk (hbox); have GW282 := zs w hg; have GE282 := GW282; have NB280_282 := zlt BK280 hg; have NB282_280 := zgt (zlt BK280 hg); have NB281_282 := zlt BK281 hg; have NB282_281 := zgt (zlt BK281 hg); replace BK280 := zk BK280 hb; replace BK281 := zk BK281 hb; replace HB := zt w hb; clear hb hbox hg; have hnb8 := NB280_281.out; have hnc8 := NB281_280.out; have hnb9 := NB280_282.out; have hnc9 := NB282_280.out; obtain ⟨hcz10_0, hcz10_1, hcz10_2, hfz10_0, hfz10_1, hfz10_2⟩ := zF3 BK280) | ((with_reducible refine gate_callee (f := 19) rfl ?_); refine zc (some 6) Tryz.func19 #[.slice A0_0 l0_0.length c0_0] ?_; (with_reducible refine (laws_toSectionS.calls k _ _ l0_0 t283 _ ?side1 ?side2 A2.out).mono ?_); (case side1 => repeat (first | exact (Kd.C_below HR0_0.out HB.out) | (with_reducible refine Kd.C_alloc ?_ _) | (with_reducible refine Kd.C_drewN ?_ _) | (with_reducible refine Kd.C_drew ?_))); (case side2 => exact HC0_0.out); rintro e w11 ⟨v284, rfl, ho0, hb⟩; refine ⟨_, rfl, ?_⟩; have HO285 := Aside0.mk (Kd.R_lower ho0 (below_size (zb _))); replace BK280 := zk BK280 hb; replace BK281 := zk BK281 hb; replace BK282 := zk BK282 hb; replace HB := zt w hb; (try clear hb); (try clear hb2); (try clear hk); (try clear hi); (try clear ho0); obtain ⟨Ao12, co12, eo12⟩ := Kd.R_slice HO285.out; subst eo12; have hnb13 := NB282_281.out; have hnc13 := NB281_282.out; obtain ⟨hcz14_0, hcz14_1, hcz14_2, hfz14_0, hfz14_1, hfz14_2⟩ := zF3 BK282; obtain ⟨hcz15_0, hcz15_1, hcz15_2, hfz15_0, hfz15_1, hfz15_2⟩ := zF3 BK280) | ((with_reducible refine gate_callee (f := 20) rfl ?_); refine zc (some 10) Tryz.func20 #[.slice A0_1 l0_1.length c0_1] ?_; (with_reducible refine (laws_toOSymS.calls k _ _ l0_1 t286 _ ?side1 ?side2 A3.out).mono ?_); (case side1 => exact Kd.C_below HR0_1.out (zb _)); (case side2 => exact HC0_1.out); rintro e w16 ⟨v287, rfl, ho0, hb⟩; refine ⟨_, rfl, ?_⟩; have HO288 := Aside0.mk (Kd.R_lower ho0 (below_size (zb _))); replace HO285 := Aside0.mk (Kd.R_below (by (with_reducible repeat (first | apply Kd.R_alloc | apply Kd.R_drewN | apply Kd.R_drew)); exact (Kd.R_mono (Kd.R_far (p := ⟨gb282, 0, none⟩) (Kd.R_types HO285.out BK282.out (by decide)) (fun _ hk => hk.2) (.slice Ao12 t283.length co12)) (fun _ h_ => h_.1))) hb); replace BK280 := zkw (g := gb280) (o := .cells #[.slice A0_0 l0_0.length c0_0, .slice A0_1 l0_1.length c0_1, .slice A0_2 l0_2.length c0_2] 26 (0, 0)) hb; replace BK281 := zkw (g := gb281) (o := .cells #[.slice none 0 0, .slice none 0 0, .slice none 0 0] 33 (0, 0)) hb; replace BK282 := zkw (g := gb282) (o := .cells #[.slice Ao12 t283.length co12, .slice none 0 0, .slice none 0 0] 33 (0, 0)) hb; replace HB := zt w hb; (try clear hb); (try clear hb2); (try clear hk); (try clear hi); (try clear ho0); obtain ⟨Ao17, co17, eo17⟩ := Kd.R_slice HO288.out; subst eo17; obtain ⟨hcz18_0, hcz18_1, hcz18_2, hfz18_0, hfz18_1, hfz18_2⟩ := zF3 BK282; obtain ⟨hcz19_0, hcz19_1, hcz19_2, hfz19_0, hfz19_1, hfz19_2⟩ := zF3 BK280) | ((with_reducible refine gate_callee (f := 21) rfl ?_); refine zc (some 14) Tryz.func21 #[.slice A0_2 l0_2.length c0_2] ?_; (with_reducible refine (laws_toENodeSS.calls k _ _ l0_2 t289 _ ?side1 ?side2 A4.out).mono ?_); (case side1 => exact Kd.C_below HR0_2.out (zb _)); (case side2 => exact HC0_2.out); rintro e w20 ⟨v290, rfl, ho0, hb⟩; refine ⟨_, rfl, ?_⟩; have HO291 := Aside0.mk (Kd.S_lower ho0 (below_size (zb _))); replace HO285 := Aside0.mk (Kd.R_below (by (with_reducible repeat (first | apply Kd.R_alloc | apply Kd.R_drewN | apply Kd.R_drew)); exact (Kd.R_mono (Kd.R_far (p := ⟨gb282, 1, none⟩) (Kd.R_types HO285.out BK282.out (by decide)) (fun _ hk => hk.2) (.slice Ao17 t286.length co17)) (fun _ h_ => h_.1))) hb); replace HO288 := Aside0.mk (Kd.R_below (by (with_reducible repeat (first | apply Kd.R_alloc | apply Kd.R_drewN | apply Kd.R_drew)); exact (Kd.R_mono (Kd.R_far (p := ⟨gb282, 1, none⟩) (Kd.R_types HO288.out BK282.out (by decide)) (fun _ hk => hk.2) (.slice Ao17 t286.length co17)) (fun _ h_ => h_.1))) hb); replace BK280 := zkw (g := gb280) (o := .cells #[.slice A0_0 l0_0.length c0_0, .slice A0_1 l0_1.length c0_1, .slice A0_2 l0_2.length c0_2] 26 (0, 0)) hb; replace BK281 := zkw (g := gb281) (o := .cells #[.slice none 0 0, .slice none 0 0, .slice none 0 0] 33 (0, 0)) hb; replace BK282 := zkw (g := gb282) (o := .cells #[.slice Ao12 t283.length co12, .slice Ao17 t286.length co17, .slice none 0 0] 33 (0, 0)) hb; replace HB := zt w hb; (try clear hb); (try clear hb2); (try clear hk); (try clear hi); (try clear ho0); obtain ⟨Ao21, co21, eo21⟩ := Kd.S_slice HO291.out; subst eo21; obtain ⟨hcz22_0, hcz22_1, hcz22_2, hfz22_0, hfz22_1, hfz22_2⟩ := zF3 BK282; obtain ⟨hcz23_0, hcz23_1, hcz23_2, hfz23_0, hfz23_1, hfz23_2⟩ := zF3 BK281))
 refine bodyPost_ret (results_cell_row rfl _ _ gb281 33 #[.slice Ao12 t283.length co12, .slice Ao17 t286.length co17, .slice Ao21 t289.length co21] (0, 0) _ rfl (zw _) Tryz.underlying33 rfl (by kernel_rfl)) rfl ?_
 exact ⟨_, _, _, by first | rfl | (simp [errW_none, errW_some] <;> rfl) | (simp [*, errW_none, errW_some] <;> rfl), by (with_reducible repeat (first | apply Kd.R_alloc | apply Kd.R_drewN | apply Kd.R_drew)); exact Kd.R_mono (Kd.R_far (p := ⟨gb281, 2, none⟩) (Kd.R_far (p := ⟨gb281, 1, none⟩) (Kd.R_far (p := ⟨gb281, 0, none⟩) (Kd.R_far (p := ⟨gb282, 2, none⟩) (Kd.R_types (Kd.R_types HO285.out BK282.out (by decide)) BK281.out (by decide)) (fun _ hk => hk.1.2) (.slice Ao21 t289.length co21)) (fun _ hk => hk.2) (.slice Ao12 t283.length co12)) (fun _ hk => hk.2) (.slice Ao17 t286.length co17)) (fun _ hk => hk.2) (.slice Ao21 t289.length co21)) (fun _ hk => trivial), by (with_reducible repeat (first | apply Kd.R_alloc | apply Kd.R_drewN | apply Kd.R_drew)); exact Kd.R_mono (Kd.R_far (p := ⟨gb281, 2, none⟩) (Kd.R_far (p := ⟨gb281, 1, none⟩) (Kd.R_far (p := ⟨gb281, 0, none⟩) (Kd.R_far (p := ⟨gb282, 2, none⟩) (Kd.R_types (Kd.R_types HO288.out BK282.out (by decide)) BK281.out (by decide)) (fun _ hk => hk.1.2) (.slice Ao21 t289.length co21)) (fun _ hk => hk.2) (.slice Ao12 t283.length co12)) (fun _ hk => hk.2) (.slice Ao17 t286.length co17)) (fun _ hk => hk.2) (.slice Ao21 t289.length co21)) (fun _ hk => trivial), by (with_reducible repeat (first | apply Kd.S_alloc | apply Kd.S_drewN | apply Kd.S_drew)); exact Kd.S_mono (Kd.S_far (p := ⟨gb281, 2, none⟩) (Kd.S_far (p := ⟨gb281, 1, none⟩) (Kd.S_far (p := ⟨gb281, 0, none⟩) (Kd.S_far (p := ⟨gb282, 2, none⟩) (Kd.S_types (Kd.S_types HO291.out BK282.out (by decide)) BK281.out (by decide)) (fun _ hk => hk.1.2) (.slice Ao21 t289.length co21)) (fun _ hk => hk.2) (.slice Ao12 t283.length co12)) (fun _ hk => hk.2) (.slice Ao17 t286.length co17)) (fun _ hk => hk.2) (.slice Ao21 t289.length co21)) (fun _ hk => trivial), zb _⟩

def impl_within.f (a0 : Int) (a1 : Int) (a2 : Int) : Option (Bool) := if a0 ≥ a1 then (some (decide (a0 ≤ a2))) else (some false)
set_option maxHeartbeats 8000000 in
set_option maxRecDepth 100000 in
theorem impl_within.calls (a0 : Int) (a1 : Int) (a2 : Int) (r : Bool) (w : World) (h : impl_within.f a0 a1 a2 = some r) :
 Calls Tryz.prog 93 #[.int .i64 a0, .int .i64 a1, .int .i64 a2] w fun e w' => e = .returned (.bool r) ∧ Drawn0 w w' := by
 have H : (if a0 ≥ a1 then (some (decide (a0 ≤ a2))) else (some false)) = some r := h
 clear h
 by_cases c4 : a0 ≥ a1
 ·rw [if_pos c4] at H
  have c4b0 : decide (a1 ≤ a0) = true := decide_eq_true c4
  clear c4
  obtain rfl := Option.some.inj H
  go_enter Tryz.func93, Tryz.ntmps93
  go_wp2
  go_ret
  exact ⟨zE _, zd _⟩
 ·rw [if_neg c4] at H
  have c4b0 : decide (a1 ≤ a0) = false := decide_eq_false c4
  clear c4
  obtain rfl := Option.some.inj H
  go_enter Tryz.func93, Tryz.ntmps93
  go_wp2
  go_ret
  exact ⟨zE _, zd _⟩

def impl_isDigit.f (a0 : Int) : Option (Bool) := if a0 ≥ 48 then (some (decide (a0 ≤ 57))) else (some false)
set_option maxHeartbeats 8000000 in
set_option maxRecDepth 100000 in
theorem impl_isDigit.calls (a0 : Int) (r : Bool) (w : World) (h : impl_isDigit.f a0 = some r) :
 Calls Tryz.prog 120 #[.int .u8 a0] w fun e w' => e = .returned (.bool r) ∧ Drawn0 w w' := by
 have H : (if a0 ≥ 48 then (some (decide (a0 ≤ 57))) else (some false)) = some r := h
 clear h
 by_cases c2 : a0 ≥ 48
 ·rw [if_pos c2] at H
  have c2b0 : decide (48 ≤ a0) = true := decide_eq_true c2
  clear c2
  obtain rfl := Option.some.inj H
  go_enter Tryz.func120, Tryz.ntmps120
  go_wp2
  go_ret
  exact ⟨zE _, zd _⟩
 ·rw [if_neg c2] at H
  have c2b0 : decide (48 ≤ a0) = false := decide_eq_false c2
  clear c2
  obtain rfl := Option.some.inj H
  go_enter Tryz.func120, Tryz.ntmps120
  go_wp2
  go_ret
  exact ⟨zE _, zd _⟩

def impl_isSmall.f (a0 : Int) : Option (Bool) := if a0 ≥ 97 then (some (decide (a0 ≤ 122))) else (some false)
set_option maxHeartbeats 8000000 in
set_option maxRecDepth 100000 in
theorem impl_isSmall.calls (a0 : Int) (r : Bool) (w : World) (h : impl_isSmall.f a0 = some r) :
 Calls Tryz.prog 121 #[.int .u8 a0] w fun e w' => e = .returned (.bool r) ∧ Drawn0 w w' := by
 have H : (if a0 ≥ 97 then (some (decide (a0 ≤ 122))) else (some false)) = some r := h
 clear h
 by_cases c2 : a0 ≥ 97
 ·rw [if_pos c2] at H
  have c2b0 : decide (97 ≤ a0) = true := decide_eq_true c2
  clear c2
  obtain rfl := Option.some.inj H
  go_enter Tryz.func121, Tryz.ntmps121
  go_wp2
  go_ret
  exact ⟨zE _, zd _⟩
 ·rw [if_neg c2] at H
  have c2b0 : decide (97 ≤ a0) = false := decide_eq_false c2
  clear c2
  obtain rfl := Option.some.inj H
  go_enter Tryz.func121, Tryz.ntmps121
  go_wp2
  go_ret
  exact ⟨zE _, zd _⟩

mutual
def impl_NameOk.j0 : Nat → ByteArray → Bool → Option (Bool)
  | 0, _, _ => none
  | k + 1, x0, x12 => if x12 = true then (some false) else (impl_NameOk.l0 k x0 (x0.size : Int) 0)
def impl_NameOk.l0 : Nat → ByteArray → Int → Int → Option (Bool)
  | 0, _, _, _ => none
  | k + 1, x0, x14, x15 => if x15 < x14 then (if 0 ≤ x15 then (if x15 < (x0.size : Int) then ((impl_isSmall.f (bt x0 x15)).bind fun t294 => (if t294 = true then (impl_NameOk.l0 k x0 x14 (wrap64 (x15 + 1))) else ((impl_isDigit.f (bt x0 x15)).bind fun t295 => (if t295 = true then (impl_NameOk.l0 k x0 x14 (wrap64 (x15 + 1))) else (if (bt x0 x15) = 95 then (impl_NameOk.l0 k x0 x14 (wrap64 (x15 + 1))) else (if (bt x0 x15) = 46 then (impl_NameOk.l0 k x0 x14 (wrap64 (x15 + 1))) else (some false))))))) else (none)) else (none)) else (some true)
end
def impl_NameOk.f (k : Nat) (a0 : ByteArray) : Option (Bool) := (impl_within.f (a0.size : Int) 1 16).bind fun t292 => (if t292 = true then (if 0 < (a0.size : Int) then ((impl_isDigit.f (bt a0 0)).bind fun t293 => (impl_NameOk.j0 k a0 t293)) else (none)) else (impl_NameOk.j0 k a0 true))
theorem impl_NameOk.mono_l : ∀ k, (∀ y0 y1, LeO (impl_NameOk.j0 k y0 y1) (impl_NameOk.j0 (k + 1) y0 y1)) ∧ (∀ y0 y1 y2, LeO (impl_NameOk.l0 k y0 y1 y2) (impl_NameOk.l0 (k + 1) y0 y1 y2))
  | 0 => ⟨fun _ _ r h => by simp [impl_NameOk.j0] at h, fun _ _ _ r h => by simp [impl_NameOk.l0] at h⟩
  | k + 1 => by
    obtain ⟨ih0, ih1⟩ := impl_NameOk.mono_l k
    refine ⟨?_, ?_⟩
    · intro y0 y1
      unfold impl_NameOk.j0
      repeat' with_reducible first | exact ih0 _ _ | exact ih1 _ _ _ | exact LeO.refl _ | exact LeO.none _ | refine LeO.ite ?_ ?_ | refine LeO.bind ?_ (fun _ => ?_)
    · intro y0 y1 y2
      unfold impl_NameOk.l0
      repeat' with_reducible first | exact ih0 _ _ | exact ih1 _ _ _ | exact LeO.refl _ | exact LeO.none _ | refine LeO.ite ?_ ?_ | refine LeO.bind ?_ (fun _ => ?_)
theorem impl_NameOk.mono : ∀ a0 k, LeO (impl_NameOk.f k a0) (impl_NameOk.f (k + 1) a0) := by
  intro a0 k
  obtain ⟨ih0, ih1⟩ := impl_NameOk.mono_l k
  unfold impl_NameOk.f
  repeat' with_reducible first | exact ih0 _ _ | exact ih1 _ _ _ | exact LeO.refl _ | exact LeO.none _ | refine LeO.ite ?_ ?_ | refine LeO.bind ?_ (fun _ => ?_)
set_option maxHeartbeats 8000000 in
set_option maxRecDepth 100000 in
theorem impl_NameOk.calls (k : Nat) (a0 : ByteArray) (r : Bool) (w : World) (h : impl_NameOk.f k a0 = some r) :
 Calls Tryz.prog 92 #[.string a0] w fun e w' => e = .returned (.bool r) ∧ Drawn0 w w' := by
 have H : ((impl_within.f (a0.size : Int) 1 16).bind fun t292 => (if t292 = true then (if 0 < (a0.size : Int) then ((impl_isDigit.f (bt a0 0)).bind fun t293 => (impl_NameOk.j0 k a0 t293)) else (none)) else (impl_NameOk.j0 k a0 true))) = some r := h
 clear h
 have HC2 := Aside0.mk H
 clear H
 go_enter Tryz.func92, Tryz.ntmps92
 go_upto_region 1 with (fail)
 go_cut [12] (fun v12 wc => ∃ (kq : Nat) (x12_1 : Bool), v12 = .bool x12_1 ∧ Aside0 (impl_NameOk.j0 kq a0 x12_1 = some r) ∧ Aside0 (kq ≤ k) ∧ Drawn0 w wc)
 case first =>
  have H := HC2.out
  clear HC2
  obtain ⟨t292, A30, H⟩ := Option.bind_eq_some_iff.mp H
  have A3 := Aside0.mk A30
  clear A30
  by_cases c4 : t292 = true
  ·subst c4
   rw [if_pos rfl] at H
   by_cases c5 : 0 < (a0.size : Int)
   ·rw [if_pos c5] at H
    have c5b0 : decide (0 < (a0.size : Int)) = true := decide_eq_true c5
    have c5b1 : decide (0 < a0.size) = true := decide_eq_true (by omega)
    clear c5
    (first | rw [c5b0] | (simp only [i64_w, i32_w]; rw [c5b0]) | skip)
    obtain ⟨t293, A70, H⟩ := Option.bind_eq_some_iff.mp H
    have A7 := Aside0.mk A70
    clear A70
    have H' := Aside0.mk H
    clear H
    go_wp2_with (first | ((with_reducible refine gate_callee (f := 93) rfl ?_); refine zc (some 6) Tryz.func93 #[.int .i64 (a0.size : Int), .int .i64 1, .int .i64 16] ?_; (with_reducible refine (impl_within.calls (a0.size : Int) 1 16 true _ A3.out).mono ?_); rintro e w' ⟨rfl, ⟨nd, rfl⟩⟩; refine ⟨_, rfl, ?_⟩; have p6 : 0 ≤ (0 : Int) := (by omega); have q6 : 0 < a0.size := (by have : (0 : Int) < (a0.size : Int) := of_decide_eq_true (za _); omega); have hx6 : ∀ h : 0 < a0.size, ((a0[0]'h).toNat : Int) = bt a0 0 := bt_at a0 0; clear p6; have qi6 : (0 < (a0.size : Int)) = True := eq_true (of_decide_eq_true (za _)); replace q6 := eq_true q6) | (go_at_call 120; (with_reducible refine (impl_isDigit.calls (bt a0 0) t293 _ A7.out).mono ?_); rintro e w' ⟨rfl, ⟨nd, rfl⟩⟩))
    go_meet
    case rel => exact ⟨_, (t293), (zE _), H', ⟨by first | omega | exact Nat.le_refl _⟩, zd _⟩
   ·rw [if_neg c5] at H
    exact absurd H (by simp)
  ·replace c4 := Bool.eq_false_iff.mpr c4
   subst c4
   rw [if_neg (show ¬ (false = true) by decide)] at H
   have H' := Aside0.mk H
   clear H
   go_wp2_with (first | ((with_reducible refine gate_callee (f := 93) rfl ?_); refine zc (some 6) Tryz.func93 #[.int .i64 (a0.size : Int), .int .i64 1, .int .i64 16] ?_; (with_reducible refine (impl_within.calls (a0.size : Int) 1 16 false _ A3.out).mono ?_); rintro e w' ⟨rfl, ⟨nd, rfl⟩⟩; refine ⟨_, rfl, ?_⟩))
   go_meet
   case rel => exact ⟨_, (true), (zE _), H', ⟨by first | omega | exact Nat.le_refl _⟩, zd _⟩
 case rest =>
  clear HC2
  obtain ⟨kq, x12_1, rfl, HA, HJ1, ⟨mc1, rfl⟩⟩ := hcut
  cases kq with
  | zero => exact absurd HA.out (by simp [impl_NameOk.j0])
  | succ kj1 =>
   have H := HA.out
   clear HA
   simp only [impl_NameOk.j0] at H
   by_cases c8 : x12_1 = true
   ·subst c8
    rw [if_pos rfl] at H
    obtain rfl := Option.some.inj H
    go_wp2
    go_ret
    exact ⟨zE _, zd _⟩
   ·replace c8 := Bool.eq_false_iff.mpr c8
    subst c8
    rw [if_neg (show ¬ (false = true) by decide)] at H
    have H' := Aside0.mk H
    clear H
    go_wp2
    go_loopg [15] kj1 (fun kq v15 w' => ∃ (x15_2 : Int), v15 = .int .i64 x15_2 ∧ Aside0 (impl_NameOk.l0 kq a0 (a0.size : Int) x15_2 = some r) ∧ Aside0 (kq ≤ kj1) ∧ Drawn0 w w')
    case atStart => exact ⟨(0), (zE _), H', ⟨Nat.le_refl _⟩, zd _⟩
    case round =>
     clear H'
     obtain ⟨x15_2, rfl, HA, HK2, ⟨m2, rfl⟩⟩ := hrel
     cases gk with
     | zero => exact absurd HA.out (by simp [impl_NameOk.l0])
     | succ k2 =>
      have H := HA.out
      clear HA
      simp only [impl_NameOk.l0] at H
      by_cases c9 : x15_2 < (a0.size : Int)
      ·rw [if_pos c9] at H
       have c9b0 : decide (x15_2 < (a0.size : Int)) = true := decide_eq_true c9
       clear c9
       by_cases c10 : 0 ≤ x15_2
       ·rw [if_pos c10] at H
        have c10b0 : decide (0 ≤ x15_2) = true := decide_eq_true c10
        clear c10
        by_cases c11 : x15_2 < (a0.size : Int)
        ·rw [if_pos c11] at H
         have c11b0 : decide (x15_2 < (a0.size : Int)) = true := decide_eq_true c11
         clear c11
         obtain ⟨t294, A130, H⟩ := Option.bind_eq_some_iff.mp H
         have A13 := Aside0.mk A130
         clear A130
         by_cases c14 : t294 = true
         ·subst c14
          rw [if_pos rfl] at H
          have H' := Aside0.mk H
          clear H
          have p12 : 0 ≤ (x15_2 : Int) := of_decide_eq_true (za _)
          have q12 : x15_2 < (a0.size : Int) := of_decide_eq_true (za _)
          have hx12 := bt_at a0 x15_2
          replace p12 := eq_true p12
          replace q12 := eq_true q12
          go_wp2_with (first | ((with_reducible refine gate_callee (f := 121) rfl ?_); refine zc (some 21) Tryz.func121 #[.int .u8 (bt a0 x15_2)] ?_; (with_reducible refine (impl_isSmall.calls (bt a0 x15_2) true _ A13.out).mono ?_); rintro e w' ⟨rfl, ⟨nd, rfl⟩⟩; refine ⟨_, rfl, ?_⟩))
          go_roundg k2
          case measure => have := HJ1.out; have := HK2.out; omega
          case rel => exact ⟨(wrap64 (x15_2 + 1)), (zE _), H', ⟨by have := HJ1.out; have := HK2.out; omega⟩, zd _⟩
         ·replace c14 := Bool.eq_false_iff.mpr c14
          subst c14
          rw [if_neg (show ¬ (false = true) by decide)] at H
          obtain ⟨t295, A160, H⟩ := Option.bind_eq_some_iff.mp H
          have A16 := Aside0.mk A160
          clear A160
          by_cases c17 : t295 = true
          ·subst c17
           rw [if_pos rfl] at H
           have H' := Aside0.mk H
           clear H
           have p12 : 0 ≤ (x15_2 : Int) := of_decide_eq_true (za _)
           have q12 : x15_2 < (a0.size : Int) := of_decide_eq_true (za _)
           have hx12 := bt_at a0 x15_2
           replace p12 := eq_true p12
           replace q12 := eq_true q12
           go_wp2_with (first | ((with_reducible refine gate_callee (f := 121) rfl ?_); refine zc (some 21) Tryz.func121 #[.int .u8 (bt a0 x15_2)] ?_; (with_reducible refine (impl_isSmall.calls (bt a0 x15_2) false _ A13.out).mono ?_); rintro e w' ⟨rfl, ⟨nd, rfl⟩⟩; refine ⟨_, rfl, ?_⟩; have p15 : 0 ≤ (x15_2 : Int) := of_decide_eq_true (za _); have q15 : x15_2 < (a0.size : Int) := of_decide_eq_true (za _); have hx15 := bt_at a0 x15_2; replace p15 := eq_true p15; replace q15 := eq_true q15) | (go_at_call 120; (with_reducible refine (impl_isDigit.calls (bt a0 x15_2) true _ A16.out).mono ?_); rintro e w' ⟨rfl, ⟨nd, rfl⟩⟩))
           go_roundg k2
           case measure => have := HJ1.out; have := HK2.out; omega
           case rel => exact ⟨(wrap64 (x15_2 + 1)), (zE _), H', ⟨by have := HJ1.out; have := HK2.out; omega⟩, zd _⟩
          ·replace c17 := Bool.eq_false_iff.mpr c17
           subst c17
           rw [if_neg (show ¬ (false = true) by decide)] at H
           by_cases c19 : (bt a0 x15_2) = 95
           ·rw [if_pos c19] at H
            have c19b0 : ((bt a0 x15_2) == 95) = true := beq_iff_eq.mpr c19
            have c19b1 : ((bt a0 x15_2) != 95) = false := bne_eq_false_iff_eq.mpr c19
            clear c19
            have H' := Aside0.mk H
            clear H
            have p12 : 0 ≤ (x15_2 : Int) := of_decide_eq_true (za _)
            have q12 : x15_2 < (a0.size : Int) := of_decide_eq_true (za _)
            have hx12 := bt_at a0 x15_2
            replace p12 := eq_true p12
            replace q12 := eq_true q12
            go_wp2_with (first | ((with_reducible refine gate_callee (f := 121) rfl ?_); refine zc (some 21) Tryz.func121 #[.int .u8 (bt a0 x15_2)] ?_; (with_reducible refine (impl_isSmall.calls (bt a0 x15_2) false _ A13.out).mono ?_); rintro e w' ⟨rfl, ⟨nd, rfl⟩⟩; refine ⟨_, rfl, ?_⟩; have p15 : 0 ≤ (x15_2 : Int) := of_decide_eq_true (za _); have q15 : x15_2 < (a0.size : Int) := of_decide_eq_true (za _); have hx15 := bt_at a0 x15_2; replace p15 := eq_true p15; replace q15 := eq_true q15) | (go_at_call 120; (with_reducible refine (impl_isDigit.calls (bt a0 x15_2) false _ A16.out).mono ?_); rintro e w' ⟨rfl, ⟨nd, rfl⟩⟩; have p18 : 0 ≤ (x15_2 : Int) := of_decide_eq_true (za _); have q18 : x15_2 < (a0.size : Int) := of_decide_eq_true (za _); have hx18 := bt_at a0 x15_2; replace p18 := eq_true p18; replace q18 := eq_true q18))
            go_roundg k2
            case measure => have := HJ1.out; have := HK2.out; omega
            case rel => exact ⟨(wrap64 (x15_2 + 1)), (zE _), H', ⟨by have := HJ1.out; have := HK2.out; omega⟩, zd _⟩
           ·rw [if_neg c19] at H
            have c19b0 : ((bt a0 x15_2) == 95) = false := beq_eq_false_iff_ne.mpr c19
            have c19b1 : ((bt a0 x15_2) != 95) = true := bne_iff_ne.mpr c19
            by_cases c21 : (bt a0 x15_2) = 46
            ·rw [if_pos c21] at H
             have c21b0 : ((bt a0 x15_2) == 46) = true := beq_iff_eq.mpr c21
             have c21b1 : ((bt a0 x15_2) != 46) = false := bne_eq_false_iff_eq.mpr c21
             clear c21
             have H' := Aside0.mk H
             clear H
             have p12 : 0 ≤ (x15_2 : Int) := of_decide_eq_true (za _)
             have q12 : x15_2 < (a0.size : Int) := of_decide_eq_true (za _)
             have hx12 := bt_at a0 x15_2
             replace p12 := eq_true p12
             replace q12 := eq_true q12
             go_wp2_with (first | ((with_reducible refine gate_callee (f := 121) rfl ?_); refine zc (some 21) Tryz.func121 #[.int .u8 (bt a0 x15_2)] ?_; (with_reducible refine (impl_isSmall.calls (bt a0 x15_2) false _ A13.out).mono ?_); rintro e w' ⟨rfl, ⟨nd, rfl⟩⟩; refine ⟨_, rfl, ?_⟩; have p15 : 0 ≤ (x15_2 : Int) := of_decide_eq_true (za _); have q15 : x15_2 < (a0.size : Int) := of_decide_eq_true (za _); have hx15 := bt_at a0 x15_2; replace p15 := eq_true p15; replace q15 := eq_true q15) | (go_at_call 120; (with_reducible refine (impl_isDigit.calls (bt a0 x15_2) false _ A16.out).mono ?_); rintro e w' ⟨rfl, ⟨nd, rfl⟩⟩; have p18 : 0 ≤ (x15_2 : Int) := of_decide_eq_true (za _); have q18 : x15_2 < (a0.size : Int) := of_decide_eq_true (za _); have hx18 := bt_at a0 x15_2; replace p18 := eq_true p18; replace q18 := eq_true q18; have p20 : 0 ≤ (x15_2 : Int) := of_decide_eq_true (za _); have q20 : x15_2 < (a0.size : Int) := of_decide_eq_true (za _); have hx20 := bt_at a0 x15_2; replace p20 := eq_true p20; replace q20 := eq_true q20))
             go_roundg k2
             case measure => have := HJ1.out; have := HK2.out; omega
             case rel => exact ⟨(wrap64 (x15_2 + 1)), (zE _), H', ⟨by have := HJ1.out; have := HK2.out; omega⟩, zd _⟩
            ·rw [if_neg c21] at H
             have c21b0 : ((bt a0 x15_2) == 46) = false := beq_eq_false_iff_ne.mpr c21
             have c21b1 : ((bt a0 x15_2) != 46) = true := bne_iff_ne.mpr c21
             obtain rfl := Option.some.inj H
             have p12 : 0 ≤ (x15_2 : Int) := of_decide_eq_true (za _)
             have q12 : x15_2 < (a0.size : Int) := of_decide_eq_true (za _)
             have hx12 := bt_at a0 x15_2
             replace p12 := eq_true p12
             replace q12 := eq_true q12
             go_wp2_with (first | ((with_reducible refine gate_callee (f := 121) rfl ?_); refine zc (some 21) Tryz.func121 #[.int .u8 (bt a0 x15_2)] ?_; (with_reducible refine (impl_isSmall.calls (bt a0 x15_2) false _ A13.out).mono ?_); rintro e w' ⟨rfl, ⟨nd, rfl⟩⟩; refine ⟨_, rfl, ?_⟩; have p15 : 0 ≤ (x15_2 : Int) := of_decide_eq_true (za _); have q15 : x15_2 < (a0.size : Int) := of_decide_eq_true (za _); have hx15 := bt_at a0 x15_2; replace p15 := eq_true p15; replace q15 := eq_true q15) | (go_at_call 120; (with_reducible refine (impl_isDigit.calls (bt a0 x15_2) false _ A16.out).mono ?_); rintro e w' ⟨rfl, ⟨nd, rfl⟩⟩; have p18 : 0 ≤ (x15_2 : Int) := of_decide_eq_true (za _); have q18 : x15_2 < (a0.size : Int) := of_decide_eq_true (za _); have hx18 := bt_at a0 x15_2; replace p18 := eq_true p18; replace q18 := eq_true q18; have p20 : 0 ≤ (x15_2 : Int) := of_decide_eq_true (za _); have q20 : x15_2 < (a0.size : Int) := of_decide_eq_true (za _); have hx20 := bt_at a0 x15_2; replace p20 := eq_true p20; replace q20 := eq_true q20))
             go_ret
             exact ⟨zE _, zd _⟩
        ·rw [if_neg c11] at H
         exact absurd H (by simp)
       ·rw [if_neg c10] at H
        exact absurd H (by simp)
      ·rw [if_neg c9] at H
       have c9b0 : decide (x15_2 < (a0.size : Int)) = false := decide_eq_false c9
       clear c9
       obtain rfl := Option.some.inj H
       go_wp2
       go_ret
       exact ⟨zE _, zd _⟩

def impl_isSymbol.f (k : Nat) (l0_0 : List (S71)) (l0_1 : List (S72)) (l0_2 : List (List (S124))) (a1_0 : ByteArray) (a1_1 : Int) (a1_2 : Int) (a1_3 : Bool) : Option (Bool) := (impl_NameOk.f k a1_0).bind fun t298 => (if t298 = true then (if a1_1 = (-1) then ((impl_within.f a1_2 (-2147483648) 2147483647).bind fun t299 => (some t299)) else ((impl_within.f a1_1 0 (wrap64 ((l0_0.length : Int) - 1))).bind fun t300 => (if t300 = true then (if 0 ≤ a1_1 then (if a1_1 < (l0_0.length : Int) then ((impl_within.f a1_2 0 (((rd_T71 l0_0 a1_1).f4).size : Int)).bind fun t302 => (some t302)) else (none)) else (none)) else (some false)))) else (some false))
theorem impl_isSymbol.mono : ∀ a0 a1 a2 a3 a4 a5 a6 k, LeO (impl_isSymbol.f k a0 a1 a2 a3 a4 a5 a6) (impl_isSymbol.f (k + 1) a0 a1 a2 a3 a4 a5 a6) := by
  intro a0 a1 a2 a3 a4 a5 a6 k
  unfold impl_isSymbol.f
  repeat' with_reducible first | exact impl_NameOk.mono _ _ | exact LeO.refl _ | exact LeO.none _ | refine LeO.ite ?_ ?_ | refine LeO.bind ?_ (fun _ => ?_)
set_option maxHeartbeats 8000000 in
set_option maxRecDepth 100000 in
theorem impl_isSymbol.calls (k : Nat) (A0_0 : Option Addr) (c0_0 : Nat) (l0_0 : List (S71)) (A0_1 : Option Addr) (c0_1 : Nat) (l0_1 : List (S72)) (A0_2 : Option Addr) (c0_2 : Nat) (l0_2 : List (List (S124))) (a1_0 : ByteArray) (a1_1 : Int) (a1_2 : Int) (a1_3 : Bool) (r : Bool) (w : World) (hr0_0 : Kd.C k71 w A0_0 l0_0.length l0_0) (hc0_0 : l0_0.length ≤ c0_0) (hr0_1 : Kd.C k72 w A0_1 l0_1.length l0_1) (hc0_1 : l0_1.length ≤ c0_1) (hr0_2 : Kd.C (Kd.slice 124 k124) w A0_2 l0_2.length l0_2) (hc0_2 : l0_2.length ≤ c0_2) (h : impl_isSymbol.f k l0_0 l0_1 l0_2 a1_0 a1_1 a1_2 a1_3 = some r) :
 Calls Tryz.prog 51 #[.agg #[.slice A0_0 l0_0.length c0_0, .slice A0_1 l0_1.length c0_1, .slice A0_2 l0_2.length c0_2], .agg #[.string a1_0, .int .i64 a1_1, .int .i64 a1_2, .bool a1_3]] w fun e w' => e = .returned (.bool r) ∧ Below w.heap.size w w' := by
 have hu33 := Tryz.underlying33
 have hu72 := Tryz.underlying72
 have HR0_0 := Aside0.mk hr0_0
 have HC0_0 := Aside0.mk hc0_0
 clear hr0_0 hc0_0
 have HR0_1 := Aside0.mk hr0_1
 have HC0_1 := Aside0.mk hc0_1
 clear hr0_1 hc0_1
 have HR0_2 := Aside0.mk hr0_2
 have HC0_2 := Aside0.mk hc0_2
 clear hr0_2 hc0_2
 have HB := Aside0.mk (Below.refl w.heap.size w)
 have H : ((impl_NameOk.f k a1_0).bind fun t298 => (if t298 = true then (if a1_1 = (-1) then ((impl_within.f a1_2 (-2147483648) 2147483647).bind fun t299 => (some t299)) else ((impl_within.f a1_1 0 (wrap64 ((l0_0.length : Int) - 1))).bind fun t300 => (if t300 = true then (if 0 ≤ a1_1 then (if a1_1 < (l0_0.length : Int) then ((impl_within.f a1_2 0 (((rd_T71 l0_0 a1_1).f4).size : Int)).bind fun t302 => (some t302)) else (none)) else (none)) else (some false)))) else (some false))) = some r := h
 clear h
 obtain ⟨t298, A30, H⟩ := Option.bind_eq_some_iff.mp H
 have A3 := Aside0.mk A30
 clear A30
 by_cases c4 : t298 = true
 ·subst c4
  rw [if_pos rfl] at H
  by_cases c5 : a1_1 = (-1)
  ·rw [if_pos c5] at H
   have c5b0 : (a1_1 == (-1)) = true := beq_iff_eq.mpr c5
   have c5b1 : (a1_1 != (-1)) = false := bne_eq_false_iff_eq.mpr c5
   clear c5
   obtain ⟨t299, A60, H⟩ := Option.bind_eq_some_iff.mp H
   have A6 := Aside0.mk A60
   clear A60
   obtain rfl := Option.some.inj H
   go_enter Tryz.func51, Tryz.ntmps51
   go_wp2_with (first | ((with_reducible refine gate_dst (N := 2) rfl ?_); (try (refine gate_guard (by rfl) ?_; dsimp only)); refine zbx 2 #[.slice A0_0 l0_0.length c0_0, .slice A0_1 l0_1.length c0_1, .slice A0_2 l0_2.length c0_2] 33 ?_; intro gb296 hg w7 hbox hb; have BK296 := Aside0.mk (hbox); have GW296 := zs w hg; have GE296 := GW296; replace HB := zt w hb; clear hb hbox hg) | ((with_reducible refine gate_dst (N := 3) rfl ?_); (try (refine gate_guard (by rfl) ?_; dsimp only)); refine zbx 3 #[.string a1_0, .int .i64 a1_1, .int .i64 a1_2, .bool a1_3] 72 ?_; intro gb297 hg w8 hbox hb; have BK297 := Aside0.mk (hbox); have GW297 := zs w hg; have GE297 := GW297; have NB296_297 := zlt BK296 hg; have NB297_296 := zgt (zlt BK296 hg); replace BK296 := zk BK296 hb; replace HB := zt w hb; clear hb hbox hg; have hnb9 := NB297_296.out; have hnc9 := NB296_297.out; have hcz10_0 := zc0 BK297; have hcz10_1 := zc1 BK297; have hcz10_2 := zc2 BK297; have hcz10_3 := zc3 BK297; have hfz10_0 := blk_frozen BK297.out 0; have hfz10_1 := blk_frozen BK297.out 1; have hfz10_2 := blk_frozen BK297.out 2; have hfz10_3 := blk_frozen BK297.out 3) | (go_at_call 92; (with_reducible refine (impl_NameOk.calls k a1_0 true _ A3.out).mono ?_); rintro e w' ⟨rfl, ⟨nd, rfl⟩⟩; (try first | exact ⟨rfl, _, World.drewN_drewN _ _ _⟩ | exact ⟨rfl, _, Eq.trans (World.drewN_drewN _ _ _) (congrArg (World.drewN _) (Nat.add_assoc _ _ _))⟩)) | (go_at_call 93; (with_reducible refine (impl_within.calls a1_2 (-2147483648) 2147483647 t299 _ A6.out).mono ?_); rintro e w' ⟨rfl, ⟨nd, rfl⟩⟩; (try first | exact ⟨rfl, _, World.drewN_drewN _ _ _⟩ | exact ⟨rfl, _, Eq.trans (World.drewN_drewN _ _ _) (congrArg (World.drewN _) (Nat.add_assoc _ _ _))⟩)))
   repeat (go_quiet (fail); try go_wp2)
   go_ret
   exact ⟨ze _, zb _⟩
  ·rw [if_neg c5] at H
   have c5b0 : (a1_1 == (-1)) = false := beq_eq_false_iff_ne.mpr c5
   have c5b1 : (a1_1 != (-1)) = true := bne_iff_ne.mpr c5
   obtain ⟨t300, A110, H⟩ := Option.bind_eq_some_iff.mp H
   have A11 := Aside0.mk A110
   clear A110
   by_cases c12 : t300 = true
   ·subst c12
    rw [if_pos rfl] at H
    by_cases c13 : 0 ≤ a1_1
    ·rw [if_pos c13] at H
     have c13b0 : decide (0 ≤ a1_1) = true := decide_eq_true c13
     clear c13
     by_cases c14 : a1_1 < (l0_0.length : Int)
     ·rw [if_pos c14] at H
      have c14b0 : decide (a1_1 < (l0_0.length : Int)) = true := decide_eq_true c14
      clear c14
      obtain ⟨t302, A150, H⟩ := Option.bind_eq_some_iff.mp H
      have A15 := Aside0.mk A150
      clear A150
      obtain rfl := Option.some.inj H
      go_enter Tryz.func51, Tryz.ntmps51
      go_wp2_with (first | ((with_reducible refine gate_dst (N := 2) rfl ?_); (try (refine gate_guard (by rfl) ?_; dsimp only)); refine zbx 2 #[.slice A0_0 l0_0.length c0_0, .slice A0_1 l0_1.length c0_1, .slice A0_2 l0_2.length c0_2] 33 ?_; intro gb296 hg w16 hbox hb; have BK296 := Aside0.mk (hbox); have GW296 := zs w hg; have GE296 := GW296; replace HB := zt w hb; clear hb hbox hg) | ((with_reducible refine gate_dst (N := 3) rfl ?_); (try (refine gate_guard (by rfl) ?_; dsimp only)); refine zbx 3 #[.string a1_0, .int .i64 a1_1, .int .i64 a1_2, .bool a1_3] 72 ?_; intro gb297 hg w17 hbox hb; have BK297 := Aside0.mk (hbox); have GW297 := zs w hg; have GE297 := GW297; have NB296_297 := zlt BK296 hg; have NB297_296 := zgt (zlt BK296 hg); replace BK296 := zk BK296 hb; replace HB := zt w hb; clear hb hbox hg; have hnb18 := NB297_296.out; have hnc18 := NB296_297.out; have hcz19_0 := zc0 BK297; have hcz19_1 := zc1 BK297; have hcz19_2 := zc2 BK297; have hcz19_3 := zc3 BK297; have hfz19_0 := blk_frozen BK297.out 0; have hfz19_1 := blk_frozen BK297.out 1; have hfz19_2 := blk_frozen BK297.out 2; have hfz19_3 := blk_frozen BK297.out 3) | (go_at_call 92; (with_reducible refine (impl_NameOk.calls k a1_0 true _ A3.out).mono ?_); rintro e w' ⟨rfl, ⟨nd, rfl⟩⟩; (try first | exact ⟨rfl, _, World.drewN_drewN _ _ _⟩ | exact ⟨rfl, _, Eq.trans (World.drewN_drewN _ _ _) (congrArg (World.drewN _) (Nat.add_assoc _ _ _))⟩); obtain ⟨hcz20_0, hcz20_1, hcz20_2, hfz20_0, hfz20_1, hfz20_2⟩ := zF3 BK296))
      repeat (go_quiet (first | (go_at_call 93; (try simp only [i64_w]); (with_reducible refine (impl_within.calls a1_1 0 (wrap64 ((l0_0.length : Int) - 1)) true _ A11.out).mono ?_); rintro e w' ⟨rfl, ⟨nd, rfl⟩⟩; (try first | exact ⟨rfl, _, World.drewN_drewN _ _ _⟩ | exact ⟨rfl, _, Eq.trans (World.drewN_drewN _ _ _) (congrArg (World.drewN _) (Nat.add_assoc _ _ _))⟩); have p301 : 0 ≤ (a1_1 : Int) := of_decide_eq_true (za _); have q301 : a1_1 < (l0_0.length : Int) := of_decide_eq_true (za _); obtain ⟨ad301, A301_5, c301_5, e301, hx301_0, hx301_1, hx301_2, hx301_3, hx301_4, hx301_5, hl301_5, hi301_5⟩ := at_T71 HR0_0.out a1_1 p301 q301; cases e301; replace hx301_0 := zx HB hx301_0; replace hx301_1 := zx HB hx301_1; replace hx301_2 := zx HB hx301_2; replace hx301_3 := zx HB hx301_3; replace hx301_4 := zx HB hx301_4; replace hx301_5 := zx HB hx301_5; have HR301_5 := Aside0.mk hi301_5; have HC301_5 := Aside0.mk hl301_5; clear hi301_5 hl301_5; replace p301 := eq_true p301; replace q301 := eq_true q301) | (go_at_call 93; (with_reducible refine (impl_within.calls a1_2 0 (((rd_T71 l0_0 a1_1).f4).size : Int) t302 _ A15.out).mono ?_); rintro e w' ⟨rfl, ⟨nd, rfl⟩⟩; (try first | exact ⟨rfl, _, World.drewN_drewN _ _ _⟩ | exact ⟨rfl, _, Eq.trans (World.drewN_drewN _ _ _) (congrArg (World.drewN _) (Nat.add_assoc _ _ _))⟩))); try go_wp2)
      go_ret
      exact ⟨ze _, zb _⟩
     ·rw [if_neg c14] at H
      exact absurd H (by simp)
    ·rw [if_neg c13] at H
     exact absurd H (by simp)
   ·replace c12 := Bool.eq_false_iff.mpr c12
    subst c12
    rw [if_neg (show ¬ (false = true) by decide)] at H
    obtain rfl := Option.some.inj H
    go_enter Tryz.func51, Tryz.ntmps51
    go_wp2_with (first | ((with_reducible refine gate_dst (N := 2) rfl ?_); (try (refine gate_guard (by rfl) ?_; dsimp only)); refine zbx 2 #[.slice A0_0 l0_0.length c0_0, .slice A0_1 l0_1.length c0_1, .slice A0_2 l0_2.length c0_2] 33 ?_; intro gb296 hg w21 hbox hb; have BK296 := Aside0.mk (hbox); have GW296 := zs w hg; have GE296 := GW296; replace HB := zt w hb; clear hb hbox hg) | ((with_reducible refine gate_dst (N := 3) rfl ?_); (try (refine gate_guard (by rfl) ?_; dsimp only)); refine zbx 3 #[.string a1_0, .int .i64 a1_1, .int .i64 a1_2, .bool a1_3] 72 ?_; intro gb297 hg w22 hbox hb; have BK297 := Aside0.mk (hbox); have GW297 := zs w hg; have GE297 := GW297; have NB296_297 := zlt BK296 hg; have NB297_296 := zgt (zlt BK296 hg); replace BK296 := zk BK296 hb; replace HB := zt w hb; clear hb hbox hg; have hnb23 := NB297_296.out; have hnc23 := NB296_297.out; have hcz24_0 := zc0 BK297; have hcz24_1 := zc1 BK297; have hcz24_2 := zc2 BK297; have hcz24_3 := zc3 BK297; have hfz24_0 := blk_frozen BK297.out 0; have hfz24_1 := blk_frozen BK297.out 1; have hfz24_2 := blk_frozen BK297.out 2; have hfz24_3 := blk_frozen BK297.out 3) | (go_at_call 92; (with_reducible refine (impl_NameOk.calls k a1_0 true _ A3.out).mono ?_); rintro e w' ⟨rfl, ⟨nd, rfl⟩⟩; (try first | exact ⟨rfl, _, World.drewN_drewN _ _ _⟩ | exact ⟨rfl, _, Eq.trans (World.drewN_drewN _ _ _) (congrArg (World.drewN _) (Nat.add_assoc _ _ _))⟩); obtain ⟨hcz25_0, hcz25_1, hcz25_2, hfz25_0, hfz25_1, hfz25_2⟩ := zF3 BK296))
    repeat (go_quiet (first | (go_at_call 93; (try simp only [i64_w]); (with_reducible refine (impl_within.calls a1_1 0 (wrap64 ((l0_0.length : Int) - 1)) false _ A11.out).mono ?_); rintro e w' ⟨rfl, ⟨nd, rfl⟩⟩; (try first | exact ⟨rfl, _, World.drewN_drewN _ _ _⟩ | exact ⟨rfl, _, Eq.trans (World.drewN_drewN _ _ _) (congrArg (World.drewN _) (Nat.add_assoc _ _ _))⟩))); try go_wp2)
    go_ret
    exact ⟨ze _, zb _⟩
 ·replace c4 := Bool.eq_false_iff.mpr c4
  subst c4
  rw [if_neg (show ¬ (false = true) by decide)] at H
  obtain rfl := Option.some.inj H
  go_enter Tryz.func51, Tryz.ntmps51
  go_wp2_with (first | ((with_reducible refine gate_dst (N := 2) rfl ?_); (try (refine gate_guard (by rfl) ?_; dsimp only)); refine zbx 2 #[.slice A0_0 l0_0.length c0_0, .slice A0_1 l0_1.length c0_1, .slice A0_2 l0_2.length c0_2] 33 ?_; intro gb296 hg w26 hbox hb; have BK296 := Aside0.mk (hbox); have GW296 := zs w hg; have GE296 := GW296; replace HB := zt w hb; clear hb hbox hg) | ((with_reducible refine gate_dst (N := 3) rfl ?_); (try (refine gate_guard (by rfl) ?_; dsimp only)); refine zbx 3 #[.string a1_0, .int .i64 a1_1, .int .i64 a1_2, .bool a1_3] 72 ?_; intro gb297 hg w27 hbox hb; have BK297 := Aside0.mk (hbox); have GW297 := zs w hg; have GE297 := GW297; have NB296_297 := zlt BK296 hg; have NB297_296 := zgt (zlt BK296 hg); replace BK296 := zk BK296 hb; replace HB := zt w hb; clear hb hbox hg; have hnb28 := NB297_296.out; have hnc28 := NB296_297.out; have hcz29_0 := zc0 BK297; have hcz29_1 := zc1 BK297; have hcz29_2 := zc2 BK297; have hcz29_3 := zc3 BK297; have hfz29_0 := blk_frozen BK297.out 0; have hfz29_1 := blk_frozen BK297.out 1; have hfz29_2 := blk_frozen BK297.out 2; have hfz29_3 := blk_frozen BK297.out 3) | (go_at_call 92; (with_reducible refine (impl_NameOk.calls k a1_0 false _ A3.out).mono ?_); rintro e w' ⟨rfl, ⟨nd, rfl⟩⟩; (try first | exact ⟨rfl, _, World.drewN_drewN _ _ _⟩ | exact ⟨rfl, _, Eq.trans (World.drewN_drewN _ _ _) (congrArg (World.drewN _) (Nat.add_assoc _ _ _))⟩)))
  repeat (go_quiet (fail); try go_wp2)
  go_ret
  exact ⟨ze _, zb _⟩

theorem impl_isSymbol.lessTot : ∀ x y : List UInt8, (Op.bytesLess x y || x == y) = !(Op.bytesLess y x)
 | [], [] => rfl
 | [], b :: y => by simp [Op.bytesLess]
 | a :: x, [] => by simp [Op.bytesLess]
 | a :: x, b :: y => by
  have ih := impl_isSymbol.lessTot x y
  simp only [Op.bytesLess]
  by_cases h1 : a < b
  ·have h2 : ¬ b < a := fun h => by have q1 := UInt8.lt_iff_toNat_lt.1 h1; have q2 := UInt8.lt_iff_toNat_lt.1 h; omega
   have h3 : ¬ b = a := fun h => by subst h; exact h2 h1
   simp [h1, h2, h3]
  ·by_cases h2 : b < a
   ·have h3 : ¬ a = b := fun h => by subst h; exact h1 h2
    simp [h1, h2, h3]
   ·have h3 : a = b := UInt8.toNat_inj.1 (by
     have q1 : ¬ a.toNat < b.toNat := fun h => h1 (UInt8.lt_iff_toNat_lt.2 h)
     have q2 : ¬ b.toNat < a.toNat := fun h => h2 (UInt8.lt_iff_toNat_lt.2 h)
     omega)
    subst h3
    simp [h1]
    simpa using ih
theorem impl_isSymbol.leqS (a b : ByteArray) (W : World) : (binOp BinOp.leq 9 (.string a) (.string b)).run Tryz.prog W = .ok (.bool (!(Op.bytesLess b.toList a.toList))) W := by
 rw [show binOp BinOp.leq 9 (.string a) (.string b) = pure (.bool (Op.bytesLess a.toList b.toList || a.toList == b.toList)) from by simp [binOp, Op.stringOp], impl_isSymbol.lessTot]
 rfl

def strings_Repeat.f (a0 : ByteArray) (a1 : Int) : Option ByteArray := if 0 ≤ a1 then (if a1 ≤ 9223372036854775807 then (if a0.size * a1.toNat ≤ 140737488355328 then some ⟨(Go.Lib.repeatL a0.data.toList a1.toNat).toArray⟩ else none) else none) else none
theorem strings_Repeat.calls (a0 : ByteArray) (a1 : Int) (r : ByteArray) (w : World) (h : strings_Repeat.f a0 a1 = some r) :
 Calls Tryz.prog 122 #[.string a0, .int .i64 a1] w fun e w' => e = .returned (.string r) ∧ Below w.heap.size w w' := by
 unfold strings_Repeat.f at h
 split at h
 ·split at h
  ·split at h
   ·obtain rfl := Option.some.inj h
    obtain ⟨c, rfl⟩ : ∃ c : Nat, a1 = (c : Int) := ⟨a1.toNat, by omega⟩
    exact Tryz.strings_Repeat a0 c w (by omega) (by simpa using ‹a0.size * (c : Int).toNat ≤ 140737488355328›)
   ·cases h
  ·cases h
 ·cases h

def impl_noughts.f (a0 : Int) : Option (ByteArray) := (strings_Repeat.f (⟨#[0]⟩ : ByteArray) a0).bind fun t303 => (some t303)
set_option maxHeartbeats 8000000 in
set_option maxRecDepth 100000 in
theorem impl_noughts.calls (a0 : Int) (r : ByteArray) (w : World) (h : impl_noughts.f a0 = some r) :
 Calls Tryz.prog 95 #[.int .i64 a0] w fun e w' => e = .returned (.string r) ∧ Below w.heap.size w w' := by
 have HB := Aside0.mk (Below.refl w.heap.size w)
 have H : ((strings_Repeat.f (⟨#[0]⟩ : ByteArray) a0).bind fun t303 => (some t303)) = some r := h
 clear h
 obtain ⟨t303, A20, H⟩ := Option.bind_eq_some_iff.mp H
 have A2 := Aside0.mk A20
 clear A20
 obtain rfl := Option.some.inj H
 go_enter Tryz.func95, Tryz.ntmps95
 go_wp2_with (first | ((with_reducible refine gate_callee (f := 122) rfl ?_); refine zc (some 4) Tryz.func122 #[.string (⟨#[0]⟩ : ByteArray), .int .i64 a0] ?_; (with_reducible refine (strings_Repeat.calls (⟨#[0]⟩ : ByteArray) a0 t303 _ A2.out).mono ?_); rintro e w3 ⟨rfl, hb⟩; refine ⟨_, rfl, ?_⟩; replace HB := zt w hb; (try clear hb); (try clear hb2); (try clear hk); (try clear hi)))
 go_ret
 exact ⟨ze _, zb _⟩

def impl_baseOf.f (a0 : Int) : Option (Int) := if a0 = 1 then (some 256) else (if a0 = 2 then (some 49152) else (some 0))
set_option maxHeartbeats 8000000 in
set_option maxRecDepth 100000 in
theorem impl_baseOf.calls (a0 : Int) (r : Int) (w : World) (h : impl_baseOf.f a0 = some r) :
 Calls Tryz.prog 96 #[.int .i64 a0] w fun e w' => e = .returned (.int .i64 r) ∧ Drawn0 w w' := by
 have H : (if a0 = 1 then (some 256) else (if a0 = 2 then (some 49152) else (some 0))) = some r := h
 clear h
 by_cases c2 : a0 = 1
 ·rw [if_pos c2] at H
  have c2b0 : (a0 == 1) = true := beq_iff_eq.mpr c2
  have c2b1 : (a0 != 1) = false := bne_eq_false_iff_eq.mpr c2
  clear c2
  obtain rfl := Option.some.inj H
  go_enter Tryz.func96, Tryz.ntmps96
  go_wp2
  go_ret
  exact ⟨zE _, zd _⟩
 ·rw [if_neg c2] at H
  have c2b0 : (a0 == 1) = false := beq_eq_false_iff_ne.mpr c2
  have c2b1 : (a0 != 1) = true := bne_iff_ne.mpr c2
  by_cases c3 : a0 = 2
  ·rw [if_pos c3] at H
   have c3b0 : (a0 == 2) = true := beq_iff_eq.mpr c3
   have c3b1 : (a0 != 2) = false := bne_eq_false_iff_eq.mpr c3
   clear c3
   obtain rfl := Option.some.inj H
   go_enter Tryz.func96, Tryz.ntmps96
   go_wp2
   go_ret
   exact ⟨zE _, zd _⟩
  ·rw [if_neg c3] at H
   have c3b0 : (a0 == 2) = false := beq_eq_false_iff_ne.mpr c3
   have c3b1 : (a0 != 2) = true := bne_iff_ne.mpr c3
   obtain rfl := Option.some.inj H
   go_enter Tryz.func96, Tryz.ntmps96
   go_wp2
   go_ret
   exact ⟨zE _, zd _⟩

def impl_isWord.f (a0 : Int) : Option (Bool) := (impl_within.f a0 0 65535).bind fun t304 => (some t304)
set_option maxHeartbeats 8000000 in
set_option maxRecDepth 100000 in
theorem impl_isWord.calls (a0 : Int) (r : Bool) (w : World) (h : impl_isWord.f a0 = some r) :
 Calls Tryz.prog 124 #[.int .i64 a0] w fun e w' => e = .returned (.bool r) ∧ Drawn0 w w' := by
 have H : ((impl_within.f a0 0 65535).bind fun t304 => (some t304)) = some r := h
 clear h
 obtain ⟨t304, A20, H⟩ := Option.bind_eq_some_iff.mp H
 have A2 := Aside0.mk A20
 clear A20
 obtain rfl := Option.some.inj H
 go_enter Tryz.func124, Tryz.ntmps124
 go_wp2_with (first | ((with_reducible refine gate_callee (f := 93) rfl ?_); refine zc (some 4) Tryz.func93 #[.int .i64 a0, .int .i64 0, .int .i64 65535] ?_; (with_reducible refine (impl_within.calls a0 0 65535 t304 _ A2.out).mono ?_); rintro e w' ⟨rfl, ⟨nd, rfl⟩⟩; refine ⟨_, rfl, ?_⟩))
 go_ret
 exact ⟨zE _, zd _⟩

end Go.Proofs.YtlacpadpdfccmaaGreatDoor.PFnExactObjectText
namespace Go.Proofs.YtlacpadpdfccmaaGreatDoor.PFnExactObjectText
open Go.RowKit Go.Proofs.YtlacpadpdfccmaaGreatDoor.Z Go.Proofs.YtlacpadpdfccmaaGreatDoorW.PrintWords Go.Proofs.YtlacpadpdfccmaaGreatDoorW.PrintLast Go.Proofs.YtlacpadpdfccmaaGreatDoorW.PrintMore
attribute [local go_sem] max2_int min2_int max_two min_two max_three min_three max_four min_four   -- for this text's walks alone
set_option linter.unusedVariables false
set_option linter.unusedSimpArgs false

def impl_isNode.j0 : Nat → Bool → Int → Int → ByteArray → Option (Bool)
  | 0, _, _, _, _ => none
  | k + 1, x15, x306000, x306001, x306002 => if x15 = true then (if x306001 = 0 then ((impl_NameOk.f k x306002).bind fun t307 => (some t307)) else (some false)) else ((impl_within.f x306000 4 17).bind fun t308 => (if t308 = true then (if x306001 = 0 then (some (x306002.toList == ([] : List UInt8))) else (some false)) else (some false)))
def impl_isNode.f (k : Nat) (a0_0 : Int) (a0_1 : Int) (a0_2 : ByteArray) : Option (Bool) := if a0_0 = 1 then ((impl_isWord.f a0_1).bind fun t306 => (if t306 = true then (some (a0_2.toList == ([] : List UInt8))) else (some false))) else (if a0_0 = 2 then (impl_isNode.j0 k true a0_0 a0_1 a0_2) else (impl_isNode.j0 k (a0_0 == 3) a0_0 a0_1 a0_2))
theorem impl_isNode.mono_l : ∀ k, (∀ y0 y1 y2 y3, LeO (impl_isNode.j0 k y0 y1 y2 y3) (impl_isNode.j0 (k + 1) y0 y1 y2 y3))
  | 0 => fun _ _ _ _ r h => by simp [impl_isNode.j0] at h
  | k + 1 => by
    have ih0 := impl_isNode.mono_l k
    · intro y0 y1 y2 y3
      unfold impl_isNode.j0
      repeat' with_reducible first | exact ih0 _ _ _ _ | exact impl_NameOk.mono _ _ | exact LeO.refl _ | exact LeO.none _ | refine LeO.ite ?_ ?_ | refine LeO.bind ?_ (fun _ => ?_)
theorem impl_isNode.mono : ∀ a0 a1 a2 k, LeO (impl_isNode.f k a0 a1 a2) (impl_isNode.f (k + 1) a0 a1 a2) := by
  intro a0 a1 a2 k
  have ih0 := impl_isNode.mono_l k
  unfold impl_isNode.f
  repeat' with_reducible first | exact ih0 _ _ _ _ | exact impl_NameOk.mono _ _ | exact LeO.refl _ | exact LeO.none _ | refine LeO.ite ?_ ?_ | refine LeO.bind ?_ (fun _ => ?_)
set_option maxHeartbeats 8000000 in
set_option maxRecDepth 100000 in
theorem impl_isNode.calls (k : Nat) (a0_0 : Int) (a0_1 : Int) (a0_2 : ByteArray) (r : Bool) (w : World) (h : impl_isNode.f k a0_0 a0_1 a0_2 = some r) :
 Calls Tryz.prog 101 #[.agg #[.int .i64 a0_0, .int .i64 a0_1, .string a0_2]] w fun e w' => e = .returned (.bool r) ∧ Below w.heap.size w w' := by
 have hu124 := Tryz.underlying124
 have HB := Aside0.mk (Below.refl w.heap.size w)
 have H : (if a0_0 = 1 then ((impl_isWord.f a0_1).bind fun t306 => (if t306 = true then (some (a0_2.toList == ([] : List UInt8))) else (some false))) else (if a0_0 = 2 then (impl_isNode.j0 k true a0_0 a0_1 a0_2) else (impl_isNode.j0 k (a0_0 == 3) a0_0 a0_1 a0_2))) = some r := h
 clear h
 by_cases c2 : a0_0 = 1
 ·rw [if_pos c2] at H
  have c2b0 : (a0_0 == 1) = true := beq_iff_eq.mpr c2
  have c2b1 : (a0_0 != 1) = false := bne_eq_false_iff_eq.mpr c2
  clear c2
  obtain ⟨t306, A30, H⟩ := Option.bind_eq_some_iff.mp H
  have A3 := Aside0.mk A30
  clear A30
  by_cases c4 : t306 = true
  ·subst c4
   rw [if_pos rfl] at H
   obtain rfl := Option.some.inj H
   go_enter Tryz.func101, Tryz.ntmps101
   go_wp2_with (first | ((with_reducible refine gate_dst (N := 1) rfl ?_); refine zbx 1 #[.int .i64 a0_0, .int .i64 a0_1, .string a0_2] 124 ?_; intro gb305 hg w5 hbox hb; have BK305 := Aside0.mk (hbox); have GW305 := zs w hg; have GE305 := GW305; replace HB := zt w hb; clear hb hbox hg; obtain ⟨hcz6_0, hcz6_1, hcz6_2, hfz6_0, hfz6_1, hfz6_2⟩ := zF3 BK305) | ((with_reducible refine gate_callee (f := 124) rfl ?_); refine zc (some 9) Tryz.func124 #[.int .i64 a0_1] ?_; (with_reducible refine (impl_isWord.calls a0_1 true _ A3.out).mono ?_); rintro e w' ⟨rfl, ⟨nd, rfl⟩⟩; refine ⟨_, rfl, ?_⟩))
   go_ret
   exact ⟨ze _, zb _⟩
  ·replace c4 := Bool.eq_false_iff.mpr c4
   subst c4
   rw [if_neg (show ¬ (false = true) by decide)] at H
   obtain rfl := Option.some.inj H
   go_enter Tryz.func101, Tryz.ntmps101
   go_wp2_with (first | ((with_reducible refine gate_dst (N := 1) rfl ?_); refine zbx 1 #[.int .i64 a0_0, .int .i64 a0_1, .string a0_2] 124 ?_; intro gb305 hg w7 hbox hb; have BK305 := Aside0.mk (hbox); have GW305 := zs w hg; have GE305 := GW305; replace HB := zt w hb; clear hb hbox hg; obtain ⟨hcz8_0, hcz8_1, hcz8_2, hfz8_0, hfz8_1, hfz8_2⟩ := zF3 BK305) | ((with_reducible refine gate_callee (f := 124) rfl ?_); refine zc (some 9) Tryz.func124 #[.int .i64 a0_1] ?_; (with_reducible refine (impl_isWord.calls a0_1 false _ A3.out).mono ?_); rintro e w' ⟨rfl, ⟨nd, rfl⟩⟩; refine ⟨_, rfl, ?_⟩))
   go_ret
   exact ⟨ze _, zb _⟩
 ·rw [if_neg c2] at H
  have c2b0 : (a0_0 == 1) = false := beq_eq_false_iff_ne.mpr c2
  have c2b1 : (a0_0 != 1) = true := bne_iff_ne.mpr c2
  have HC9 := Aside0.mk H
  clear H
  go_enter Tryz.func101, Tryz.ntmps101
  go_upto_region 3 with (first | ((with_reducible refine gate_dst (N := 1) rfl ?_); refine zbx 1 #[.int .i64 a0_0, .int .i64 a0_1, .string a0_2] 124 ?_; intro gb305 hg w10 hbox hb; have BK305 := Aside0.mk (hbox); have GW305 := zs w hg; have GE305 := GW305; replace HB := zt w hb; clear hb hbox hg; obtain ⟨hcz11_0, hcz11_1, hcz11_2, hfz11_0, hfz11_1, hfz11_2⟩ := zF3 BK305))
  (try simp only [Act.put, List.setIfInBounds_toArray, List.set_cons_zero, List.set_cons_succ])
  go_cut [15] (fun v15 wc => ∃ (kq : Nat) (x15_8 : Bool), v15 = .bool x15_8 ∧ Aside0 (impl_isNode.j0 kq x15_8 a0_0 a0_1 a0_2 = some r) ∧ Aside0 (kq ≤ k) ∧ Aside0 (wc.heap[gb305]? = some (.cells #[.int .i64 a0_0, .int .i64 a0_1, .string a0_2] 124 (0, 0))) ∧ Aside0 (Below w.heap.size w wc))
  case first =>
   have H := HC9.out
   clear HC9
   by_cases c12 : a0_0 = 2
   ·rw [if_pos c12] at H
    have c12b0 : (a0_0 == 2) = true := beq_iff_eq.mpr c12
    have c12b1 : (a0_0 != 2) = false := bne_eq_false_iff_eq.mpr c12
    clear c12
    (first | rw [c12b0] | (simp only [i64_w, i32_w]; rw [c12b0]) | skip)
    have H' := Aside0.mk H
    clear H
    obtain ⟨hcz13_0, hcz13_1, hcz13_2, hfz13_0, hfz13_1, hfz13_2⟩ := zF3 BK305
    go_wp2
    go_meet
    case rel => exact ⟨_, (true), (zE _), H', ⟨by first | omega | exact Nat.le_refl _⟩, ⟨zr BK305⟩, ⟨zb _⟩⟩
   ·rw [if_neg c12] at H
    have c12b0 : (a0_0 == 2) = false := beq_eq_false_iff_ne.mpr c12
    have c12b1 : (a0_0 != 2) = true := bne_iff_ne.mpr c12
    (first | rw [c12b0] | (simp only [i64_w, i32_w]; rw [c12b0]) | skip)
    have H' := Aside0.mk H
    clear H
    obtain ⟨hcz14_0, hcz14_1, hcz14_2, hfz14_0, hfz14_1, hfz14_2⟩ := zF3 BK305
    go_wp2
    go_meet
    case rel => exact ⟨_, ((a0_0 == 3)), (zE _), H', ⟨by first | omega | exact Nat.le_refl _⟩, ⟨zr BK305⟩, ⟨zb _⟩⟩
  case rest =>
   clear HC9
   obtain ⟨kq, x15_8, rfl, HA, HJ8, BK305, HB⟩ := hcut
   cases kq with
   | zero => exact absurd HA.out (by simp [impl_isNode.j0])
   | succ kj8 =>
    have H := HA.out
    clear HA
    simp only [impl_isNode.j0] at H
    by_cases c15 : x15_8 = true
    ·subst c15
     rw [if_pos rfl] at H
     by_cases c16 : a0_1 = 0
     ·rw [if_pos c16] at H
      have c16b0 : (a0_1 == 0) = true := beq_iff_eq.mpr c16
      have c16b1 : (a0_1 != 0) = false := bne_eq_false_iff_eq.mpr c16
      clear c16
      obtain ⟨t307, A170, H⟩ := Option.bind_eq_some_iff.mp H
      have A17 := Aside0.mk A170
      clear A170
      obtain rfl := Option.some.inj H
      obtain ⟨hcz18_0, hcz18_1, hcz18_2, hfz18_0, hfz18_1, hfz18_2⟩ := zF3 BK305
      go_wp2_with (first | (go_at_call 92; (with_reducible refine (impl_NameOk.calls kj8 a0_2 t307 _ A17.out).mono ?_); rintro e w' ⟨rfl, ⟨nd, rfl⟩⟩))
      go_ret
      exact ⟨ze _, zb _⟩
     ·rw [if_neg c16] at H
      have c16b0 : (a0_1 == 0) = false := beq_eq_false_iff_ne.mpr c16
      have c16b1 : (a0_1 != 0) = true := bne_iff_ne.mpr c16
      obtain rfl := Option.some.inj H
      obtain ⟨hcz19_0, hcz19_1, hcz19_2, hfz19_0, hfz19_1, hfz19_2⟩ := zF3 BK305
      go_wp2
      go_ret
      exact ⟨ze _, zb _⟩
    ·replace c15 := Bool.eq_false_iff.mpr c15
     subst c15
     rw [if_neg (show ¬ (false = true) by decide)] at H
     obtain ⟨t308, A200, H⟩ := Option.bind_eq_some_iff.mp H
     have A20 := Aside0.mk A200
     clear A200
     by_cases c21 : t308 = true
     ·subst c21
      rw [if_pos rfl] at H
      by_cases c22 : a0_1 = 0
      ·rw [if_pos c22] at H
       have c22b0 : (a0_1 == 0) = true := beq_iff_eq.mpr c22
       have c22b1 : (a0_1 != 0) = false := bne_eq_false_iff_eq.mpr c22
       clear c22
       obtain rfl := Option.some.inj H
       obtain ⟨hcz23_0, hcz23_1, hcz23_2, hfz23_0, hfz23_1, hfz23_2⟩ := zF3 BK305
       go_wp2_with (first | ((with_reducible refine gate_callee (f := 93) rfl ?_); refine zc (some 34) Tryz.func93 #[.int .i64 a0_0, .int .i64 4, .int .i64 17] ?_; (with_reducible refine (impl_within.calls a0_0 4 17 true _ A20.out).mono ?_); rintro e w' ⟨rfl, ⟨nd, rfl⟩⟩; refine ⟨_, rfl, ?_⟩))
       go_ret
       exact ⟨ze _, zb _⟩
      ·rw [if_neg c22] at H
       have c22b0 : (a0_1 == 0) = false := beq_eq_false_iff_ne.mpr c22
       have c22b1 : (a0_1 != 0) = true := bne_iff_ne.mpr c22
       obtain rfl := Option.some.inj H
       obtain ⟨hcz24_0, hcz24_1, hcz24_2, hfz24_0, hfz24_1, hfz24_2⟩ := zF3 BK305
       go_wp2_with (first | ((with_reducible refine gate_callee (f := 93) rfl ?_); refine zc (some 34) Tryz.func93 #[.int .i64 a0_0, .int .i64 4, .int .i64 17] ?_; (with_reducible refine (impl_within.calls a0_0 4 17 true _ A20.out).mono ?_); rintro e w' ⟨rfl, ⟨nd, rfl⟩⟩; refine ⟨_, rfl, ?_⟩))
       go_ret
       exact ⟨ze _, zb _⟩
     ·replace c21 := Bool.eq_false_iff.mpr c21
      subst c21
      rw [if_neg (show ¬ (false = true) by decide)] at H
      obtain rfl := Option.some.inj H
      obtain ⟨hcz25_0, hcz25_1, hcz25_2, hfz25_0, hfz25_1, hfz25_2⟩ := zF3 BK305
      go_wp2_with (first | ((with_reducible refine gate_callee (f := 93) rfl ?_); refine zc (some 34) Tryz.func93 #[.int .i64 a0_0, .int .i64 4, .int .i64 17] ?_; (with_reducible refine (impl_within.calls a0_0 4 17 false _ A20.out).mono ?_); rintro e w' ⟨rfl, ⟨nd, rfl⟩⟩; refine ⟨_, rfl, ?_⟩))
      go_ret
      exact ⟨ze _, zb _⟩

def impl_ExprOk.l0 : Nat → Int → List (S124) → Int → Int → Option (Bool)
  | 0, _, _, _, _ => none
  | k + 1, x3, x9, x10, x11 => if x11 < x10 then (if 0 ≤ x11 then (if x11 < (x9.length : Int) then ((impl_isNode.f k ((rd_T124 x9 x11).f0) ((rd_T124 x9 x11).f1) ((rd_T124 x9 x11).f2)).bind fun t311 => (if t311 = true then (if ((rd_T124 x9 x11).f0) ≤ 3 then (impl_ExprOk.l0 k (wrap64 (x3 + 1)) x9 x10 (wrap64 (x11 + 1))) else (if ((rd_T124 x9 x11).f0) ≤ 7 then (if x3 < 1 then (some false) else (impl_ExprOk.l0 k x3 x9 x10 (wrap64 (x11 + 1)))) else (if x3 < 2 then (some false) else (impl_ExprOk.l0 k (wrap64 (x3 - 1)) x9 x10 (wrap64 (x11 + 1)))))) else (some false))) else (none)) else (none)) else (some (x3 == 1))
def impl_ExprOk.f (k : Nat) (l0 : List (S124)) : Option (Bool) := if (l0.length : Int) > 30 then (some false) else (impl_ExprOk.l0 k 0 l0 (l0.length : Int) 0)
theorem impl_ExprOk.mono_l : ∀ k, (∀ y0 y1 y2 y3, LeO (impl_ExprOk.l0 k y0 y1 y2 y3) (impl_ExprOk.l0 (k + 1) y0 y1 y2 y3))
  | 0 => fun _ _ _ _ r h => by simp [impl_ExprOk.l0] at h
  | k + 1 => by
    have ih0 := impl_ExprOk.mono_l k
    · intro y0 y1 y2 y3
      unfold impl_ExprOk.l0
      repeat' with_reducible first | exact ih0 _ _ _ _ | exact impl_isNode.mono _ _ _ _ | exact LeO.refl _ | exact LeO.none _ | refine LeO.ite ?_ ?_ | refine LeO.bind ?_ (fun _ => ?_)
theorem impl_ExprOk.mono : ∀ a0 k, LeO (impl_ExprOk.f k a0) (impl_ExprOk.f (k + 1) a0) := by
  intro a0 k
  have ih0 := impl_ExprOk.mono_l k
  unfold impl_ExprOk.f
  repeat' with_reducible first | exact ih0 _ _ _ _ | exact impl_isNode.mono _ _ _ _ | exact LeO.refl _ | exact LeO.none _ | refine LeO.ite ?_ ?_ | refine LeO.bind ?_ (fun _ => ?_)
set_option maxHeartbeats 8000000 in
set_option maxRecDepth 100000 in
theorem impl_ExprOk.calls (k : Nat) (A0 : Option Addr) (c0 : Nat) (l0 : List (S124)) (r : Bool) (w : World) (hr0 : Kd.C k124 w A0 l0.length l0) (hc0 : l0.length ≤ c0) (h : impl_ExprOk.f k l0 = some r) :
 Calls Tryz.prog 57 #[.slice A0 l0.length c0] w fun e w' => e = .returned (.bool r) ∧ Below w.heap.size w w' := by
 have hu124 := Tryz.underlying124
 have HR0 := Aside0.mk hr0
 have HC0 := Aside0.mk hc0
 clear hr0 hc0
 have HB := Aside0.mk (Below.refl w.heap.size w)
 have H : (if (l0.length : Int) > 30 then (some false) else (impl_ExprOk.l0 k 0 l0 (l0.length : Int) 0)) = some r := h
 clear h
 by_cases c2 : (l0.length : Int) > 30
 ·rw [if_pos c2] at H
  have c2b0 : decide (30 < (l0.length : Int)) = true := decide_eq_true c2
  have c2b1 : decide (30 < l0.length) = true := decide_eq_true (by omega)
  clear c2
  obtain rfl := Option.some.inj H
  go_enter Tryz.func57, Tryz.ntmps57
  go_wp2
  go_ret
  exact ⟨ze _, zb _⟩
 ·rw [if_neg c2] at H
  have c2b0 : decide (30 < (l0.length : Int)) = false := decide_eq_false c2
  have c2b1 : decide (30 < l0.length) = false := decide_eq_false (by omega)
  clear c2
  have H' := Aside0.mk H
  clear H
  go_enter Tryz.func57, Tryz.ntmps57
  go_wp2
  go_loopg [3, 11] k (fun kq v3 v11 w' => ∃ (x3_1 : Int) (x11_1 : Int), v3 = .int .i64 x3_1 ∧ v11 = .int .i64 x11_1 ∧ Aside0 (impl_ExprOk.l0 kq x3_1 l0 (l0.length : Int) x11_1 = some r) ∧ Aside0 (kq ≤ k) ∧ Aside0 (Below w.heap.size w w'))
  case atStart => exact ⟨(0), (0), (zE _), (zE _), H', ⟨Nat.le_refl _⟩, ⟨zb _⟩⟩
  case round =>
   clear H'
   obtain ⟨x3_1, x11_1, rfl, rfl, HA, HK1, HB⟩ := hrel
   cases gk with
   | zero => exact absurd HA.out (by simp [impl_ExprOk.l0])
   | succ k1 =>
    have H := HA.out
    clear HA
    simp only [impl_ExprOk.l0] at H
    by_cases c3 : x11_1 < (l0.length : Int)
    ·rw [if_pos c3] at H
     have c3b0 : decide (x11_1 < (l0.length : Int)) = true := decide_eq_true c3
     clear c3
     by_cases c4 : 0 ≤ x11_1
     ·rw [if_pos c4] at H
      have c4b0 : decide (0 ≤ x11_1) = true := decide_eq_true c4
      clear c4
      by_cases c5 : x11_1 < (l0.length : Int)
      ·rw [if_pos c5] at H
       have c5b0 : decide (x11_1 < (l0.length : Int)) = true := decide_eq_true c5
       clear c5
       obtain ⟨t311, A60, H⟩ := Option.bind_eq_some_iff.mp H
       have A6 := Aside0.mk A60
       clear A60
       by_cases c7 : t311 = true
       ·subst c7
        rw [if_pos rfl] at H
        by_cases c8 : ((rd_T124 l0 x11_1).f0) ≤ 3
        ·rw [if_pos c8] at H
         have c8b0 : decide (((rd_T124 l0 x11_1).f0) ≤ 3) = true := decide_eq_true c8
         clear c8
         have H' := Aside0.mk H
         clear H
         have p309 : 0 ≤ (x11_1 : Int) := of_decide_eq_true (za _)
         have q309 : x11_1 < (l0.length : Int) := of_decide_eq_true (za _)
         obtain ⟨ad309, e309, hx309_0, hx309_1, hx309_2⟩ := at_T124 HR0.out x11_1 p309 q309
         cases e309
         replace hx309_0 := zx HB hx309_0
         replace hx309_1 := zx HB hx309_1
         replace hx309_2 := zx HB hx309_2
         replace p309 := eq_true p309
         replace q309 := eq_true q309
         go_wp2_with (first | ((with_reducible refine gate_dst (N := 5) rfl ?_); refine zbx 5 #[.int .i64 0, .int .i64 0, .string (⟨#[]⟩ : ByteArray)] 124 ?_; intro gb310 hg w9 hbox hb; have BK310 := Aside0.mk (hbox); have GW310 := zs w hg; have GE310 := GW310; replace HB := zt w hb; clear hb hbox hg; obtain ⟨hcz10_0, hcz10_1, hcz10_2, hfz10_0, hfz10_1, hfz10_2⟩ := zF3 BK310) | ((with_reducible refine gate_callee (f := 101) rfl ?_); refine zc (some 16) Tryz.func101 #[.agg #[.int .i64 ((rd_T124 l0 x11_1).f0), .int .i64 ((rd_T124 l0 x11_1).f1), .string ((rd_T124 l0 x11_1).f2)]] ?_; (with_reducible refine (impl_isNode.calls k1 ((rd_T124 l0 x11_1).f0) ((rd_T124 l0 x11_1).f1) ((rd_T124 l0 x11_1).f2) true _ A6.out).mono ?_); rintro e w11 ⟨rfl, hb⟩; refine ⟨_, rfl, ?_⟩; replace BK310 := zkw (g := gb310) (o := .cells #[.int .i64 ((rd_T124 l0 x11_1).f0), .int .i64 ((rd_T124 l0 x11_1).f1), .string ((rd_T124 l0 x11_1).f2)] 124 (0, 0)) hb; replace HB := zt w hb; (try clear hb); (try clear hb2); (try clear hk); (try clear hi); obtain ⟨hcz12_0, hcz12_1, hcz12_2, hfz12_0, hfz12_1, hfz12_2⟩ := zF3 BK310))
         go_roundg k1
         case measure => have := HK1.out; omega
         case rel => exact ⟨(wrap64 (x3_1 + 1)), (wrap64 (x11_1 + 1)), (zE _), (zE _), H', ⟨by have := HK1.out; omega⟩, ⟨zb _⟩⟩
        ·rw [if_neg c8] at H
         have c8b0 : decide (((rd_T124 l0 x11_1).f0) ≤ 3) = false := decide_eq_false c8
         clear c8
         by_cases c13 : ((rd_T124 l0 x11_1).f0) ≤ 7
         ·rw [if_pos c13] at H
          have c13b0 : decide (((rd_T124 l0 x11_1).f0) ≤ 7) = true := decide_eq_true c13
          clear c13
          by_cases c14 : x3_1 < 1
          ·rw [if_pos c14] at H
           have c14b0 : decide (x3_1 < 1) = true := decide_eq_true c14
           clear c14
           obtain rfl := Option.some.inj H
           have p309 : 0 ≤ (x11_1 : Int) := of_decide_eq_true (za _)
           have q309 : x11_1 < (l0.length : Int) := of_decide_eq_true (za _)
           obtain ⟨ad309, e309, hx309_0, hx309_1, hx309_2⟩ := at_T124 HR0.out x11_1 p309 q309
           cases e309
           replace hx309_0 := zx HB hx309_0
           replace hx309_1 := zx HB hx309_1
           replace hx309_2 := zx HB hx309_2
           replace p309 := eq_true p309
           replace q309 := eq_true q309
           go_wp2_with (first | ((with_reducible refine gate_dst (N := 5) rfl ?_); refine zbx 5 #[.int .i64 0, .int .i64 0, .string (⟨#[]⟩ : ByteArray)] 124 ?_; intro gb310 hg w15 hbox hb; have BK310 := Aside0.mk (hbox); have GW310 := zs w hg; have GE310 := GW310; replace HB := zt w hb; clear hb hbox hg; obtain ⟨hcz16_0, hcz16_1, hcz16_2, hfz16_0, hfz16_1, hfz16_2⟩ := zF3 BK310) | ((with_reducible refine gate_callee (f := 101) rfl ?_); refine zc (some 16) Tryz.func101 #[.agg #[.int .i64 ((rd_T124 l0 x11_1).f0), .int .i64 ((rd_T124 l0 x11_1).f1), .string ((rd_T124 l0 x11_1).f2)]] ?_; (with_reducible refine (impl_isNode.calls k1 ((rd_T124 l0 x11_1).f0) ((rd_T124 l0 x11_1).f1) ((rd_T124 l0 x11_1).f2) true _ A6.out).mono ?_); rintro e w17 ⟨rfl, hb⟩; refine ⟨_, rfl, ?_⟩; replace BK310 := zkw (g := gb310) (o := .cells #[.int .i64 ((rd_T124 l0 x11_1).f0), .int .i64 ((rd_T124 l0 x11_1).f1), .string ((rd_T124 l0 x11_1).f2)] 124 (0, 0)) hb; replace HB := zt w hb; (try clear hb); (try clear hb2); (try clear hk); (try clear hi); obtain ⟨hcz18_0, hcz18_1, hcz18_2, hfz18_0, hfz18_1, hfz18_2⟩ := zF3 BK310))
           go_ret
           exact ⟨ze _, zb _⟩
          ·rw [if_neg c14] at H
           have c14b0 : decide (x3_1 < 1) = false := decide_eq_false c14
           clear c14
           have H' := Aside0.mk H
           clear H
           have p309 : 0 ≤ (x11_1 : Int) := of_decide_eq_true (za _)
           have q309 : x11_1 < (l0.length : Int) := of_decide_eq_true (za _)
           obtain ⟨ad309, e309, hx309_0, hx309_1, hx309_2⟩ := at_T124 HR0.out x11_1 p309 q309
           cases e309
           replace hx309_0 := zx HB hx309_0
           replace hx309_1 := zx HB hx309_1
           replace hx309_2 := zx HB hx309_2
           replace p309 := eq_true p309
           replace q309 := eq_true q309
           go_wp2_with (first | ((with_reducible refine gate_dst (N := 5) rfl ?_); refine zbx 5 #[.int .i64 0, .int .i64 0, .string (⟨#[]⟩ : ByteArray)] 124 ?_; intro gb310 hg w19 hbox hb; have BK310 := Aside0.mk (hbox); have GW310 := zs w hg; have GE310 := GW310; replace HB := zt w hb; clear hb hbox hg; obtain ⟨hcz20_0, hcz20_1, hcz20_2, hfz20_0, hfz20_1, hfz20_2⟩ := zF3 BK310) | ((with_reducible refine gate_callee (f := 101) rfl ?_); refine zc (some 16) Tryz.func101 #[.agg #[.int .i64 ((rd_T124 l0 x11_1).f0), .int .i64 ((rd_T124 l0 x11_1).f1), .string ((rd_T124 l0 x11_1).f2)]] ?_; (with_reducible refine (impl_isNode.calls k1 ((rd_T124 l0 x11_1).f0) ((rd_T124 l0 x11_1).f1) ((rd_T124 l0 x11_1).f2) true _ A6.out).mono ?_); rintro e w21 ⟨rfl, hb⟩; refine ⟨_, rfl, ?_⟩; replace BK310 := zkw (g := gb310) (o := .cells #[.int .i64 ((rd_T124 l0 x11_1).f0), .int .i64 ((rd_T124 l0 x11_1).f1), .string ((rd_T124 l0 x11_1).f2)] 124 (0, 0)) hb; replace HB := zt w hb; (try clear hb); (try clear hb2); (try clear hk); (try clear hi); obtain ⟨hcz22_0, hcz22_1, hcz22_2, hfz22_0, hfz22_1, hfz22_2⟩ := zF3 BK310))
           go_roundg k1
           case measure => have := HK1.out; omega
           case rel => exact ⟨(x3_1), (wrap64 (x11_1 + 1)), (zE _), (zE _), H', ⟨by have := HK1.out; omega⟩, ⟨zb _⟩⟩
         ·rw [if_neg c13] at H
          have c13b0 : decide (((rd_T124 l0 x11_1).f0) ≤ 7) = false := decide_eq_false c13
          clear c13
          by_cases c23 : x3_1 < 2
          ·rw [if_pos c23] at H
           have c23b0 : decide (x3_1 < 2) = true := decide_eq_true c23
           clear c23
           obtain rfl := Option.some.inj H
           have p309 : 0 ≤ (x11_1 : Int) := of_decide_eq_true (za _)
           have q309 : x11_1 < (l0.length : Int) := of_decide_eq_true (za _)
           obtain ⟨ad309, e309, hx309_0, hx309_1, hx309_2⟩ := at_T124 HR0.out x11_1 p309 q309
           cases e309
           replace hx309_0 := zx HB hx309_0
           replace hx309_1 := zx HB hx309_1
           replace hx309_2 := zx HB hx309_2
           replace p309 := eq_true p309
           replace q309 := eq_true q309
           go_wp2_with (first | ((with_reducible refine gate_dst (N := 5) rfl ?_); refine zbx 5 #[.int .i64 0, .int .i64 0, .string (⟨#[]⟩ : ByteArray)] 124 ?_; intro gb310 hg w24 hbox hb; have BK310 := Aside0.mk (hbox); have GW310 := zs w hg; have GE310 := GW310; replace HB := zt w hb; clear hb hbox hg; obtain ⟨hcz25_0, hcz25_1, hcz25_2, hfz25_0, hfz25_1, hfz25_2⟩ := zF3 BK310) | ((with_reducible refine gate_callee (f := 101) rfl ?_); refine zc (some 16) Tryz.func101 #[.agg #[.int .i64 ((rd_T124 l0 x11_1).f0), .int .i64 ((rd_T124 l0 x11_1).f1), .string ((rd_T124 l0 x11_1).f2)]] ?_; (with_reducible refine (impl_isNode.calls k1 ((rd_T124 l0 x11_1).f0) ((rd_T124 l0 x11_1).f1) ((rd_T124 l0 x11_1).f2) true _ A6.out).mono ?_); rintro e w26 ⟨rfl, hb⟩; refine ⟨_, rfl, ?_⟩; replace BK310 := zkw (g := gb310) (o := .cells #[.int .i64 ((rd_T124 l0 x11_1).f0), .int .i64 ((rd_T124 l0 x11_1).f1), .string ((rd_T124 l0 x11_1).f2)] 124 (0, 0)) hb; replace HB := zt w hb; (try clear hb); (try clear hb2); (try clear hk); (try clear hi); obtain ⟨hcz27_0, hcz27_1, hcz27_2, hfz27_0, hfz27_1, hfz27_2⟩ := zF3 BK310))
           go_ret
           exact ⟨ze _, zb _⟩
          ·rw [if_neg c23] at H
           have c23b0 : decide (x3_1 < 2) = false := decide_eq_false c23
           clear c23
           have H' := Aside0.mk H
           clear H
           have p309 : 0 ≤ (x11_1 : Int) := of_decide_eq_true (za _)
           have q309 : x11_1 < (l0.length : Int) := of_decide_eq_true (za _)
           obtain ⟨ad309, e309, hx309_0, hx309_1, hx309_2⟩ := at_T124 HR0.out x11_1 p309 q309
           cases e309
           replace hx309_0 := zx HB hx309_0
           replace hx309_1 := zx HB hx309_1
           replace hx309_2 := zx HB hx309_2
           replace p309 := eq_true p309
           replace q309 := eq_true q309
           go_wp2_with (first | ((with_reducible refine gate_dst (N := 5) rfl ?_); refine zbx 5 #[.int .i64 0, .int .i64 0, .string (⟨#[]⟩ : ByteArray)] 124 ?_; intro gb310 hg w28 hbox hb; have BK310 := Aside0.mk (hbox); have GW310 := zs w hg; have GE310 := GW310; replace HB := zt w hb; clear hb hbox hg; obtain ⟨hcz29_0, hcz29_1, hcz29_2, hfz29_0, hfz29_1, hfz29_2⟩ := zF3 BK310) | ((with_reducible refine gate_callee (f := 101) rfl ?_); refine zc (some 16) Tryz.func101 #[.agg #[.int .i64 ((rd_T124 l0 x11_1).f0), .int .i64 ((rd_T124 l0 x11_1).f1), .string ((rd_T124 l0 x11_1).f2)]] ?_; (with_reducible refine (impl_isNode.calls k1 ((rd_T124 l0 x11_1).f0) ((rd_T124 l0 x11_1).f1) ((rd_T124 l0 x11_1).f2) true _ A6.out).mono ?_); rintro e w30 ⟨rfl, hb⟩; refine ⟨_, rfl, ?_⟩; replace BK310 := zkw (g := gb310) (o := .cells #[.int .i64 ((rd_T124 l0 x11_1).f0), .int .i64 ((rd_T124 l0 x11_1).f1), .string ((rd_T124 l0 x11_1).f2)] 124 (0, 0)) hb; replace HB := zt w hb; (try clear hb); (try clear hb2); (try clear hk); (try clear hi); obtain ⟨hcz31_0, hcz31_1, hcz31_2, hfz31_0, hfz31_1, hfz31_2⟩ := zF3 BK310))
           go_roundg k1
           case measure => have := HK1.out; omega
           case rel => exact ⟨(wrap64 (x3_1 - 1)), (wrap64 (x11_1 + 1)), (zE _), (zE _), H', ⟨by have := HK1.out; omega⟩, ⟨zb _⟩⟩
       ·replace c7 := Bool.eq_false_iff.mpr c7
        subst c7
        rw [if_neg (show ¬ (false = true) by decide)] at H
        obtain rfl := Option.some.inj H
        have p309 : 0 ≤ (x11_1 : Int) := of_decide_eq_true (za _)
        have q309 : x11_1 < (l0.length : Int) := of_decide_eq_true (za _)
        obtain ⟨ad309, e309, hx309_0, hx309_1, hx309_2⟩ := at_T124 HR0.out x11_1 p309 q309
        cases e309
        replace hx309_0 := zx HB hx309_0
        replace hx309_1 := zx HB hx309_1
        replace hx309_2 := zx HB hx309_2
        replace p309 := eq_true p309
        replace q309 := eq_true q309
        go_wp2_with (first | ((with_reducible refine gate_dst (N := 5) rfl ?_); refine zbx 5 #[.int .i64 0, .int .i64 0, .string (⟨#[]⟩ : ByteArray)] 124 ?_; intro gb310 hg w32 hbox hb; have BK310 := Aside0.mk (hbox); have GW310 := zs w hg; have GE310 := GW310; replace HB := zt w hb; clear hb hbox hg; obtain ⟨hcz33_0, hcz33_1, hcz33_2, hfz33_0, hfz33_1, hfz33_2⟩ := zF3 BK310) | ((with_reducible refine gate_callee (f := 101) rfl ?_); refine zc (some 16) Tryz.func101 #[.agg #[.int .i64 ((rd_T124 l0 x11_1).f0), .int .i64 ((rd_T124 l0 x11_1).f1), .string ((rd_T124 l0 x11_1).f2)]] ?_; (with_reducible refine (impl_isNode.calls k1 ((rd_T124 l0 x11_1).f0) ((rd_T124 l0 x11_1).f1) ((rd_T124 l0 x11_1).f2) false _ A6.out).mono ?_); rintro e w34 ⟨rfl, hb⟩; refine ⟨_, rfl, ?_⟩; replace BK310 := zkw (g := gb310) (o := .cells #[.int .i64 ((rd_T124 l0 x11_1).f0), .int .i64 ((rd_T124 l0 x11_1).f1), .string ((rd_T124 l0 x11_1).f2)] 124 (0, 0)) hb; replace HB := zt w hb; (try clear hb); (try clear hb2); (try clear hk); (try clear hi)))
        go_ret
        exact ⟨ze _, zb _⟩
      ·rw [if_neg c5] at H
       exact absurd H (by simp)
     ·rw [if_neg c4] at H
      exact absurd H (by simp)
    ·rw [if_neg c3] at H
     have c3b0 : decide (x11_1 < (l0.length : Int)) = false := decide_eq_false c3
     clear c3
     obtain rfl := Option.some.inj H
     go_wp2
     go_ret
     exact ⟨ze _, zb _⟩

def impl_isPatch.f (k : Nat) (a0_0 : ByteArray) (a0_1 : Int) (a0_2 : Int) (a0_3 : Int) (a0_4 : ByteArray) (l0_5 : List (S79)) (a1_0 : Int) (a1_1 : Int) (l1_2 : List (S124)) : Option (Bool) := if a1_1 = 2 then ((impl_within.f a1_1 1 3).bind fun t314 => (if t314 = true then ((impl_within.f a1_0 0 (wrap64 ((a0_4.size : Int) - 2))).bind fun t315 => (if t315 = true then ((impl_ExprOk.f k l1_2).bind fun t316 => (some t316)) else (some false))) else (some false))) else ((impl_within.f a1_1 1 3).bind fun t317 => (if t317 = true then ((impl_within.f a1_0 0 (wrap64 ((a0_4.size : Int) - 1))).bind fun t318 => (if t318 = true then ((impl_ExprOk.f k l1_2).bind fun t319 => (some t319)) else (some false))) else (some false)))
theorem impl_isPatch.mono : ∀ a0 a1 a2 a3 a4 a5 a6 a7 a8 k, LeO (impl_isPatch.f k a0 a1 a2 a3 a4 a5 a6 a7 a8) (impl_isPatch.f (k + 1) a0 a1 a2 a3 a4 a5 a6 a7 a8) := by
  intro a0 a1 a2 a3 a4 a5 a6 a7 a8 k
  unfold impl_isPatch.f
  repeat' with_reducible first | exact impl_ExprOk.mono _ _ | exact LeO.refl _ | exact LeO.none _ | refine LeO.ite ?_ ?_ | refine LeO.bind ?_ (fun _ => ?_)
set_option maxHeartbeats 8000000 in
set_option maxRecDepth 100000 in
theorem impl_isPatch.calls (k : Nat) (a0_0 : ByteArray) (a0_1 : Int) (a0_2 : Int) (a0_3 : Int) (a0_4 : ByteArray) (A0_5 : Option Addr) (c0_5 : Nat) (l0_5 : List (S79)) (a1_0 : Int) (a1_1 : Int) (A1_2 : Option Addr) (c1_2 : Nat) (l1_2 : List (S124)) (r : Bool) (w : World) (hr0_5 : Kd.C k79 w A0_5 l0_5.length l0_5) (hc0_5 : l0_5.length ≤ c0_5) (hr1_2 : Kd.C k124 w A1_2 l1_2.length l1_2) (hc1_2 : l1_2.length ≤ c1_2) (h : impl_isPatch.f k a0_0 a0_1 a0_2 a0_3 a0_4 l0_5 a1_0 a1_1 l1_2 = some r) :
 Calls Tryz.prog 99 #[.agg #[.string a0_0, .int .i64 a0_1, .int .i64 a0_2, .int .i64 a0_3, .string a0_4, .slice A0_5 l0_5.length c0_5], .agg #[.int .i64 a1_0, .int .i64 a1_1, .slice A1_2 l1_2.length c1_2]] w fun e w' => e = .returned (.bool r) ∧ Below w.heap.size w w' := by
 have hu71 := Tryz.underlying71
 have hu79 := Tryz.underlying79
 have HR0_5 := Aside0.mk hr0_5
 have HC0_5 := Aside0.mk hc0_5
 clear hr0_5 hc0_5
 have HR1_2 := Aside0.mk hr1_2
 have HC1_2 := Aside0.mk hc1_2
 clear hr1_2 hc1_2
 have HB := Aside0.mk (Below.refl w.heap.size w)
 have H : (if a1_1 = 2 then ((impl_within.f a1_1 1 3).bind fun t314 => (if t314 = true then ((impl_within.f a1_0 0 (wrap64 ((a0_4.size : Int) - 2))).bind fun t315 => (if t315 = true then ((impl_ExprOk.f k l1_2).bind fun t316 => (some t316)) else (some false))) else (some false))) else ((impl_within.f a1_1 1 3).bind fun t317 => (if t317 = true then ((impl_within.f a1_0 0 (wrap64 ((a0_4.size : Int) - 1))).bind fun t318 => (if t318 = true then ((impl_ExprOk.f k l1_2).bind fun t319 => (some t319)) else (some false))) else (some false)))) = some r := h
 clear h
 by_cases c3 : a1_1 = 2
 ·rw [if_pos c3] at H
  have c3b0 : (a1_1 == 2) = true := beq_iff_eq.mpr c3
  have c3b1 : (a1_1 != 2) = false := bne_eq_false_iff_eq.mpr c3
  clear c3
  obtain ⟨t314, A40, H⟩ := Option.bind_eq_some_iff.mp H
  have A4 := Aside0.mk A40
  clear A40
  by_cases c5 : t314 = true
  ·subst c5
   rw [if_pos rfl] at H
   obtain ⟨t315, A60, H⟩ := Option.bind_eq_some_iff.mp H
   have A6 := Aside0.mk A60
   clear A60
   by_cases c7 : t315 = true
   ·subst c7
    rw [if_pos rfl] at H
    obtain ⟨t316, A80, H⟩ := Option.bind_eq_some_iff.mp H
    have A8 := Aside0.mk A80
    clear A80
    obtain rfl := Option.some.inj H
    go_enter Tryz.func99, Tryz.ntmps99
    go_wp2_with (first | ((with_reducible refine gate_dst (N := 2) rfl ?_); (try (refine gate_guard (by rfl) ?_; dsimp only)); refine zbx 2 #[.string a0_0, .int .i64 a0_1, .int .i64 a0_2, .int .i64 a0_3, .string a0_4, .slice A0_5 l0_5.length c0_5] 71 ?_; intro gb312 hg w9 hbox hb; have BK312 := Aside0.mk (hbox); have GW312 := zs w hg; have GE312 := GW312; replace HB := zt w hb; clear hb hbox hg) | ((with_reducible refine gate_dst (N := 3) rfl ?_); (try (refine gate_guard (by rfl) ?_; dsimp only)); refine zbx 3 #[.int .i64 a1_0, .int .i64 a1_1, .slice A1_2 l1_2.length c1_2] 79 ?_; intro gb313 hg w10 hbox hb; have BK313 := Aside0.mk (hbox); have GW313 := zs w hg; have GE313 := GW313; have NB312_313 := zlt BK312 hg; have NB313_312 := zgt (zlt BK312 hg); replace BK312 := zk BK312 hb; replace HB := zt w hb; clear hb hbox hg; have hnb11 := NB313_312.out; have hnc11 := NB312_313.out; obtain ⟨hcz12_0, hcz12_1, hcz12_2, hfz12_0, hfz12_1, hfz12_2⟩ := zF3 BK313) | ((with_reducible refine gate_callee (f := 93) rfl ?_); refine zc (some 11) Tryz.func93 #[.int .i64 a1_1, .int .i64 1, .int .i64 3] ?_; (with_reducible refine (impl_within.calls a1_1 1 3 true _ A4.out).mono ?_); rintro e w' ⟨rfl, ⟨nd, rfl⟩⟩; refine ⟨_, rfl, ?_⟩; have hcz13_0 := zc0 BK312; have hcz13_1 := zc1 BK312; have hcz13_2 := zc2 BK312; have hcz13_3 := zc3 BK312; have hcz13_4 := zc4 BK312; have hcz13_5 := zc5 BK312; have hfz13_0 := blk_frozen BK312.out 0; have hfz13_1 := blk_frozen BK312.out 1; have hfz13_2 := blk_frozen BK312.out 2; have hfz13_3 := blk_frozen BK312.out 3; have hfz13_4 := blk_frozen BK312.out 4; have hfz13_5 := blk_frozen BK312.out 5) | (go_at_call 93; (with_reducible refine (impl_within.calls a1_0 0 (wrap64 ((a0_4.size : Int) - 2)) true _ A6.out).mono ?_); rintro e w' ⟨rfl, ⟨nd, rfl⟩⟩) | (go_at_call 57; (with_reducible refine (impl_ExprOk.calls k _ _ l1_2 t316 _ ?side1 ?side2 A8.out).mono ?_); (case side1 => repeat (first | exact (Kd.C_below HR1_2.out (zb _)) | (with_reducible refine Kd.C_alloc ?_ _) | (with_reducible refine Kd.C_drewN ?_ _) | (with_reducible refine Kd.C_drew ?_))); (case side2 => exact HC1_2.out); rintro e w14 ⟨rfl, hb⟩; replace BK312 := zk BK312 hb; replace BK313 := zk BK313 hb; replace HB := zt w hb; (try clear hb); (try clear hb2); (try clear hk); (try clear hi)))
    go_ret
    exact ⟨ze _, zb _⟩
   ·replace c7 := Bool.eq_false_iff.mpr c7
    subst c7
    rw [if_neg (show ¬ (false = true) by decide)] at H
    obtain rfl := Option.some.inj H
    go_enter Tryz.func99, Tryz.ntmps99
    go_wp2_with (first | ((with_reducible refine gate_dst (N := 2) rfl ?_); (try (refine gate_guard (by rfl) ?_; dsimp only)); refine zbx 2 #[.string a0_0, .int .i64 a0_1, .int .i64 a0_2, .int .i64 a0_3, .string a0_4, .slice A0_5 l0_5.length c0_5] 71 ?_; intro gb312 hg w15 hbox hb; have BK312 := Aside0.mk (hbox); have GW312 := zs w hg; have GE312 := GW312; replace HB := zt w hb; clear hb hbox hg) | ((with_reducible refine gate_dst (N := 3) rfl ?_); (try (refine gate_guard (by rfl) ?_; dsimp only)); refine zbx 3 #[.int .i64 a1_0, .int .i64 a1_1, .slice A1_2 l1_2.length c1_2] 79 ?_; intro gb313 hg w16 hbox hb; have BK313 := Aside0.mk (hbox); have GW313 := zs w hg; have GE313 := GW313; have NB312_313 := zlt BK312 hg; have NB313_312 := zgt (zlt BK312 hg); replace BK312 := zk BK312 hb; replace HB := zt w hb; clear hb hbox hg; have hnb17 := NB313_312.out; have hnc17 := NB312_313.out; obtain ⟨hcz18_0, hcz18_1, hcz18_2, hfz18_0, hfz18_1, hfz18_2⟩ := zF3 BK313) | ((with_reducible refine gate_callee (f := 93) rfl ?_); refine zc (some 11) Tryz.func93 #[.int .i64 a1_1, .int .i64 1, .int .i64 3] ?_; (with_reducible refine (impl_within.calls a1_1 1 3 true _ A4.out).mono ?_); rintro e w' ⟨rfl, ⟨nd, rfl⟩⟩; refine ⟨_, rfl, ?_⟩; have hcz19_0 := zc0 BK312; have hcz19_1 := zc1 BK312; have hcz19_2 := zc2 BK312; have hcz19_3 := zc3 BK312; have hcz19_4 := zc4 BK312; have hcz19_5 := zc5 BK312; have hfz19_0 := blk_frozen BK312.out 0; have hfz19_1 := blk_frozen BK312.out 1; have hfz19_2 := blk_frozen BK312.out 2; have hfz19_3 := blk_frozen BK312.out 3; have hfz19_4 := blk_frozen BK312.out 4; have hfz19_5 := blk_frozen BK312.out 5) | (go_at_call 93; (with_reducible refine (impl_within.calls a1_0 0 (wrap64 ((a0_4.size : Int) - 2)) false _ A6.out).mono ?_); rintro e w' ⟨rfl, ⟨nd, rfl⟩⟩))
    go_ret
    exact ⟨ze _, zb _⟩
  ·replace c5 := Bool.eq_false_iff.mpr c5
   subst c5
   rw [if_neg (show ¬ (false = true) by decide)] at H
   obtain rfl := Option.some.inj H
   go_enter Tryz.func99, Tryz.ntmps99
   go_wp2_with (first | ((with_reducible refine gate_dst (N := 2) rfl ?_); (try (refine gate_guard (by rfl) ?_; dsimp only)); refine zbx 2 #[.string a0_0, .int .i64 a0_1, .int .i64 a0_2, .int .i64 a0_3, .string a0_4, .slice A0_5 l0_5.length c0_5] 71 ?_; intro gb312 hg w20 hbox hb; have BK312 := Aside0.mk (hbox); have GW312 := zs w hg; have GE312 := GW312; replace HB := zt w hb; clear hb hbox hg) | ((with_reducible refine gate_dst (N := 3) rfl ?_); (try (refine gate_guard (by rfl) ?_; dsimp only)); refine zbx 3 #[.int .i64 a1_0, .int .i64 a1_1, .slice A1_2 l1_2.length c1_2] 79 ?_; intro gb313 hg w21 hbox hb; have BK313 := Aside0.mk (hbox); have GW313 := zs w hg; have GE313 := GW313; have NB312_313 := zlt BK312 hg; have NB313_312 := zgt (zlt BK312 hg); replace BK312 := zk BK312 hb; replace HB := zt w hb; clear hb hbox hg; have hnb22 := NB313_312.out; have hnc22 := NB312_313.out; obtain ⟨hcz23_0, hcz23_1, hcz23_2, hfz23_0, hfz23_1, hfz23_2⟩ := zF3 BK313) | ((with_reducible refine gate_callee (f := 93) rfl ?_); refine zc (some 11) Tryz.func93 #[.int .i64 a1_1, .int .i64 1, .int .i64 3] ?_; (with_reducible refine (impl_within.calls a1_1 1 3 false _ A4.out).mono ?_); rintro e w' ⟨rfl, ⟨nd, rfl⟩⟩; refine ⟨_, rfl, ?_⟩))
   go_ret
   exact ⟨ze _, zb _⟩
 ·rw [if_neg c3] at H
  have c3b0 : (a1_1 == 2) = false := beq_eq_false_iff_ne.mpr c3
  have c3b1 : (a1_1 != 2) = true := bne_iff_ne.mpr c3
  obtain ⟨t317, A240, H⟩ := Option.bind_eq_some_iff.mp H
  have A24 := Aside0.mk A240
  clear A240
  by_cases c25 : t317 = true
  ·subst c25
   rw [if_pos rfl] at H
   obtain ⟨t318, A260, H⟩ := Option.bind_eq_some_iff.mp H
   have A26 := Aside0.mk A260
   clear A260
   by_cases c27 : t318 = true
   ·subst c27
    rw [if_pos rfl] at H
    obtain ⟨t319, A280, H⟩ := Option.bind_eq_some_iff.mp H
    have A28 := Aside0.mk A280
    clear A280
    obtain rfl := Option.some.inj H
    go_enter Tryz.func99, Tryz.ntmps99
    go_wp2_with (first | ((with_reducible refine gate_dst (N := 2) rfl ?_); (try (refine gate_guard (by rfl) ?_; dsimp only)); refine zbx 2 #[.string a0_0, .int .i64 a0_1, .int .i64 a0_2, .int .i64 a0_3, .string a0_4, .slice A0_5 l0_5.length c0_5] 71 ?_; intro gb312 hg w29 hbox hb; have BK312 := Aside0.mk (hbox); have GW312 := zs w hg; have GE312 := GW312; replace HB := zt w hb; clear hb hbox hg) | ((with_reducible refine gate_dst (N := 3) rfl ?_); (try (refine gate_guard (by rfl) ?_; dsimp only)); refine zbx 3 #[.int .i64 a1_0, .int .i64 a1_1, .slice A1_2 l1_2.length c1_2] 79 ?_; intro gb313 hg w30 hbox hb; have BK313 := Aside0.mk (hbox); have GW313 := zs w hg; have GE313 := GW313; have NB312_313 := zlt BK312 hg; have NB313_312 := zgt (zlt BK312 hg); replace BK312 := zk BK312 hb; replace HB := zt w hb; clear hb hbox hg; have hnb31 := NB313_312.out; have hnc31 := NB312_313.out; obtain ⟨hcz32_0, hcz32_1, hcz32_2, hfz32_0, hfz32_1, hfz32_2⟩ := zF3 BK313) | ((with_reducible refine gate_callee (f := 93) rfl ?_); refine zc (some 11) Tryz.func93 #[.int .i64 a1_1, .int .i64 1, .int .i64 3] ?_; (with_reducible refine (impl_within.calls a1_1 1 3 true _ A24.out).mono ?_); rintro e w' ⟨rfl, ⟨nd, rfl⟩⟩; refine ⟨_, rfl, ?_⟩; have hcz33_0 := zc0 BK312; have hcz33_1 := zc1 BK312; have hcz33_2 := zc2 BK312; have hcz33_3 := zc3 BK312; have hcz33_4 := zc4 BK312; have hcz33_5 := zc5 BK312; have hfz33_0 := blk_frozen BK312.out 0; have hfz33_1 := blk_frozen BK312.out 1; have hfz33_2 := blk_frozen BK312.out 2; have hfz33_3 := blk_frozen BK312.out 3; have hfz33_4 := blk_frozen BK312.out 4; have hfz33_5 := blk_frozen BK312.out 5) | (go_at_call 93; (with_reducible refine (impl_within.calls a1_0 0 (wrap64 ((a0_4.size : Int) - 1)) true _ A26.out).mono ?_); rintro e w' ⟨rfl, ⟨nd, rfl⟩⟩) | (go_at_call 57; (with_reducible refine (impl_ExprOk.calls k _ _ l1_2 t319 _ ?side1 ?side2 A28.out).mono ?_); (case side1 => repeat (first | exact (Kd.C_below HR1_2.out (zb _)) | (with_reducible refine Kd.C_alloc ?_ _) | (with_reducible refine Kd.C_drewN ?_ _) | (with_reducible refine Kd.C_drew ?_))); (case side2 => exact HC1_2.out); rintro e w34 ⟨rfl, hb⟩; replace BK312 := zk BK312 hb; replace BK313 := zk BK313 hb; replace HB := zt w hb; (try clear hb); (try clear hb2); (try clear hk); (try clear hi)))
    go_ret
    exact ⟨ze _, zb _⟩
   ·replace c27 := Bool.eq_false_iff.mpr c27
    subst c27
    rw [if_neg (show ¬ (false = true) by decide)] at H
    obtain rfl := Option.some.inj H
    go_enter Tryz.func99, Tryz.ntmps99
    go_wp2_with (first | ((with_reducible refine gate_dst (N := 2) rfl ?_); (try (refine gate_guard (by rfl) ?_; dsimp only)); refine zbx 2 #[.string a0_0, .int .i64 a0_1, .int .i64 a0_2, .int .i64 a0_3, .string a0_4, .slice A0_5 l0_5.length c0_5] 71 ?_; intro gb312 hg w35 hbox hb; have BK312 := Aside0.mk (hbox); have GW312 := zs w hg; have GE312 := GW312; replace HB := zt w hb; clear hb hbox hg) | ((with_reducible refine gate_dst (N := 3) rfl ?_); (try (refine gate_guard (by rfl) ?_; dsimp only)); refine zbx 3 #[.int .i64 a1_0, .int .i64 a1_1, .slice A1_2 l1_2.length c1_2] 79 ?_; intro gb313 hg w36 hbox hb; have BK313 := Aside0.mk (hbox); have GW313 := zs w hg; have GE313 := GW313; have NB312_313 := zlt BK312 hg; have NB313_312 := zgt (zlt BK312 hg); replace BK312 := zk BK312 hb; replace HB := zt w hb; clear hb hbox hg; have hnb37 := NB313_312.out; have hnc37 := NB312_313.out; obtain ⟨hcz38_0, hcz38_1, hcz38_2, hfz38_0, hfz38_1, hfz38_2⟩ := zF3 BK313) | ((with_reducible refine gate_callee (f := 93) rfl ?_); refine zc (some 11) Tryz.func93 #[.int .i64 a1_1, .int .i64 1, .int .i64 3] ?_; (with_reducible refine (impl_within.calls a1_1 1 3 true _ A24.out).mono ?_); rintro e w' ⟨rfl, ⟨nd, rfl⟩⟩; refine ⟨_, rfl, ?_⟩; have hcz39_0 := zc0 BK312; have hcz39_1 := zc1 BK312; have hcz39_2 := zc2 BK312; have hcz39_3 := zc3 BK312; have hcz39_4 := zc4 BK312; have hcz39_5 := zc5 BK312; have hfz39_0 := blk_frozen BK312.out 0; have hfz39_1 := blk_frozen BK312.out 1; have hfz39_2 := blk_frozen BK312.out 2; have hfz39_3 := blk_frozen BK312.out 3; have hfz39_4 := blk_frozen BK312.out 4; have hfz39_5 := blk_frozen BK312.out 5) | (go_at_call 93; (with_reducible refine (impl_within.calls a1_0 0 (wrap64 ((a0_4.size : Int) - 1)) false _ A26.out).mono ?_); rintro e w' ⟨rfl, ⟨nd, rfl⟩⟩))
    go_ret
    exact ⟨ze _, zb _⟩
  ·replace c25 := Bool.eq_false_iff.mpr c25
   subst c25
   rw [if_neg (show ¬ (false = true) by decide)] at H
   obtain rfl := Option.some.inj H
   go_enter Tryz.func99, Tryz.ntmps99
   go_wp2_with (first | ((with_reducible refine gate_dst (N := 2) rfl ?_); (try (refine gate_guard (by rfl) ?_; dsimp only)); refine zbx 2 #[.string a0_0, .int .i64 a0_1, .int .i64 a0_2, .int .i64 a0_3, .string a0_4, .slice A0_5 l0_5.length c0_5] 71 ?_; intro gb312 hg w40 hbox hb; have BK312 := Aside0.mk (hbox); have GW312 := zs w hg; have GE312 := GW312; replace HB := zt w hb; clear hb hbox hg) | ((with_reducible refine gate_dst (N := 3) rfl ?_); (try (refine gate_guard (by rfl) ?_; dsimp only)); refine zbx 3 #[.int .i64 a1_0, .int .i64 a1_1, .slice A1_2 l1_2.length c1_2] 79 ?_; intro gb313 hg w41 hbox hb; have BK313 := Aside0.mk (hbox); have GW313 := zs w hg; have GE313 := GW313; have NB312_313 := zlt BK312 hg; have NB313_312 := zgt (zlt BK312 hg); replace BK312 := zk BK312 hb; replace HB := zt w hb; clear hb hbox hg; have hnb42 := NB313_312.out; have hnc42 := NB312_313.out; obtain ⟨hcz43_0, hcz43_1, hcz43_2, hfz43_0, hfz43_1, hfz43_2⟩ := zF3 BK313) | ((with_reducible refine gate_callee (f := 93) rfl ?_); refine zc (some 11) Tryz.func93 #[.int .i64 a1_1, .int .i64 1, .int .i64 3] ?_; (with_reducible refine (impl_within.calls a1_1 1 3 false _ A24.out).mono ?_); rintro e w' ⟨rfl, ⟨nd, rfl⟩⟩; refine ⟨_, rfl, ?_⟩))
   go_ret
   exact ⟨ze _, zb _⟩

set_option maxHeartbeats 2000000 in
theorem impl_Patch.pred (k : Nat) (y : S79) (A2 : Option Addr) (c2 : Nat) (g : Nat) (A0 : Option Addr) (c0 : Nat) (l0 : List S79) (a1 : ByteArray) (a2 a3 a4 : Int) (a5 : ByteArray) (b : Bool) (w : World) (hb : w.heap[g]? = some (.cells #[.string a1, .int .i64 a2, .int .i64 a3, .int .i64 a4, .string a5, .slice A0 l0.length c0] 71 (0, 0))) (hr : Kd.C k79 w A0 l0.length l0) (hc : l0.length ≤ c0) (hr2 : Kd.C k124 w A2 y.f2.length y.f2) (hc2 : y.f2.length ≤ c2) (h : impl_isPatch.f k a1 a2 a3 a4 a5 l0 y.f0 y.f1 y.f2 = some b) :
    Calls Tryz.prog 98 #[.agg #[.int .i64 y.f0, .int .i64 y.f1, .slice A2 y.f2.length c2], .pointer (some ⟨g, 0, none⟩)] w fun e w' => e = .returned (.bool (!b)) ∧ Below w.heap.size w w' := by
  have hu_s := Tryz.underlying71
  have hu_p := Tryz.underlying79
  have HR := Aside0.mk hr
  have HC := Aside0.mk hc
  have HR2 := Aside0.mk hr2
  have HC2 := Aside0.mk hc2
  have H := Aside0.mk h
  have BK := Aside0.mk hb
  have q0 := pw_cell_below (below_alloc (Below.refl _ _) (Obj.cells #[.int .i64 y.f0, .int .i64 y.f1, .slice A2 y.f2.length c2] 79)) (show w.cell? ⟨g, 0, none⟩ = some (.string a1) from by rw [blk_cell hb]; rfl)
  have q1 := pw_cell_below (below_alloc (Below.refl _ _) (Obj.cells #[.int .i64 y.f0, .int .i64 y.f1, .slice A2 y.f2.length c2] 79)) (show w.cell? ⟨g, 1, none⟩ = some (.int .i64 a2) from by rw [blk_cell hb]; rfl)
  have q2 := pw_cell_below (below_alloc (Below.refl _ _) (Obj.cells #[.int .i64 y.f0, .int .i64 y.f1, .slice A2 y.f2.length c2] 79)) (show w.cell? ⟨g, 2, none⟩ = some (.int .i64 a3) from by rw [blk_cell hb]; rfl)
  have q3 := pw_cell_below (below_alloc (Below.refl _ _) (Obj.cells #[.int .i64 y.f0, .int .i64 y.f1, .slice A2 y.f2.length c2] 79)) (show w.cell? ⟨g, 3, none⟩ = some (.int .i64 a4) from by rw [blk_cell hb]; rfl)
  have q4 := pw_cell_below (below_alloc (Below.refl _ _) (Obj.cells #[.int .i64 y.f0, .int .i64 y.f1, .slice A2 y.f2.length c2] 79)) (show w.cell? ⟨g, 4, none⟩ = some (.string a5) from by rw [blk_cell hb]; rfl)
  have q5 := pw_cell_below (below_alloc (Below.refl _ _) (Obj.cells #[.int .i64 y.f0, .int .i64 y.f1, .slice A2 y.f2.length c2] 79)) (show w.cell? ⟨g, 5, none⟩ = some (.slice A0 l0.length c0) from by rw [blk_cell hb]; rfl)
  clear hr hc hr2 hc2 h hb
  go_enter Tryz.func98, Tryz.ntmps98
  go_wp2_with (go_at_call 99; refine (impl_isPatch.calls k a1 a2 a3 a4 a5 A0 c0 l0 y.f0 y.f1 A2 c2 y.f2 b _ ?h1 HC.out ?h3 HC2.out H.out).mono ?_; (case h1 => exact Kd.C_below HR.out (by repeat (first | exact Below.refl _ _ | apply below_alloc | apply pw_below_drewN | apply below_drew))); (case h3 => exact Kd.C_below HR2.out (by repeat (first | exact Below.refl _ _ | apply below_alloc | apply pw_below_drewN | apply below_drew))); rintro e w9 ⟨rfl, hb9⟩; have HB := Aside0.mk (below_step (show Below w.heap.size w _ from by repeat (first | exact Below.refl _ _ | apply below_alloc | apply pw_below_drewN | apply below_drew)) hb9); clear hb9)
  go_wp2
  go_ret
  exact ⟨rfl, by repeat (first | exact HB.out | apply below_alloc | apply pw_below_drewN | apply below_drew1)⟩
def impl_Patch.go (k : Nat) (a1 : ByteArray) (a2 a3 a4 : Int) (a5 : ByteArray) (l : List S79) : List S79 → Int → Option Int
  | [], _ => some (-1)
  | x :: r, i => (impl_isPatch.f k a1 a2 a3 a4 a5 l x.f0 x.f1 x.f2).bind fun b => if b = true then impl_Patch.go k a1 a2 a3 a4 a5 l r (i + 1) else some i
def impl_Patch.f (k : Nat) (l0 : List S79) (a1 : ByteArray) (a2 a3 a4 : Int) (a5 : ByteArray) (l6 : List S79) : Option Bool := (impl_Patch.go k a1 a2 a3 a4 a5 l0 l0 0).bind fun i => some (decide (0 ≤ i))
theorem impl_Patch.go_mono (a1 : ByteArray) (a2 a3 a4 : Int) (a5 : ByteArray) (l : List S79) (k : Nat) : ∀ (y : List S79) (i : Int), LeO (impl_Patch.go k a1 a2 a3 a4 a5 l y i) (impl_Patch.go (k + 1) a1 a2 a3 a4 a5 l y i)
  | [], _ => LeO.refl _
  | x :: r, i => LeO.bind (impl_isPatch.mono _ _ _ _ _ _ _ _ _ _) (fun _ => LeO.ite (impl_Patch.go_mono a1 a2 a3 a4 a5 l k r (i + 1)) (LeO.refl _))
theorem impl_Patch.mono : ∀ a0 a1 a2 a3 a4 a5 a6 k, LeO (impl_Patch.f k a0 a1 a2 a3 a4 a5 a6) (impl_Patch.f (k + 1) a0 a1 a2 a3 a4 a5 a6) := by
  intro a0 a1 a2 a3 a4 a5 a6 k
  unfold impl_Patch.f
  exact LeO.bind (impl_Patch.go_mono a1 a2 a3 a4 a5 a0 k a0 0) (fun _ => LeO.refl _)
open Go.Shelf in
set_option maxHeartbeats 4000000 in
set_option maxRecDepth 100000 in
theorem impl_Patch.walk (k : Nat) (A0 : Option Addr) (c0 : Nat) (l0 : List S79) (g : Nat) (a1 : ByteArray) (a2 a3 a4 : Int) (a5 : ByteArray) (r : Int) (w : World) (hr0 : Kd.C k79 w A0 l0.length l0) (hc0 : l0.length ≤ c0) (hb : w.heap[g]? = some (.cells #[.string a1, .int .i64 a2, .int .i64 a3, .int .i64 a4, .string a5, .slice A0 l0.length c0] 71 (0, 0))) (h : impl_Patch.go k a1 a2 a3 a4 a5 l0 l0 0 = some r) :
    Calls Tryz.prog 123 #[.slice A0 l0.length c0, .func (.func 98) #[] #[.pointer (some ⟨g, 0, none⟩)]] w fun e w' => e = .returned (.int .i64 r) ∧ Below w.heap.size w w' := by
  have hu_p := Tryz.underlying79
  have eg := enters_of Tryz.func98 (by kernel_rfl) rfl
  have hbig : l0.length ≤ 9223372036854775807 := hr0.2.1
  have HR := Aside0.mk hr0
  have HC0 := Aside0.mk hc0
  have BK := Aside0.mk hb
  have HF := Aside0.mk h
  clear hr0 hb hc0 h
  go_enter Tryz.func123, Tryz.ntmps123
  go_wp2
  go_loopg [5, 8] l0.length (fun gg _ s8 wr => ∃ kk : Nat, kk ≤ l0.length ∧ l0.length - kk ≤ gg ∧ s8 = .int .i64 kk ∧ Aside0 (Below w.heap.size w wr) ∧ Aside0 (impl_Patch.go k a1 a2 a3 a4 a5 l0 (l0.drop kk) kk = some r))
  case atStart => exact ⟨0, Nat.zero_le _, by omega, rfl, ⟨by repeat (first | exact Below.refl _ _ | apply pw_below_drewN | apply below_drew)⟩, HF⟩
  case round =>
    clear HF
    obtain ⟨kk, hkk, hg, rfl, HW, HA⟩ := hrel
    by_cases hlt : kk < l0.length
    · have hltz : (kk : Int) < (l0.length : Int) := by omega
      obtain ⟨ad, A2, c2, eA, hcell, hcell1, hcell2, hl2, hi2⟩ := at_T79 HR.out (kk : Int) (by omega) (by omega)
      have hd : l0.drop kk = rd_T79 l0 kk :: l0.drop (kk + 1) := by
        rw [List.drop_eq_getElem_cons hlt, rd_T79, Int.toNat_natCast, List.getD_eq_getElem?_getD, List.getElem?_eq_getElem hlt]
        rfl
      have HA1 := HA.out
      rw [hd, impl_Patch.go] at HA1
      rw [Int.toNat_natCast] at hcell hcell1 hcell2
      replace hcell := pw_cell_below HW.out hcell
      replace hcell1 := pw_cell_below HW.out hcell1
      replace hcell2 := pw_cell_below HW.out hcell2
      have HI2 := Aside0.mk hi2
      have HL2 := Aside0.mk hl2
      generalize rd_T79 l0 kk = y at hcell hcell1 hcell2 HA1 HI2 HL2
      clear hd HA hi2 hl2
      obtain ⟨b, hp, HA2⟩ := Option.bind_eq_some_iff.1 HA1
      have HP := Aside0.mk hp
      clear HA1 hp
      subst eA
      cases b with
      | true =>
        rw [if_pos rfl] at HA2
        have HA3 := Aside0.mk HA2
        clear HA2
        go_wp2_with (go_at_call 98; refine (impl_Patch.pred k y A2 c2 g (some ad) c0 l0 a1 a2 a3 a4 a5 true _ ?hb ?hr HC0.out ?hr2 HL2.out HP.out).mono ?_; (case hb => exact blk_below BK.out (by repeat (first | exact HW.out | apply below_alloc | apply pw_below_drewN | apply below_drew1))); (case hr => exact Kd.C_below HR.out (by repeat (first | exact HW.out | apply below_alloc | apply pw_below_drewN | apply below_drew1))); (case hr2 => exact Kd.C_below HI2.out (by repeat (first | exact HW.out | apply below_alloc | apply pw_below_drewN | apply below_drew1))); rintro e w9 ⟨rfl, hb9⟩; have HWn := Aside0.mk (below_step (by repeat (first | exact HW.out | apply below_alloc | apply pw_below_drewN | apply below_drew1)) hb9); clear HW hb9; have HW := HWn; clear HWn)
        go_wp2
        go_roundg (l0.length - (kk + 1))
        case measure => omega
        case rel => exact ⟨kk + 1, by omega, by omega, by go_num, ⟨by repeat (first | exact HW.out | apply below_alloc | apply pw_below_drewN | apply below_drew1)⟩, ⟨by have := HA3.out; rw [show ((kk : Int) + 1) = ((kk + 1 : Nat) : Int) by omega] at this; exact this⟩⟩
      | false =>
        rw [if_neg (by decide)] at HA2
        obtain rfl := Option.some.inj HA2
        clear HA2
        go_wp2_with (go_at_call 98; refine (impl_Patch.pred k y A2 c2 g (some ad) c0 l0 a1 a2 a3 a4 a5 false _ ?hb ?hr HC0.out ?hr2 HL2.out HP.out).mono ?_; (case hb => exact blk_below BK.out (by repeat (first | exact HW.out | apply below_alloc | apply pw_below_drewN | apply below_drew1))); (case hr => exact Kd.C_below HR.out (by repeat (first | exact HW.out | apply below_alloc | apply pw_below_drewN | apply below_drew1))); (case hr2 => exact Kd.C_below HI2.out (by repeat (first | exact HW.out | apply below_alloc | apply pw_below_drewN | apply below_drew1))); rintro e w9 ⟨rfl, hb9⟩; have HWn := Aside0.mk (below_step (by repeat (first | exact HW.out | apply below_alloc | apply pw_below_drewN | apply below_drew1)) hb9); clear HW hb9; have HW := HWn; clear HWn)
        go_wp2
        go_ret
        exact ⟨rfl, by repeat (first | exact HW.out | apply below_alloc | apply pw_below_drewN | apply below_drew1)⟩
    · have hltz : ¬ (kk : Int) < (l0.length : Int) := by omega
      have HA1 := HA.out
      rw [List.drop_eq_nil_of_le (by omega), impl_Patch.go] at HA1
      obtain rfl := Option.some.inj HA1
      clear HA HA1
      go_wp2
      go_ret
      exact ⟨rfl, by repeat (first | exact HW.out | apply below_alloc | apply pw_below_drewN | apply below_drew1)⟩
set_option maxHeartbeats 4000000 in
theorem impl_Patch.calls (k : Nat) (A0 : Option Addr) (c0 : Nat) (l0 : List S79) (g : Nat) (a1 : ByteArray) (a2 a3 a4 : Int) (a5 : ByteArray) (l6 : List S79) (r : Bool) (w : World) (hr0 : Kd.C k79 w A0 l0.length l0) (hc0 : l0.length ≤ c0) (hb : w.heap[g]? = some (.cells #[.string a1, .int .i64 a2, .int .i64 a3, .int .i64 a4, .string a5, .slice A0 l0.length c0] 71 (0, 0))) (h : impl_Patch.f k l0 a1 a2 a3 a4 a5 l6 = some r) :
 Calls Tryz.prog 97 #[.slice A0 l0.length c0, .func (.func 98) #[] #[.pointer (some ⟨g, 0, none⟩)]] w fun e w' => e = .returned (.bool r) ∧ Below w.heap.size w w' := by
 unfold impl_Patch.f at h
 obtain ⟨i, hi, h⟩ := Option.bind_eq_some_iff.1 h
 obtain rfl := Option.some.inj h
 have HR := Aside0.mk hr0
 have BK := Aside0.mk hb
 have HF := Aside0.mk hi
 have HC := Aside0.mk hc0
 clear hr0 hb hi h hc0
 go_enter Tryz.func97, Tryz.ntmps97
 go_wp2_with (go_at_call 123; refine (impl_Patch.walk k A0 c0 l0 g a1 a2 a3 a4 a5 i _ ?hr HC.out ?hb HF.out).mono ?_; (case hr => exact Kd.C_below HR.out (by repeat (first | exact Below.refl _ _ | apply below_alloc | apply pw_below_drewN | apply below_drew))); (case hb => exact blk_below BK.out (by repeat (first | exact Below.refl _ _ | apply below_alloc | apply pw_below_drewN | apply below_drew))); rintro e w9 ⟨rfl, hb9⟩; have HW := Aside0.mk (below_step (show Below w.heap.size w _ from by repeat (first | exact Below.refl _ _ | apply below_alloc | apply pw_below_drewN | apply below_drew)) hb9); clear hb9)
 go_wp2
 go_ret
 exact ⟨rfl, by repeat (first | exact HW.out | apply below_alloc | apply pw_below_drewN | apply below_drew1)⟩

end Go.Proofs.YtlacpadpdfccmaaGreatDoor.PFnExactObjectText
namespace Go.Proofs.YtlacpadpdfccmaaGreatDoor.PFnExactObjectText
open Go.RowKit Go.Proofs.YtlacpadpdfccmaaGreatDoor.Z Go.Proofs.YtlacpadpdfccmaaGreatDoorW.PrintWords Go.Proofs.YtlacpadpdfccmaaGreatDoorW.PrintLast Go.Proofs.YtlacpadpdfccmaaGreatDoorW.PrintMore
attribute [local go_sem] max2_int min2_int max_two min_two max_three min_three max_four min_four   -- for this text's walks alone
set_option linter.unusedVariables false
set_option linter.unusedSimpArgs false

mutual
def impl_SectionOk.j0 : Nat → Int → Bool → ByteArray → Int → Int → Int → ByteArray → List (S79) → Option (Bool)
  | 0, _, _, _, _, _, _, _, _ => none
  | k + 1, x3, x27, x321000, x321001, x321002, x321003, x321004, x321005 => if x27 = true then (some false) else (if x321001 = 2 then ((impl_noughts.f (x321004.size : Int)).bind fun t323 => (if x321004.toList = t323.toList then (impl_SectionOk.j1 k x3 (decide ((x321005.length : Int) > 0)) x321000 x321001 x321002 x321003 x321004 x321005) else (impl_SectionOk.j1 k x3 true x321000 x321001 x321002 x321003 x321004 x321005))) else (impl_SectionOk.j1 k x3 false x321000 x321001 x321002 x321003 x321004 x321005))
def impl_SectionOk.j1 : Nat → Int → Bool → ByteArray → Int → Int → Int → ByteArray → List (S79) → Option (Bool)
  | 0, _, _, _, _, _, _, _, _ => none
  | k + 1, x3, x45, x321000, x321001, x321002, x321003, x321004, x321005 => if x45 = true then (some false) else ((impl_baseOf.f x321001).bind fun t324 => (if x321003 = (-1) then (if x321002 = (-1) then ((impl_Patch.f k x321005 x321000 x321001 x321002 x321003 x321004 x321005).bind fun t325 => (some (!t325))) else (if x321001 = 1 then ((impl_within.f x321002 1 15).bind fun t326 => (if t326 = true then ((impl_Patch.f k x321005 x321000 x321001 x321002 x321003 x321004 x321005).bind fun t327 => (some (!t327))) else (some false))) else (some false))) else ((impl_within.f x321003 t324 (wrap64 ((wrap64 (t324 + 256)) - x3))).bind fun t328 => (if t328 = true then (if x321002 = (-1) then ((impl_Patch.f k x321005 x321000 x321001 x321002 x321003 x321004 x321005).bind fun t329 => (some (!t329))) else (if x321001 = 1 then ((impl_within.f x321002 1 15).bind fun t330 => (if t330 = true then ((impl_Patch.f k x321005 x321000 x321001 x321002 x321003 x321004 x321005).bind fun t331 => (some (!t331))) else (some false))) else (some false))) else (some false)))))
end
def impl_SectionOk.f (k : Nat) (a0_0 : ByteArray) (a0_1 : Int) (a0_2 : Int) (a0_3 : Int) (a0_4 : ByteArray) (l0_5 : List (S79)) : Option (Bool) := (impl_NameOk.f k a0_0).bind fun t321 => (if t321 = true then ((impl_within.f a0_1 0 2).bind fun t322 => (if t322 = true then (if (a0_4.size : Int) > 256 then (impl_SectionOk.j0 k (a0_4.size : Int) true a0_0 a0_1 a0_2 a0_3 a0_4 l0_5) else (impl_SectionOk.j0 k (a0_4.size : Int) (decide ((l0_5.length : Int) > 256)) a0_0 a0_1 a0_2 a0_3 a0_4 l0_5)) else (impl_SectionOk.j0 k (a0_4.size : Int) true a0_0 a0_1 a0_2 a0_3 a0_4 l0_5))) else (impl_SectionOk.j0 k (a0_4.size : Int) true a0_0 a0_1 a0_2 a0_3 a0_4 l0_5))
theorem impl_SectionOk.mono_l : ∀ k, (∀ y0 y1 y2 y3 y4 y5 y6 y7, LeO (impl_SectionOk.j0 k y0 y1 y2 y3 y4 y5 y6 y7) (impl_SectionOk.j0 (k + 1) y0 y1 y2 y3 y4 y5 y6 y7)) ∧ (∀ y0 y1 y2 y3 y4 y5 y6 y7, LeO (impl_SectionOk.j1 k y0 y1 y2 y3 y4 y5 y6 y7) (impl_SectionOk.j1 (k + 1) y0 y1 y2 y3 y4 y5 y6 y7))
  | 0 => ⟨fun _ _ _ _ _ _ _ _ r h => by simp [impl_SectionOk.j0] at h, fun _ _ _ _ _ _ _ _ r h => by simp [impl_SectionOk.j1] at h⟩
  | k + 1 => by
    obtain ⟨ih0, ih1⟩ := impl_SectionOk.mono_l k
    refine ⟨?_, ?_⟩
    · intro y0 y1 y2 y3 y4 y5 y6 y7
      unfold impl_SectionOk.j0
      repeat' with_reducible first | exact ih0 _ _ _ _ _ _ _ _ | exact ih1 _ _ _ _ _ _ _ _ | exact impl_NameOk.mono _ _ | exact impl_Patch.mono _ _ _ _ _ _ _ _ | exact LeO.refl _ | exact LeO.none _ | refine LeO.ite ?_ ?_ | refine LeO.bind ?_ (fun _ => ?_)
    · intro y0 y1 y2 y3 y4 y5 y6 y7
      unfold impl_SectionOk.j1
      repeat' with_reducible first | exact ih0 _ _ _ _ _ _ _ _ | exact ih1 _ _ _ _ _ _ _ _ | exact impl_NameOk.mono _ _ | exact impl_Patch.mono _ _ _ _ _ _ _ _ | exact LeO.refl _ | exact LeO.none _ | refine LeO.ite ?_ ?_ | refine LeO.bind ?_ (fun _ => ?_)
theorem impl_SectionOk.mono : ∀ a0 a1 a2 a3 a4 a5 k, LeO (impl_SectionOk.f k a0 a1 a2 a3 a4 a5) (impl_SectionOk.f (k + 1) a0 a1 a2 a3 a4 a5) := by
  intro a0 a1 a2 a3 a4 a5 k
  obtain ⟨ih0, ih1⟩ := impl_SectionOk.mono_l k
  unfold impl_SectionOk.f
  repeat' with_reducible first | exact ih0 _ _ _ _ _ _ _ _ | exact ih1 _ _ _ _ _ _ _ _ | exact impl_NameOk.mono _ _ | exact impl_Patch.mono _ _ _ _ _ _ _ _ | exact LeO.refl _ | exact LeO.none _ | refine LeO.ite ?_ ?_ | refine LeO.bind ?_ (fun _ => ?_)
def impl_SectionOk.T4 : Bool × List (List Nat × List Nat) := (true, [([], []), ([0], [0]), ([1], [1]), ([2], [2]), ([3], [3]), ([4, 3], [3, 4]), ([3], [3]), ([6, 3], [3, 6]), ([7, 3], [3, 7]), ([8, 3, 3], [3, 8]), ([5, 9, 3], [3, 5, 9]), ([10, 9, 3], [3, 10]), ([11], [11]), ([12, 11], [11, 12]), ([13, 11], [11, 13]), ([14, 11], [11, 14]), ([11, 15, 3], [3, 11, 15]), ([3, 16], [3, 16])])
def impl_SectionOk.B4 : List Nat := [0, 1, 3, 7, 15, 31, 15, 79, 207, 463, 1023, 2047, 4095, 8191, 16383, 32767, 65535, 131071]
theorem impl_SectionOk.tab4 : rtab .any (opsOf Tryz.f54 4) = impl_SectionOk.T4 := by kernel_rfl
theorem impl_SectionOk.bits4 : waitsOk impl_SectionOk.T4.2 impl_SectionOk.B4 = true := by kernel_rfl
set_option maxHeartbeats 8000000 in
set_option maxRecDepth 100000 in
theorem impl_SectionOk.calls (k : Nat) (a0_0 : ByteArray) (a0_1 : Int) (a0_2 : Int) (a0_3 : Int) (a0_4 : ByteArray) (A0_5 : Option Addr) (c0_5 : Nat) (l0_5 : List (S79)) (r : Bool) (w : World) (hr0_5 : Kd.C k79 w A0_5 l0_5.length l0_5) (hc0_5 : l0_5.length ≤ c0_5) (h : impl_SectionOk.f k a0_0 a0_1 a0_2 a0_3 a0_4 l0_5 = some r) :
 Calls Tryz.prog 54 #[.agg #[.string a0_0, .int .i64 a0_1, .int .i64 a0_2, .int .i64 a0_3, .string a0_4, .slice A0_5 l0_5.length c0_5]] w fun e w' => e = .returned (.bool r) ∧ Below w.heap.size w w' := by
 have hu71 := Tryz.underlying71
 have HR0_5 := Aside0.mk hr0_5
 have HC0_5 := Aside0.mk hc0_5
 clear hr0_5 hc0_5
 have HB := Aside0.mk (Below.refl w.heap.size w)
 have H : ((impl_NameOk.f k a0_0).bind fun t321 => (if t321 = true then ((impl_within.f a0_1 0 2).bind fun t322 => (if t322 = true then (if (a0_4.size : Int) > 256 then (impl_SectionOk.j0 k (a0_4.size : Int) true a0_0 a0_1 a0_2 a0_3 a0_4 l0_5) else (impl_SectionOk.j0 k (a0_4.size : Int) (decide ((l0_5.length : Int) > 256)) a0_0 a0_1 a0_2 a0_3 a0_4 l0_5)) else (impl_SectionOk.j0 k (a0_4.size : Int) true a0_0 a0_1 a0_2 a0_3 a0_4 l0_5))) else (impl_SectionOk.j0 k (a0_4.size : Int) true a0_0 a0_1 a0_2 a0_3 a0_4 l0_5))) = some r := h
 clear h
 have HC2 := Aside0.mk H
 clear H
 go_enter Tryz.func54, Tryz.ntmps54
 go_upto_region 2 with (first | ((with_reducible refine gate_dst (N := 1) rfl ?_); (try (refine gate_guard (by rfl) ?_; dsimp only)); refine zbx 1 #[.string a0_0, .int .i64 a0_1, .int .i64 a0_2, .int .i64 a0_3, .string a0_4, .slice A0_5 l0_5.length c0_5] 71 ?_; intro gb320 hg w3 hbox hb; have BK320 := Aside0.mk (hbox); have GW320 := zs w hg; have GE320 := GW320; replace HB := zt w hb; clear hb hbox hg; have hcz4_0 := zc0 BK320; have hcz4_1 := zc1 BK320; have hcz4_2 := zc2 BK320; have hcz4_3 := zc3 BK320; have hcz4_4 := zc4 BK320; have hcz4_5 := zc5 BK320; have hfz4_0 := blk_frozen BK320.out 0; have hfz4_1 := blk_frozen BK320.out 1; have hfz4_2 := blk_frozen BK320.out 2; have hfz4_3 := blk_frozen BK320.out 3; have hfz4_4 := blk_frozen BK320.out 4; have hfz4_5 := blk_frozen BK320.out 5))
 (try simp only [Act.put, List.setIfInBounds_toArray, List.set_cons_zero, List.set_cons_succ])
 go_cut [27] (fun v27 wc => ∃ (kq : Nat) (x27_1 : Bool), v27 = .bool x27_1 ∧ Aside0 (impl_SectionOk.j0 kq (a0_4.size : Int) x27_1 a0_0 a0_1 a0_2 a0_3 a0_4 l0_5 = some r) ∧ Aside0 (kq ≤ k) ∧ Aside0 (wc.heap[gb320]? = some (.cells #[.string a0_0, .int .i64 a0_1, .int .i64 a0_2, .int .i64 a0_3, .string a0_4, (.slice A0_5 l0_5.length c0_5)] 71 (0, 0))) ∧ Aside0 (Below w.heap.size w wc))
 case first =>
  have H := HC2.out
  clear HC2
  obtain ⟨t321, A50, H⟩ := Option.bind_eq_some_iff.mp H
  have A5 := Aside0.mk A50
  clear A50
  by_cases c6 : t321 = true
  ·subst c6
   rw [if_pos rfl] at H
   obtain ⟨t322, A70, H⟩ := Option.bind_eq_some_iff.mp H
   have A7 := Aside0.mk A70
   clear A70
   by_cases c8 : t322 = true
   ·subst c8
    rw [if_pos rfl] at H
    by_cases c9 : (a0_4.size : Int) > 256
    ·rw [if_pos c9] at H
     have c9b0 : decide (256 < (a0_4.size : Int)) = true := decide_eq_true c9
     have c9b1 : decide (256 < a0_4.size) = true := decide_eq_true (by omega)
     clear c9
     (first | rw [c9b0] | (simp only [i64_w, i32_w]; rw [c9b0]) | skip)
     have H' := Aside0.mk H
     clear H
     obtain ⟨hcz10_0, hcz10_1, hcz10_2, hcz10_3, hcz10_4, hcz10_5, hfz10_0, hfz10_1, hfz10_2, hfz10_3, hfz10_4, hfz10_5⟩ := zF6 BK320
     go_wp2_with (first | ((with_reducible refine gate_callee (f := 92) rfl ?_); refine zc (some 10) Tryz.func92 #[.string a0_0] ?_; (with_reducible refine (impl_NameOk.calls k a0_0 true _ A5.out).mono ?_); rintro e w' ⟨rfl, ⟨nd, rfl⟩⟩; refine ⟨_, rfl, ?_⟩) | (go_at_call 93; (with_reducible refine (impl_within.calls a0_1 0 2 true _ A7.out).mono ?_); rintro e w' ⟨rfl, ⟨nd, rfl⟩⟩))
     go_meet
     case rel => exact ⟨_, (true), (zE _), H', ⟨by first | omega | exact Nat.le_refl _⟩, ⟨zr BK320⟩, ⟨zb _⟩⟩
    ·rw [if_neg c9] at H
     have c9b0 : decide (256 < (a0_4.size : Int)) = false := decide_eq_false c9
     have c9b1 : decide (256 < a0_4.size) = false := decide_eq_false (by omega)
     clear c9
     (first | rw [c9b0] | (simp only [i64_w, i32_w]; rw [c9b0]) | skip)
     have H' := Aside0.mk H
     clear H
     obtain ⟨hcz11_0, hcz11_1, hcz11_2, hcz11_3, hcz11_4, hcz11_5, hfz11_0, hfz11_1, hfz11_2, hfz11_3, hfz11_4, hfz11_5⟩ := zF6 BK320
     go_wp2_with (first | ((with_reducible refine gate_callee (f := 92) rfl ?_); refine zc (some 10) Tryz.func92 #[.string a0_0] ?_; (with_reducible refine (impl_NameOk.calls k a0_0 true _ A5.out).mono ?_); rintro e w' ⟨rfl, ⟨nd, rfl⟩⟩; refine ⟨_, rfl, ?_⟩) | (go_at_call 93; (with_reducible refine (impl_within.calls a0_1 0 2 true _ A7.out).mono ?_); rintro e w' ⟨rfl, ⟨nd, rfl⟩⟩))
     go_meet
     case rel => exact ⟨_, (decide ((l0_5.length : Int) > 256)), (zE _), H', ⟨by first | omega | exact Nat.le_refl _⟩, ⟨zr BK320⟩, ⟨zb _⟩⟩
   ·replace c8 := Bool.eq_false_iff.mpr c8
    subst c8
    rw [if_neg (show ¬ (false = true) by decide)] at H
    have H' := Aside0.mk H
    clear H
    obtain ⟨hcz12_0, hcz12_1, hcz12_2, hcz12_3, hcz12_4, hcz12_5, hfz12_0, hfz12_1, hfz12_2, hfz12_3, hfz12_4, hfz12_5⟩ := zF6 BK320
    go_wp2_with (first | ((with_reducible refine gate_callee (f := 92) rfl ?_); refine zc (some 10) Tryz.func92 #[.string a0_0] ?_; (with_reducible refine (impl_NameOk.calls k a0_0 true _ A5.out).mono ?_); rintro e w' ⟨rfl, ⟨nd, rfl⟩⟩; refine ⟨_, rfl, ?_⟩) | (go_at_call 93; (with_reducible refine (impl_within.calls a0_1 0 2 false _ A7.out).mono ?_); rintro e w' ⟨rfl, ⟨nd, rfl⟩⟩))
    go_meet
    case rel => exact ⟨_, (true), (zE _), H', ⟨by first | omega | exact Nat.le_refl _⟩, ⟨zr BK320⟩, ⟨zb _⟩⟩
  ·replace c6 := Bool.eq_false_iff.mpr c6
   subst c6
   rw [if_neg (show ¬ (false = true) by decide)] at H
   have H' := Aside0.mk H
   clear H
   obtain ⟨hcz13_0, hcz13_1, hcz13_2, hcz13_3, hcz13_4, hcz13_5, hfz13_0, hfz13_1, hfz13_2, hfz13_3, hfz13_4, hfz13_5⟩ := zF6 BK320
   go_wp2_with (first | ((with_reducible refine gate_callee (f := 92) rfl ?_); refine zc (some 10) Tryz.func92 #[.string a0_0] ?_; (with_reducible refine (impl_NameOk.calls k a0_0 false _ A5.out).mono ?_); rintro e w' ⟨rfl, ⟨nd, rfl⟩⟩; refine ⟨_, rfl, ?_⟩))
   go_meet
   case rel => exact ⟨_, (true), (zE _), H', ⟨by first | omega | exact Nat.le_refl _⟩, ⟨zr BK320⟩, ⟨zb _⟩⟩
 case rest =>
  clear HC2
  obtain ⟨kq, x27_1, rfl, HA, HJ1, BK320, HB⟩ := hcut
  cases kq with
  | zero => exact absurd HA.out (by simp [impl_SectionOk.j0])
  | succ kj1 =>
   have H := HA.out
   clear HA
   simp only [impl_SectionOk.j0] at H
   by_cases c14 : x27_1 = true
   ·subst c14
    rw [if_pos rfl] at H
    obtain rfl := Option.some.inj H
    go_wp2
    go_ret
    exact ⟨ze _, zb _⟩
   ·replace c14 := Bool.eq_false_iff.mpr c14
    subst c14
    rw [if_neg (show ¬ (false = true) by decide)] at H
    have HC15 := Aside0.mk H
    clear H
    go_upto_region 4 with (fail)
    go_cut [45] (fun v45 wc => ∃ (kq : Nat) (x45_14 : Bool), v45 = .bool x45_14 ∧ Aside0 (impl_SectionOk.j1 kq (a0_4.size : Int) x45_14 a0_0 a0_1 a0_2 a0_3 a0_4 l0_5 = some r) ∧ Aside0 (kq ≤ kj1) ∧ Aside0 (wc.heap[gb320]? = some (.cells #[.string a0_0, .int .i64 a0_1, .int .i64 a0_2, .int .i64 a0_3, .string a0_4, (.slice A0_5 l0_5.length c0_5)] 71 (0, 0))) ∧ Aside0 (Below w.heap.size w wc))
    case first =>
     have H := HC15.out
     clear HC15
     by_cases c16 : a0_1 = 2
     ·rw [if_pos c16] at H
      have c16b0 : (a0_1 == 2) = true := beq_iff_eq.mpr c16
      have c16b1 : (a0_1 != 2) = false := bne_eq_false_iff_eq.mpr c16
      clear c16
      (first | rw [c16b0] | (simp only [i64_w, i32_w]; rw [c16b0]) | skip)
      obtain ⟨t323, A170, H⟩ := Option.bind_eq_some_iff.mp H
      have A17 := Aside0.mk A170
      clear A170
      by_cases c18 : a0_4.toList = t323.toList
      ·rw [if_pos c18] at H
       have c18b0 : (a0_4.toList == t323.toList) = true := beq_iff_eq.mpr c18
       have c18b1 : (a0_4.toList != t323.toList) = false := bne_eq_false_iff_eq.mpr c18
       clear c18
       have H' := Aside0.mk H
       clear H
       try go_wp2
       have n0_ := Aside0.mk (blk_drew BK320.out)
       have n1_ := Aside0.mk (below_drew1 HB.out)
       clear BK320
       clear HB
       have BK320 := n0_
       have HB := n1_
       clear n0_ n1_
       refine start_ (n := 18) (S := fun w' => w'.cell? ⟨gb320, 0, none⟩ = some (.string a0_0) ∧ w'.cell? ⟨gb320, 1, none⟩ = some (.int .i64 a0_1) ∧ w'.cell? ⟨gb320, 2, none⟩ = some (.int .i64 a0_2) ∧ w'.cell? ⟨gb320, 3, none⟩ = some (.int .i64 a0_3) ∧ w'.cell? ⟨gb320, 4, none⟩ = some (.string a0_4) ∧ w'.cell? ⟨gb320, 5, none⟩ = some (.slice A0_5 l0_5.length c0_5)) (ds := []) (zm 18 0) (by kernel_rfl) rfl rfl ⟨zc0 BK320, zc1 BK320, zc2 BK320, zc3 BK320, zc4 BK320, zc5 BK320⟩ (fun hHeld => ?_); refine with_tabW impl_SectionOk.tab4 impl_SectionOk.bits4 (fun HT_ HW_ => ?_)
       generalize wc.drew = w19 at BK320 HB hHeld ⊢
       refine zp 0 28 (zm 18 1) ?_
       refine zy 1 29 (zm 18 3) hHeld ?_
       refine zp 2 30 (zm 18 7) ?_
       refine zp 3 31 (zm 18 15) ?_
       refine zp 4 32 (zm 18 31) ?_
       refine zp 6 34 (zm 18 95) ?_
       refine zy 5 33 (zm 18 127) hHeld ?_
       refine zy 7 35 (zm 18 255) hHeld ?_
       refine zp 8 36 (zm 18 511) ?_
       refine one_ (i := 9) (N := some 37) (zm 18 1023) rfl rfl (one_of HT_.out (by kernel_rfl)) (by decide) (fun K hK => ?_)
       refine zi Tryz.func95 #[.int .i64 (a0_4.size : Int)] ?_
       with_reducible refine (impl_noughts.calls (a0_4.size : Int) t323 _ A17.out).mono ?_
       rintro e w20 ⟨rfl, hb⟩
       refine ⟨_, rfl, ?_⟩
       have n0_ := zk BK320 hb
       have n1_ := zt w hb
       clear BK320
       clear HB
       have BK320 := n0_
       have HB := n1_
       clear n0_ n1_
       (try clear hb)
       (try clear hb2)
       (try clear hk)
       (try clear hi)
       refine hK.out _ _ ⟨zc0 BK320, zc1 BK320, zc2 BK320, zc3 BK320, zc4 BK320, zc5 BK320⟩ (fun hHeld => ?_)
       clear hK K
       refine zq ?_
       refine zp 10 38 (zm 18 2047) ?_
       refine zp 11 39 (zm 18 4095) ?_
       refine zp 12 40 (zm 18 8191) ?_
       refine zy 13 41 (zm 18 16383) hHeld ?_
       refine zp 14 42 (zm 18 32767) ?_
       refine zp 15 43 (zm 18 65535) ?_
       refine zp 16 44 (zm 18 131071) ?_
       refine zp 17 45 (zm 18 262143) ?_
       refine done_ (done_of HT_.out (by kernel_rfl)) ?_
       try go_wp2
       go_meet
       case rel => exact ⟨_, (decide ((l0_5.length : Int) > 0)), (zE _), H', ⟨by have := HJ1.out; first | omega | exact Nat.le_refl _⟩, ⟨zr BK320⟩, ⟨zb _⟩⟩
      ·rw [if_neg c18] at H
       have c18b0 : (a0_4.toList == t323.toList) = false := beq_eq_false_iff_ne.mpr c18
       have c18b1 : (a0_4.toList != t323.toList) = true := bne_iff_ne.mpr c18
       have H' := Aside0.mk H
       clear H
       try go_wp2
       have n0_ := Aside0.mk (blk_drew BK320.out)
       have n1_ := Aside0.mk (below_drew1 HB.out)
       clear BK320
       clear HB
       have BK320 := n0_
       have HB := n1_
       clear n0_ n1_
       refine start_ (n := 18) (S := fun w' => w'.cell? ⟨gb320, 0, none⟩ = some (.string a0_0) ∧ w'.cell? ⟨gb320, 1, none⟩ = some (.int .i64 a0_1) ∧ w'.cell? ⟨gb320, 2, none⟩ = some (.int .i64 a0_2) ∧ w'.cell? ⟨gb320, 3, none⟩ = some (.int .i64 a0_3) ∧ w'.cell? ⟨gb320, 4, none⟩ = some (.string a0_4) ∧ w'.cell? ⟨gb320, 5, none⟩ = some (.slice A0_5 l0_5.length c0_5)) (ds := []) (zm 18 0) (by kernel_rfl) rfl rfl ⟨zc0 BK320, zc1 BK320, zc2 BK320, zc3 BK320, zc4 BK320, zc5 BK320⟩ (fun hHeld => ?_); refine with_tabW impl_SectionOk.tab4 impl_SectionOk.bits4 (fun HT_ HW_ => ?_)
       generalize wc.drew = w21 at BK320 HB hHeld ⊢
       refine zp 0 28 (zm 18 1) ?_
       refine zy 1 29 (zm 18 3) hHeld ?_
       refine zp 2 30 (zm 18 7) ?_
       refine zp 3 31 (zm 18 15) ?_
       refine zp 4 32 (zm 18 31) ?_
       refine zp 6 34 (zm 18 95) ?_
       refine zy 5 33 (zm 18 127) hHeld ?_
       refine zy 7 35 (zm 18 255) hHeld ?_
       refine zp 8 36 (zm 18 511) ?_
       refine one_ (i := 9) (N := some 37) (zm 18 1023) rfl rfl (one_of HT_.out (by kernel_rfl)) (by decide) (fun K hK => ?_)
       refine zi Tryz.func95 #[.int .i64 (a0_4.size : Int)] ?_
       with_reducible refine (impl_noughts.calls (a0_4.size : Int) t323 _ A17.out).mono ?_
       rintro e w22 ⟨rfl, hb⟩
       refine ⟨_, rfl, ?_⟩
       have n0_ := zk BK320 hb
       have n1_ := zt w hb
       clear BK320
       clear HB
       have BK320 := n0_
       have HB := n1_
       clear n0_ n1_
       (try clear hb)
       (try clear hb2)
       (try clear hk)
       (try clear hi)
       refine hK.out _ _ ⟨zc0 BK320, zc1 BK320, zc2 BK320, zc3 BK320, zc4 BK320, zc5 BK320⟩ (fun hHeld => ?_)
       clear hK K
       refine zq ?_
       refine zp 10 38 (zm 18 2047) ?_
       refine zp 11 39 (zm 18 4095) ?_
       refine zu 12 40 (zm 18 8191) ?_
       refine zu 13 41 (zm 18 16383) ?_
       refine zu 14 42 (zm 18 32767) ?_
       refine zu 15 43 (zm 18 65535) ?_
       refine zp 16 44 (zm 18 131071) ?_
       refine zp 17 45 (zm 18 262143) ?_
       refine done_ (done_of HT_.out (by kernel_rfl)) ?_
       try go_wp2
       go_meet
       case rel => exact ⟨_, (true), (zE _), H', ⟨by have := HJ1.out; first | omega | exact Nat.le_refl _⟩, ⟨zr BK320⟩, ⟨zb _⟩⟩
     ·rw [if_neg c16] at H
      have c16b0 : (a0_1 == 2) = false := beq_eq_false_iff_ne.mpr c16
      have c16b1 : (a0_1 != 2) = true := bne_iff_ne.mpr c16
      (first | rw [c16b0] | (simp only [i64_w, i32_w]; rw [c16b0]) | skip)
      have H' := Aside0.mk H
      clear H
      try go_wp2
      have n0_ := Aside0.mk (blk_drew BK320.out)
      have n1_ := Aside0.mk (below_drew1 HB.out)
      clear BK320
      clear HB
      have BK320 := n0_
      have HB := n1_
      clear n0_ n1_
      refine start_ (n := 18) (S := fun w' => w'.cell? ⟨gb320, 0, none⟩ = some (.string a0_0) ∧ w'.cell? ⟨gb320, 1, none⟩ = some (.int .i64 a0_1) ∧ w'.cell? ⟨gb320, 2, none⟩ = some (.int .i64 a0_2) ∧ w'.cell? ⟨gb320, 3, none⟩ = some (.int .i64 a0_3) ∧ w'.cell? ⟨gb320, 4, none⟩ = some (.string a0_4) ∧ w'.cell? ⟨gb320, 5, none⟩ = some (.slice A0_5 l0_5.length c0_5)) (ds := []) (zm 18 0) (by kernel_rfl) rfl rfl ⟨zc0 BK320, zc1 BK320, zc2 BK320, zc3 BK320, zc4 BK320, zc5 BK320⟩ (fun hHeld => ?_); refine with_tabW impl_SectionOk.tab4 impl_SectionOk.bits4 (fun HT_ HW_ => ?_)
      generalize wc.drew = w23 at BK320 HB hHeld ⊢
      refine zp 0 28 (zm 18 1) ?_
      refine zy 1 29 (zm 18 3) hHeld ?_
      refine zp 2 30 (zm 18 7) ?_
      refine zp 3 31 (zm 18 15) ?_
      refine zu 4 32 (zm 18 31) ?_
      refine zu 5 33 (zm 18 63) ?_
      refine zu 6 34 (zm 18 127) ?_
      refine zu 7 35 (zm 18 255) ?_
      refine zu 8 36 (zm 18 511) ?_
      refine zu 9 37 (zm 18 1023) ?_
      refine zu 10 38 (zm 18 2047) ?_
      refine zu 11 39 (zm 18 4095) ?_
      refine zu 12 40 (zm 18 8191) ?_
      refine zu 13 41 (zm 18 16383) ?_
      refine zu 14 42 (zm 18 32767) ?_
      refine zu 15 43 (zm 18 65535) ?_
      refine zu 16 44 (zm 18 131071) ?_
      refine zp 17 45 (zm 18 262143) ?_
      refine done_ (done_of HT_.out (by kernel_rfl)) ?_
      try go_wp2
      go_meet
      case rel => exact ⟨_, (false), (zE _), H', ⟨by have := HJ1.out; first | omega | exact Nat.le_refl _⟩, ⟨zr BK320⟩, ⟨zb _⟩⟩
    case rest =>
     clear HC15
     obtain ⟨kq, x45_14, rfl, HA, HJ14, BK320, HB⟩ := hcut
     cases kq with
     | zero => exact absurd HA.out (by simp [impl_SectionOk.j1])
     | succ kj14 =>
      have H := HA.out
      clear HA
      simp only [impl_SectionOk.j1] at H
      by_cases c24 : x45_14 = true
      ·subst c24
       rw [if_pos rfl] at H
       obtain rfl := Option.some.inj H
       go_wp2
       go_ret
       exact ⟨ze _, zb _⟩
      ·replace c24 := Bool.eq_false_iff.mpr c24
       subst c24
       rw [if_neg (show ¬ (false = true) by decide)] at H
       obtain ⟨t324, A250, H⟩ := Option.bind_eq_some_iff.mp H
       have A25 := Aside0.mk A250
       clear A250
       by_cases c26 : a0_3 = (-1)
       ·rw [if_pos c26] at H
        have c26b0 : (a0_3 == (-1)) = true := beq_iff_eq.mpr c26
        have c26b1 : (a0_3 != (-1)) = false := bne_eq_false_iff_eq.mpr c26
        clear c26
        by_cases c27 : a0_2 = (-1)
        ·rw [if_pos c27] at H
         have c27b0 : (a0_2 == (-1)) = true := beq_iff_eq.mpr c27
         have c27b1 : (a0_2 != (-1)) = false := bne_eq_false_iff_eq.mpr c27
         clear c27
         obtain ⟨t325, A280, H⟩ := Option.bind_eq_some_iff.mp H
         have A28 := Aside0.mk A280
         clear A280
         obtain rfl := Option.some.inj H
         obtain ⟨hcz29_0, hcz29_1, hcz29_2, hcz29_3, hcz29_4, hcz29_5, hfz29_0, hfz29_1, hfz29_2, hfz29_3, hfz29_4, hfz29_5⟩ := zF6 BK320
         go_wp2_with (first | ((with_reducible refine gate_callee (f := 96) rfl ?_); refine zc (some 48) Tryz.func96 #[.int .i64 a0_1] ?_; (with_reducible refine (impl_baseOf.calls a0_1 t324 _ A25.out).mono ?_); rintro e w' ⟨rfl, ⟨nd, rfl⟩⟩; refine ⟨_, rfl, ?_⟩) | ((with_reducible refine gate_callee (f := 97) rfl ?_); refine zc (some 82) Tryz.func97 #[.slice A0_5 l0_5.length c0_5, .func (.func 98) #[] #[.pointer (some ⟨gb320, 0, none⟩)]] ?_; (with_reducible refine (impl_Patch.calls kj14 _ _ l0_5 gb320 a0_0 a0_1 a0_2 a0_3 a0_4 l0_5 t325 _ ?side1 ?side2 ?side3 A28.out).mono ?_); (case side1 => repeat (first | exact (Kd.C_below HR0_5.out (zb _)) | (with_reducible refine Kd.C_alloc ?_ _) | (with_reducible refine Kd.C_drewN ?_ _) | (with_reducible refine Kd.C_drew ?_))); (case side2 => exact HC0_5.out); (case side3 => exact (zr BK320)); rintro e w30 ⟨rfl, hb⟩; refine ⟨_, rfl, ?_⟩; replace BK320 := zk BK320 hb; replace HB := zt w hb; (try clear hb); (try clear hb2); (try clear hk); (try clear hi)))
         go_ret
         exact ⟨ze _, zb _⟩
        ·rw [if_neg c27] at H
         have c27b0 : (a0_2 == (-1)) = false := beq_eq_false_iff_ne.mpr c27
         have c27b1 : (a0_2 != (-1)) = true := bne_iff_ne.mpr c27
         by_cases c31 : a0_1 = 1
         ·rw [if_pos c31] at H
          have c31b0 : (a0_1 == 1) = true := beq_iff_eq.mpr c31
          have c31b1 : (a0_1 != 1) = false := bne_eq_false_iff_eq.mpr c31
          clear c31
          obtain ⟨t326, A320, H⟩ := Option.bind_eq_some_iff.mp H
          have A32 := Aside0.mk A320
          clear A320
          by_cases c33 : t326 = true
          ·subst c33
           rw [if_pos rfl] at H
           obtain ⟨t327, A340, H⟩ := Option.bind_eq_some_iff.mp H
           have A34 := Aside0.mk A340
           clear A340
           obtain rfl := Option.some.inj H
           obtain ⟨hcz35_0, hcz35_1, hcz35_2, hcz35_3, hcz35_4, hcz35_5, hfz35_0, hfz35_1, hfz35_2, hfz35_3, hfz35_4, hfz35_5⟩ := zF6 BK320
           go_wp2_with (first | ((with_reducible refine gate_callee (f := 96) rfl ?_); refine zc (some 48) Tryz.func96 #[.int .i64 a0_1] ?_; (with_reducible refine (impl_baseOf.calls a0_1 t324 _ A25.out).mono ?_); rintro e w' ⟨rfl, ⟨nd, rfl⟩⟩; refine ⟨_, rfl, ?_⟩) | (go_at_call 93; (with_reducible refine (impl_within.calls a0_2 1 15 true _ A32.out).mono ?_); rintro e w' ⟨rfl, ⟨nd, rfl⟩⟩) | ((with_reducible refine gate_callee (f := 97) rfl ?_); refine zc (some 82) Tryz.func97 #[.slice A0_5 l0_5.length c0_5, .func (.func 98) #[] #[.pointer (some ⟨gb320, 0, none⟩)]] ?_; (with_reducible refine (impl_Patch.calls kj14 _ _ l0_5 gb320 a0_0 a0_1 a0_2 a0_3 a0_4 l0_5 t327 _ ?side1 ?side2 ?side3 A34.out).mono ?_); (case side1 => repeat (first | exact (Kd.C_below HR0_5.out (zb _)) | (with_reducible refine Kd.C_alloc ?_ _) | (with_reducible refine Kd.C_drewN ?_ _) | (with_reducible refine Kd.C_drew ?_))); (case side2 => exact HC0_5.out); (case side3 => exact (zr BK320)); rintro e w36 ⟨rfl, hb⟩; refine ⟨_, rfl, ?_⟩; replace BK320 := zk BK320 hb; replace HB := zt w hb; (try clear hb); (try clear hb2); (try clear hk); (try clear hi)))
           go_ret
           exact ⟨ze _, zb _⟩
          ·replace c33 := Bool.eq_false_iff.mpr c33
           subst c33
           rw [if_neg (show ¬ (false = true) by decide)] at H
           obtain rfl := Option.some.inj H
           obtain ⟨hcz37_0, hcz37_1, hcz37_2, hcz37_3, hcz37_4, hcz37_5, hfz37_0, hfz37_1, hfz37_2, hfz37_3, hfz37_4, hfz37_5⟩ := zF6 BK320
           go_wp2_with (first | ((with_reducible refine gate_callee (f := 96) rfl ?_); refine zc (some 48) Tryz.func96 #[.int .i64 a0_1] ?_; (with_reducible refine (impl_baseOf.calls a0_1 t324 _ A25.out).mono ?_); rintro e w' ⟨rfl, ⟨nd, rfl⟩⟩; refine ⟨_, rfl, ?_⟩) | (go_at_call 93; (with_reducible refine (impl_within.calls a0_2 1 15 false _ A32.out).mono ?_); rintro e w' ⟨rfl, ⟨nd, rfl⟩⟩))
           go_ret
           exact ⟨ze _, zb _⟩
         ·rw [if_neg c31] at H
          have c31b0 : (a0_1 == 1) = false := beq_eq_false_iff_ne.mpr c31
          have c31b1 : (a0_1 != 1) = true := bne_iff_ne.mpr c31
          obtain rfl := Option.some.inj H
          obtain ⟨hcz38_0, hcz38_1, hcz38_2, hcz38_3, hcz38_4, hcz38_5, hfz38_0, hfz38_1, hfz38_2, hfz38_3, hfz38_4, hfz38_5⟩ := zF6 BK320
          go_wp2_with (first | ((with_reducible refine gate_callee (f := 96) rfl ?_); refine zc (some 48) Tryz.func96 #[.int .i64 a0_1] ?_; (with_reducible refine (impl_baseOf.calls a0_1 t324 _ A25.out).mono ?_); rintro e w' ⟨rfl, ⟨nd, rfl⟩⟩; refine ⟨_, rfl, ?_⟩))
          go_ret
          exact ⟨ze _, zb _⟩
       ·rw [if_neg c26] at H
        have c26b0 : (a0_3 == (-1)) = false := beq_eq_false_iff_ne.mpr c26
        have c26b1 : (a0_3 != (-1)) = true := bne_iff_ne.mpr c26
        obtain ⟨t328, A390, H⟩ := Option.bind_eq_some_iff.mp H
        have A39 := Aside0.mk A390
        clear A390
        by_cases c40 : t328 = true
        ·subst c40
         rw [if_pos rfl] at H
         by_cases c41 : a0_2 = (-1)
         ·rw [if_pos c41] at H
          have c41b0 : (a0_2 == (-1)) = true := beq_iff_eq.mpr c41
          have c41b1 : (a0_2 != (-1)) = false := bne_eq_false_iff_eq.mpr c41
          clear c41
          obtain ⟨t329, A420, H⟩ := Option.bind_eq_some_iff.mp H
          have A42 := Aside0.mk A420
          clear A420
          obtain rfl := Option.some.inj H
          obtain ⟨hcz43_0, hcz43_1, hcz43_2, hcz43_3, hcz43_4, hcz43_5, hfz43_0, hfz43_1, hfz43_2, hfz43_3, hfz43_4, hfz43_5⟩ := zF6 BK320
          go_wp2_with (first | ((with_reducible refine gate_callee (f := 96) rfl ?_); refine zc (some 48) Tryz.func96 #[.int .i64 a0_1] ?_; (with_reducible refine (impl_baseOf.calls a0_1 t324 _ A25.out).mono ?_); rintro e w' ⟨rfl, ⟨nd, rfl⟩⟩; refine ⟨_, rfl, ?_⟩) | (go_at_call 93; (with_reducible refine (impl_within.calls a0_3 t324 (wrap64 ((wrap64 (t324 + 256)) - (a0_4.size : Int))) true _ A39.out).mono ?_); rintro e w' ⟨rfl, ⟨nd, rfl⟩⟩) | ((with_reducible refine gate_callee (f := 97) rfl ?_); refine zc (some 82) Tryz.func97 #[.slice A0_5 l0_5.length c0_5, .func (.func 98) #[] #[.pointer (some ⟨gb320, 0, none⟩)]] ?_; (with_reducible refine (impl_Patch.calls kj14 _ _ l0_5 gb320 a0_0 a0_1 a0_2 a0_3 a0_4 l0_5 t329 _ ?side1 ?side2 ?side3 A42.out).mono ?_); (case side1 => repeat (first | exact (Kd.C_below HR0_5.out (zb _)) | (with_reducible refine Kd.C_alloc ?_ _) | (with_reducible refine Kd.C_drewN ?_ _) | (with_reducible refine Kd.C_drew ?_))); (case side2 => exact HC0_5.out); (case side3 => exact (zr BK320)); rintro e w44 ⟨rfl, hb⟩; refine ⟨_, rfl, ?_⟩; replace BK320 := zk BK320 hb; replace HB := zt w hb; (try clear hb); (try clear hb2); (try clear hk); (try clear hi)))
          go_ret
          exact ⟨ze _, zb _⟩
         ·rw [if_neg c41] at H
          have c41b0 : (a0_2 == (-1)) = false := beq_eq_false_iff_ne.mpr c41
          have c41b1 : (a0_2 != (-1)) = true := bne_iff_ne.mpr c41
          by_cases c45 : a0_1 = 1
          ·rw [if_pos c45] at H
           have c45b0 : (a0_1 == 1) = true := beq_iff_eq.mpr c45
           have c45b1 : (a0_1 != 1) = false := bne_eq_false_iff_eq.mpr c45
           clear c45
           obtain ⟨t330, A460, H⟩ := Option.bind_eq_some_iff.mp H
           have A46 := Aside0.mk A460
           clear A460
           by_cases c47 : t330 = true
           ·subst c47
            rw [if_pos rfl] at H
            obtain ⟨t331, A480, H⟩ := Option.bind_eq_some_iff.mp H
            have A48 := Aside0.mk A480
            clear A480
            obtain rfl := Option.some.inj H
            obtain ⟨hcz49_0, hcz49_1, hcz49_2, hcz49_3, hcz49_4, hcz49_5, hfz49_0, hfz49_1, hfz49_2, hfz49_3, hfz49_4, hfz49_5⟩ := zF6 BK320
            go_wp2_with (first | ((with_reducible refine gate_callee (f := 96) rfl ?_); refine zc (some 48) Tryz.func96 #[.int .i64 a0_1] ?_; (with_reducible refine (impl_baseOf.calls a0_1 t324 _ A25.out).mono ?_); rintro e w' ⟨rfl, ⟨nd, rfl⟩⟩; refine ⟨_, rfl, ?_⟩) | (go_at_call 93; (with_reducible refine (impl_within.calls a0_3 t324 (wrap64 ((wrap64 (t324 + 256)) - (a0_4.size : Int))) true _ A39.out).mono ?_); rintro e w' ⟨rfl, ⟨nd, rfl⟩⟩) | (go_at_call 93; (with_reducible refine (impl_within.calls a0_2 1 15 true _ A46.out).mono ?_); rintro e w' ⟨rfl, ⟨nd, rfl⟩⟩) | ((with_reducible refine gate_callee (f := 97) rfl ?_); refine zc (some 82) Tryz.func97 #[.slice A0_5 l0_5.length c0_5, .func (.func 98) #[] #[.pointer (some ⟨gb320, 0, none⟩)]] ?_; (with_reducible refine (impl_Patch.calls kj14 _ _ l0_5 gb320 a0_0 a0_1 a0_2 a0_3 a0_4 l0_5 t331 _ ?side1 ?side2 ?side3 A48.out).mono ?_); (case side1 => repeat (first | exact (Kd.C_below HR0_5.out (zb _)) | (with_reducible refine Kd.C_alloc ?_ _) | (with_reducible refine Kd.C_drewN ?_ _) | (with_reducible refine Kd.C_drew ?_))); (case side2 => exact HC0_5.out); (case side3 => exact (zr BK320)); rintro e w50 ⟨rfl, hb⟩; refine ⟨_, rfl, ?_⟩; replace BK320 := zk BK320 hb; replace HB := zt w hb; (try clear hb); (try clear hb2); (try clear hk); (try clear hi)))
            go_ret
            exact ⟨ze _, zb _⟩
           ·replace c47 := Bool.eq_false_iff.mpr c47
            subst c47
            rw [if_neg (show ¬ (false = true) by decide)] at H
            obtain rfl := Option.some.inj H
            obtain ⟨hcz51_0, hcz51_1, hcz51_2, hcz51_3, hcz51_4, hcz51_5, hfz51_0, hfz51_1, hfz51_2, hfz51_3, hfz51_4, hfz51_5⟩ := zF6 BK320
            go_wp2_with (first | ((with_reducible refine gate_callee (f := 96) rfl ?_); refine zc (some 48) Tryz.func96 #[.int .i64 a0_1] ?_; (with_reducible refine (impl_baseOf.calls a0_1 t324 _ A25.out).mono ?_); rintro e w' ⟨rfl, ⟨nd, rfl⟩⟩; refine ⟨_, rfl, ?_⟩) | (go_at_call 93; (with_reducible refine (impl_within.calls a0_3 t324 (wrap64 ((wrap64 (t324 + 256)) - (a0_4.size : Int))) true _ A39.out).mono ?_); rintro e w' ⟨rfl, ⟨nd, rfl⟩⟩) | (go_at_call 93; (with_reducible refine (impl_within.calls a0_2 1 15 false _ A46.out).mono ?_); rintro e w' ⟨rfl, ⟨nd, rfl⟩⟩))
            go_ret
            exact ⟨ze _, zb _⟩
          ·rw [if_neg c45] at H
           have c45b0 : (a0_1 == 1) = false := beq_eq_false_iff_ne.mpr c45
           have c45b1 : (a0_1 != 1) = true := bne_iff_ne.mpr c45
           obtain rfl := Option.some.inj H
           obtain ⟨hcz52_0, hcz52_1, hcz52_2, hcz52_3, hcz52_4, hcz52_5, hfz52_0, hfz52_1, hfz52_2, hfz52_3, hfz52_4, hfz52_5⟩ := zF6 BK320
           go_wp2_with (first | ((with_reducible refine gate_callee (f := 96) rfl ?_); refine zc (some 48) Tryz.func96 #[.int .i64 a0_1] ?_; (with_reducible refine (impl_baseOf.calls a0_1 t324 _ A25.out).mono ?_); rintro e w' ⟨rfl, ⟨nd, rfl⟩⟩; refine ⟨_, rfl, ?_⟩) | (go_at_call 93; (with_reducible refine (impl_within.calls a0_3 t324 (wrap64 ((wrap64 (t324 + 256)) - (a0_4.size : Int))) true _ A39.out).mono ?_); rintro e w' ⟨rfl, ⟨nd, rfl⟩⟩))
           go_ret
           exact ⟨ze _, zb _⟩
        ·replace c40 := Bool.eq_false_iff.mpr c40
         subst c40
         rw [if_neg (show ¬ (false = true) by decide)] at H
         obtain rfl := Option.some.inj H
         obtain ⟨hcz53_0, hcz53_1, hcz53_2, hcz53_3, hcz53_4, hcz53_5, hfz53_0, hfz53_1, hfz53_2, hfz53_3, hfz53_4, hfz53_5⟩ := zF6 BK320
         go_wp2_with (first | ((with_reducible refine gate_callee (f := 96) rfl ?_); refine zc (some 48) Tryz.func96 #[.int .i64 a0_1] ?_; (with_reducible refine (impl_baseOf.calls a0_1 t324 _ A25.out).mono ?_); rintro e w' ⟨rfl, ⟨nd, rfl⟩⟩; refine ⟨_, rfl, ?_⟩) | (go_at_call 93; (with_reducible refine (impl_within.calls a0_3 t324 (wrap64 ((wrap64 (t324 + 256)) - (a0_4.size : Int))) false _ A39.out).mono ?_); rintro e w' ⟨rfl, ⟨nd, rfl⟩⟩))
         go_ret
         exact ⟨ze _, zb _⟩

end Go.Proofs.YtlacpadpdfccmaaGreatDoor.PFnExactObjectText
namespace Go.Proofs.YtlacpadpdfccmaaGreatDoor.PFnExactObjectText
open Go.RowKit Go.Proofs.YtlacpadpdfccmaaGreatDoor.Z Go.Proofs.YtlacpadpdfccmaaGreatDoorW.PrintWords Go.Proofs.YtlacpadpdfccmaaGreatDoorW.PrintLast Go.Proofs.YtlacpadpdfccmaaGreatDoorW.PrintMore
attribute [local go_sem] max2_int min2_int max_two min_two max_three min_three max_four min_four   -- for this text's walks alone
set_option linter.unusedVariables false
set_option linter.unusedSimpArgs false

set_option maxHeartbeats 2000000 in
theorem impl_Section.pred (k : Nat) (y : S71) (A2 : Option Addr) (c2 : Nat) (b : Bool) (w : World) (hr2 : Kd.C k79 w A2 y.f5.length y.f5) (hc2 : y.f5.length ≤ c2) (h : impl_SectionOk.f k y.f0 y.f1 y.f2 y.f3 y.f4 y.f5 = some b) :
    Calls Tryz.prog 53 #[.agg #[.string y.f0, .int .i64 y.f1, .int .i64 y.f2, .int .i64 y.f3, .string y.f4, .slice A2 y.f5.length c2]] w fun e w' => e = .returned (.bool (!b)) ∧ Below w.heap.size w w' := by
  have hu_0 := Tryz.underlying71
  have HR2 := Aside0.mk hr2
  have HC2 := Aside0.mk hc2
  have H := Aside0.mk h
  clear hr2 hc2 h
  go_enter Tryz.func53, Tryz.ntmps53
  go_wp2_with (go_at_call 54; refine (impl_SectionOk.calls k y.f0 y.f1 y.f2 y.f3 y.f4 A2 c2 y.f5 b _ ?h3 HC2.out H.out).mono ?_; (case h3 => exact Kd.C_below HR2.out (by repeat (first | exact Below.refl _ _ | apply below_alloc | apply pw_below_drewN | apply below_drew))); rintro e w9 ⟨rfl, hb9⟩; have HB := Aside0.mk (below_step (show Below w.heap.size w _ from by repeat (first | exact Below.refl _ _ | apply below_alloc | apply pw_below_drewN | apply below_drew)) hb9); clear hb9)
  try go_wp2
  go_ret
  exact ⟨rfl, by repeat (first | exact HB.out | apply below_alloc | apply pw_below_drewN | apply below_drew1)⟩
def impl_Section.go (k : Nat) : List S71 → Int → Option Int
  | [], _ => some (-1)
  | y :: r, i => (impl_SectionOk.f k y.f0 y.f1 y.f2 y.f3 y.f4 y.f5).bind fun b => if b = true then impl_Section.go k r (i + 1) else some i
def impl_Section.f (k : Nat) (l0 : List S71) (_ : Unit) : Option Bool := (impl_Section.go k l0 0).bind fun i => some (decide (0 ≤ i))
theorem impl_Section.go_mono (k : Nat) : ∀ (y : List S71) (i : Int), LeO (impl_Section.go k y i) (impl_Section.go (k + 1) y i)
  | [], _ => LeO.refl _
  | x :: r, i => LeO.bind (impl_SectionOk.mono _ _ _ _ _ _  _) (fun _ => LeO.ite (impl_Section.go_mono k r (i + 1)) (LeO.refl _))
theorem impl_Section.mono : ∀ a0 a1 k, LeO (impl_Section.f k a0 a1) (impl_Section.f (k + 1) a0 a1) := by
  intro a0 a1 k
  unfold impl_Section.f
  exact LeO.bind (impl_Section.go_mono k a0 0) (fun _ => LeO.refl _)
open Go.Shelf in
set_option maxHeartbeats 4000000 in
set_option maxRecDepth 100000 in
theorem impl_Section.walk (k : Nat) (A0 : Option Addr) (c0 : Nat) (l0 : List S71) (r : Int) (w : World) (hr0 : Kd.C k71 w A0 l0.length l0) (hc0 : l0.length ≤ c0) (h : impl_Section.go k l0 0 = some r) :
    Calls Tryz.prog 94 #[.slice A0 l0.length c0, .func (.func 53) #[] #[]] w fun e w' => e = .returned (.int .i64 r) ∧ Below w.heap.size w w' := by
  have hu_0 := Tryz.underlying71
  have eg := enters_of Tryz.func53 (by kernel_rfl) rfl
  have hbig : l0.length ≤ 9223372036854775807 := hr0.2.1
  have HR := Aside0.mk hr0
  have HF := Aside0.mk h
  clear hr0 h hc0
  go_enter Tryz.func94, Tryz.ntmps94
  go_wp2
  go_loopg [5, 8] l0.length (fun gg _ s8 wr => ∃ kk : Nat, kk ≤ l0.length ∧ l0.length - kk ≤ gg ∧ s8 = .int .i64 kk ∧ Aside0 (Below w.heap.size w wr) ∧ Aside0 (impl_Section.go k (l0.drop kk) kk = some r))
  case atStart => exact ⟨0, Nat.zero_le _, by omega, rfl, ⟨by repeat (first | exact Below.refl _ _ | apply pw_below_drewN | apply below_drew)⟩, HF⟩
  case round =>
    clear HF
    obtain ⟨kk, hkk, hg, rfl, HW, HA⟩ := hrel
    by_cases hlt : kk < l0.length
    · have hltz : (kk : Int) < (l0.length : Int) := by omega
      obtain ⟨ad, A2, c2, eA, hcell, hcell1, hcell2, hcell3, hcell4, hcell5, hl2, hi2⟩ := at_T71 HR.out (kk : Int) (by omega) (by omega)
      have hd : l0.drop kk = rd_T71 l0 kk :: l0.drop (kk + 1) := by
        rw [List.drop_eq_getElem_cons hlt, rd_T71, Int.toNat_natCast, List.getD_eq_getElem?_getD, List.getElem?_eq_getElem hlt]
        rfl
      have HA1 := HA.out
      rw [hd, impl_Section.go] at HA1
      rw [Int.toNat_natCast] at hcell hcell1 hcell2 hcell3 hcell4 hcell5
      replace hcell := pw_cell_below HW.out hcell
      replace hcell1 := pw_cell_below HW.out hcell1
      replace hcell2 := pw_cell_below HW.out hcell2
      replace hcell3 := pw_cell_below HW.out hcell3
      replace hcell4 := pw_cell_below HW.out hcell4
      replace hcell5 := pw_cell_below HW.out hcell5
      have HI2 := Aside0.mk hi2
      have HL2 := Aside0.mk hl2
      generalize rd_T71 l0 kk = y at hcell hcell1 hcell2 hcell3 hcell4 hcell5 HA1 HI2 HL2
      clear hd HA hi2 hl2
      obtain ⟨b, hp, HA2⟩ := Option.bind_eq_some_iff.1 HA1
      have HP := Aside0.mk hp
      clear HA1 hp
      subst eA
      cases b with
      | true =>
        rw [if_pos rfl] at HA2
        have HA3 := Aside0.mk HA2
        clear HA2
        go_wp2_with (go_at_call 53; refine (impl_Section.pred k y A2 c2 true _ ?hr2 HL2.out HP.out).mono ?_; (case hr2 => exact Kd.C_below HI2.out (by repeat (first | exact HW.out | apply below_alloc | apply pw_below_drewN | apply below_drew1))); rintro e w9 ⟨rfl, hb9⟩; have HWn := Aside0.mk (below_step (by repeat (first | exact HW.out | apply below_alloc | apply pw_below_drewN | apply below_drew1)) hb9); clear HW hb9; have HW := HWn; clear HWn)
        go_wp2
        go_roundg (l0.length - (kk + 1))
        case measure => omega
        case rel => exact ⟨kk + 1, by omega, by omega, by go_num, ⟨by repeat (first | exact HW.out | apply below_alloc | apply pw_below_drewN | apply below_drew1)⟩, ⟨by have := HA3.out; rw [show ((kk : Int) + 1) = ((kk + 1 : Nat) : Int) by omega] at this; exact this⟩⟩
      | false =>
        rw [if_neg (by decide)] at HA2
        obtain rfl := Option.some.inj HA2
        clear HA2
        go_wp2_with (go_at_call 53; refine (impl_Section.pred k y A2 c2 false _ ?hr2 HL2.out HP.out).mono ?_; (case hr2 => exact Kd.C_below HI2.out (by repeat (first | exact HW.out | apply below_alloc | apply pw_below_drewN | apply below_drew1))); rintro e w9 ⟨rfl, hb9⟩; have HWn := Aside0.mk (below_step (by repeat (first | exact HW.out | apply below_alloc | apply pw_below_drewN | apply below_drew1)) hb9); clear HW hb9; have HW := HWn; clear HWn)
        go_wp2
        go_ret
        exact ⟨rfl, by repeat (first | exact HW.out | apply below_alloc | apply pw_below_drewN | apply below_drew1)⟩
    · have hltz : ¬ (kk : Int) < (l0.length : Int) := by omega
      have HA1 := HA.out
      rw [List.drop_eq_nil_of_le (by omega), impl_Section.go] at HA1
      obtain rfl := Option.some.inj HA1
      clear HA HA1
      go_wp2
      go_ret
      exact ⟨rfl, by repeat (first | exact HW.out | apply below_alloc | apply pw_below_drewN | apply below_drew1)⟩
set_option maxHeartbeats 4000000 in
theorem impl_Section.calls (k : Nat) (A0 : Option Addr) (c0 : Nat) (l0 : List S71) (a1 : Unit) (r : Bool) (w : World) (hr0 : Kd.C k71 w A0 l0.length l0) (hc0 : l0.length ≤ c0) (h : impl_Section.f k l0 a1 = some r) :
 Calls Tryz.prog 52 #[.slice A0 l0.length c0, .func (.func 53) #[] #[]] w fun e w' => e = .returned (.bool r) ∧ Below w.heap.size w w' := by
 unfold impl_Section.f at h
 obtain ⟨i, hi, h⟩ := Option.bind_eq_some_iff.1 h
 obtain rfl := Option.some.inj h
 have HR := Aside0.mk hr0
 have HF := Aside0.mk hi
 have HC := Aside0.mk hc0
 clear hr0 hi h hc0
 go_enter Tryz.func52, Tryz.ntmps52
 go_wp2_with (go_at_call 94; refine (impl_Section.walk k A0 c0 l0 i _ ?hr HC.out HF.out).mono ?_; (case hr => exact Kd.C_below HR.out (by repeat (first | exact Below.refl _ _ | apply below_alloc | apply pw_below_drewN | apply below_drew))); rintro e w9 ⟨rfl, hb9⟩; have HW := Aside0.mk (below_step (show Below w.heap.size w _ from by repeat (first | exact Below.refl _ _ | apply below_alloc | apply pw_below_drewN | apply below_drew)) hb9); clear hb9)
 go_wp2
 go_ret
 exact ⟨rfl, by repeat (first | exact HW.out | apply below_alloc | apply pw_below_drewN | apply below_drew1)⟩

set_option maxHeartbeats 2000000 in
theorem impl_ENode.pred (k : Nat) (y : (List S124)) (A2 : Option Addr) (c2 : Nat) (b : Bool) (w : World) (hr2 : Kd.C k124 w A2 y.length y) (hc2 : y.length ≤ c2) (h : impl_ExprOk.f k y = some b) :
    Calls Tryz.prog 56 #[.slice A2 y.length c2] w fun e w' => e = .returned (.bool (!b)) ∧ Below w.heap.size w w' := by
  have hu_0 := Tryz.underlying75
  have HR2 := Aside0.mk hr2
  have HC2 := Aside0.mk hc2
  have H := Aside0.mk h
  clear hr2 hc2 h
  go_enter Tryz.func56, Tryz.ntmps56
  go_wp2_with (go_at_call 57; refine (impl_ExprOk.calls k A2 c2 y b _ ?h3 HC2.out H.out).mono ?_; (case h3 => exact Kd.C_below HR2.out (by repeat (first | exact Below.refl _ _ | apply below_alloc | apply pw_below_drewN | apply below_drew))); rintro e w9 ⟨rfl, hb9⟩; have HB := Aside0.mk (below_step (show Below w.heap.size w _ from by repeat (first | exact Below.refl _ _ | apply below_alloc | apply pw_below_drewN | apply below_drew)) hb9); clear hb9)
  first | go_ret | (go_wp2; go_ret)
  exact ⟨rfl, by repeat (first | exact HB.out | apply below_alloc | apply pw_below_drewN | apply below_drew1)⟩
def impl_ENode.go (k : Nat) : List (List S124) → Int → Option Int
  | [], _ => some (-1)
  | y :: r, i => (impl_ExprOk.f k y).bind fun b => if b = true then impl_ENode.go k r (i + 1) else some i
def impl_ENode.f (k : Nat) (l0 : List (List S124)) (_ : Unit) : Option Bool := (impl_ENode.go k l0 0).bind fun i => some (decide (0 ≤ i))
theorem impl_ENode.go_mono (k : Nat) : ∀ (y : List (List S124)) (i : Int), LeO (impl_ENode.go k y i) (impl_ENode.go (k + 1) y i)
  | [], _ => LeO.refl _
  | x :: r, i => LeO.bind (impl_ExprOk.mono _  _) (fun _ => LeO.ite (impl_ENode.go_mono k r (i + 1)) (LeO.refl _))
theorem impl_ENode.mono : ∀ a0 a1 k, LeO (impl_ENode.f k a0 a1) (impl_ENode.f (k + 1) a0 a1) := by
  intro a0 a1 k
  unfold impl_ENode.f
  exact LeO.bind (impl_ENode.go_mono k a0 0) (fun _ => LeO.refl _)
def impl_ENode.rd_ (xs : List (List S124)) (i : Int) : List S124 := xs.getD i.toNat []
theorem impl_ENode.at_ {w : World} {A : Option Addr} {n : Nat} {xs : List (List S124)} (h : Kd.C (Kd.slice 124 k124) w A n xs) (i : Int) (h0 : 0 ≤ i) (h1 : i < n) : ∃ ad A0 c0, A = some ad ∧ w.cell? (ad.add i.toNat) = some (.slice A0 (impl_ENode.rd_ xs i).length c0) ∧ (impl_ENode.rd_ xs i).length ≤ c0 ∧ Kd.C k124 w A0 (impl_ENode.rd_ xs i).length (impl_ENode.rd_ xs i) := by
  obtain ⟨ad, c, e, _, hK, hc0⟩ := Kd.C_get h ([] : List S124) i h0 h1
  have hc : ∀ j u, c[j]? = some u → w.cell? (ad.add (i.toNat * 1 + j)) = some u := hc0
  obtain ⟨A0, c0, rfl, l0, g0⟩ := hK
  exact ⟨ad, A0, c0, e, by have hq := hc 0 _ rfl; rwa [Nat.mul_one, Nat.add_zero] at hq, l0, g0⟩
open Go.Shelf in
set_option maxHeartbeats 4000000 in
set_option maxRecDepth 100000 in
theorem impl_ENode.walk (k : Nat) (A0 : Option Addr) (c0 : Nat) (l0 : List (List S124)) (r : Int) (w : World) (hr0 : Kd.C (Kd.slice 124 k124) w A0 l0.length l0) (hc0 : l0.length ≤ c0) (h : impl_ENode.go k l0 0 = some r) :
    Calls Tryz.prog 100 #[.slice A0 l0.length c0, .func (.func 56) #[] #[]] w fun e w' => e = .returned (.int .i64 r) ∧ Below w.heap.size w w' := by
  have hu_0 := Tryz.underlying75
  have eg := enters_of Tryz.func56 (by kernel_rfl) rfl
  have hbig : l0.length ≤ 9223372036854775807 := hr0.2.1
  have HR := Aside0.mk hr0
  have HF := Aside0.mk h
  clear hr0 h hc0
  go_enter Tryz.func100, Tryz.ntmps100
  go_wp2
  go_loopg [5, 8] l0.length (fun gg _ s8 wr => ∃ kk : Nat, kk ≤ l0.length ∧ l0.length - kk ≤ gg ∧ s8 = .int .i64 kk ∧ Aside0 (Below w.heap.size w wr) ∧ Aside0 (impl_ENode.go k (l0.drop kk) kk = some r))
  case atStart => exact ⟨0, Nat.zero_le _, by omega, rfl, ⟨by repeat (first | exact Below.refl _ _ | apply pw_below_drewN | apply below_drew)⟩, HF⟩
  case round =>
    clear HF
    obtain ⟨kk, hkk, hg, rfl, HW, HA⟩ := hrel
    by_cases hlt : kk < l0.length
    · have hltz : (kk : Int) < (l0.length : Int) := by omega
      obtain ⟨ad, A2, c2, eA, hcell, hl2, hi2⟩ := impl_ENode.at_ HR.out (kk : Int) (by omega) (by omega)
      have hd : l0.drop kk = impl_ENode.rd_ l0 kk :: l0.drop (kk + 1) := by
        rw [List.drop_eq_getElem_cons hlt, impl_ENode.rd_, Int.toNat_natCast, List.getD_eq_getElem?_getD, List.getElem?_eq_getElem hlt]
        rfl
      have HA1 := HA.out
      rw [hd, impl_ENode.go] at HA1
      rw [Int.toNat_natCast] at hcell
      replace hcell := pw_cell_below HW.out hcell
      have HI2 := Aside0.mk hi2
      have HL2 := Aside0.mk hl2
      generalize impl_ENode.rd_ l0 kk = y at hcell HA1 HI2 HL2
      clear hd HA hi2 hl2
      obtain ⟨b, hp, HA2⟩ := Option.bind_eq_some_iff.1 HA1
      have HP := Aside0.mk hp
      clear HA1 hp
      subst eA
      cases b with
      | true =>
        rw [if_pos rfl] at HA2
        have HA3 := Aside0.mk HA2
        clear HA2
        go_wp2_with (go_at_call 56; refine (impl_ENode.pred k y A2 c2 true _ ?hr2 HL2.out HP.out).mono ?_; (case hr2 => exact Kd.C_below HI2.out (by repeat (first | exact HW.out | apply below_alloc | apply pw_below_drewN | apply below_drew1))); rintro e w9 ⟨rfl, hb9⟩; have HWn := Aside0.mk (below_step (by repeat (first | exact HW.out | apply below_alloc | apply pw_below_drewN | apply below_drew1)) hb9); clear HW hb9; have HW := HWn; clear HWn)
        go_wp2
        go_roundg (l0.length - (kk + 1))
        case measure => omega
        case rel => exact ⟨kk + 1, by omega, by omega, by go_num, ⟨by repeat (first | exact HW.out | apply below_alloc | apply pw_below_drewN | apply below_drew1)⟩, ⟨by have := HA3.out; rw [show ((kk : Int) + 1) = ((kk + 1 : Nat) : Int) by omega] at this; exact this⟩⟩
      | false =>
        rw [if_neg (by decide)] at HA2
        obtain rfl := Option.some.inj HA2
        clear HA2
        go_wp2_with (go_at_call 56; refine (impl_ENode.pred k y A2 c2 false _ ?hr2 HL2.out HP.out).mono ?_; (case hr2 => exact Kd.C_below HI2.out (by repeat (first | exact HW.out | apply below_alloc | apply pw_below_drewN | apply below_drew1))); rintro e w9 ⟨rfl, hb9⟩; have HWn := Aside0.mk (below_step (by repeat (first | exact HW.out | apply below_alloc | apply pw_below_drewN | apply below_drew1)) hb9); clear HW hb9; have HW := HWn; clear HWn)
        go_wp2
        go_ret
        exact ⟨rfl, by repeat (first | exact HW.out | apply below_alloc | apply pw_below_drewN | apply below_drew1)⟩
    · have hltz : ¬ (kk : Int) < (l0.length : Int) := by omega
      have HA1 := HA.out
      rw [List.drop_eq_nil_of_le (by omega), impl_ENode.go] at HA1
      obtain rfl := Option.some.inj HA1
      clear HA HA1
      go_wp2
      go_ret
      exact ⟨rfl, by repeat (first | exact HW.out | apply below_alloc | apply pw_below_drewN | apply below_drew1)⟩
set_option maxHeartbeats 4000000 in
theorem impl_ENode.calls (k : Nat) (A0 : Option Addr) (c0 : Nat) (l0 : List (List S124)) (a1 : Unit) (r : Bool) (w : World) (hr0 : Kd.C (Kd.slice 124 k124) w A0 l0.length l0) (hc0 : l0.length ≤ c0) (h : impl_ENode.f k l0 a1 = some r) :
 Calls Tryz.prog 55 #[.slice A0 l0.length c0, .func (.func 56) #[] #[]] w fun e w' => e = .returned (.bool r) ∧ Below w.heap.size w w' := by
 unfold impl_ENode.f at h
 obtain ⟨i, hi, h⟩ := Option.bind_eq_some_iff.1 h
 obtain rfl := Option.some.inj h
 have HR := Aside0.mk hr0
 have HF := Aside0.mk hi
 have HC := Aside0.mk hc0
 clear hr0 hi h hc0
 go_enter Tryz.func55, Tryz.ntmps55
 go_wp2_with (go_at_call 100; refine (impl_ENode.walk k A0 c0 l0 i _ ?hr HC.out HF.out).mono ?_; (case hr => exact Kd.C_below HR.out (by repeat (first | exact Below.refl _ _ | apply below_alloc | apply pw_below_drewN | apply below_drew))); rintro e w9 ⟨rfl, hb9⟩; have HW := Aside0.mk (below_step (show Below w.heap.size w _ from by repeat (first | exact Below.refl _ _ | apply below_alloc | apply pw_below_drewN | apply below_drew)) hb9); clear hb9)
 go_wp2
 go_ret
 exact ⟨rfl, by repeat (first | exact HW.out | apply below_alloc | apply pw_below_drewN | apply below_drew1)⟩

end Go.Proofs.YtlacpadpdfccmaaGreatDoor.PFnExactObjectText
namespace Go.Proofs.YtlacpadpdfccmaaGreatDoor.PFnExactObjectText
open Go.RowKit Go.Proofs.YtlacpadpdfccmaaGreatDoor.Z Go.Proofs.YtlacpadpdfccmaaGreatDoorW.PrintWords Go.Proofs.YtlacpadpdfccmaaGreatDoorW.PrintLast Go.Proofs.YtlacpadpdfccmaaGreatDoorW.PrintMore
attribute [local go_sem] max2_int min2_int max_two min_two max_three min_three max_four min_four   -- for this text's walks alone
set_option linter.unusedVariables false
set_option linter.unusedSimpArgs false

mutual
def impl_ObjectOk.j0 : Nat → Bool → List (S71) → List (S72) → List (List (S124)) → Option (Bool)
  | 0, _, _, _, _ => none
  | k + 1, x20, x333000, x333001, x333002 => if x20 = true then (some false) else (impl_ObjectOk.l0 k x333001 (x333001.length : Int) 0 x333000 x333001 x333002)
def impl_ObjectOk.l0 : Nat → List (S72) → Int → Int → List (S71) → List (S72) → List (List (S124)) → Option (Bool)
  | 0, _, _, _, _, _, _ => none
  | k + 1, x22, x23, x24, x333000, x333001, x333002 => if x24 < x23 then (if 0 ≤ x24 then (if x24 < (x22.length : Int) then ((impl_isSymbol.f k x333000 x333001 x333002 ((rd_T72 x22 x24).f0) ((rd_T72 x22 x24).f1) ((rd_T72 x22 x24).f2) ((rd_T72 x22 x24).f3)).bind fun t335 => (if t335 = true then (if x24 > 0 then (if 0 ≤ (wrap64 (x24 - 1)) then (if (wrap64 (x24 - 1)) < (x333001.length : Int) then (if ((Op.bytesLess (((rd_T72 x333001 (wrap64 (x24 - 1))).f0).toList) (((rd_T72 x22 x24).f0).toList)) = true) then (impl_ObjectOk.l0 k x22 x23 (wrap64 (x24 + 1)) x333000 x333001 x333002) else (some false)) else (none)) else (none)) else (impl_ObjectOk.l0 k x22 x23 (wrap64 (x24 + 1)) x333000 x333001 x333002)) else (some false))) else (none)) else (none)) else ((impl_Section.f k x333000 ()).bind fun t337 => (if t337 = true then (some false) else ((impl_ENode.f k x333002 ()).bind fun t338 => (some (!t338)))))
end
def impl_ObjectOk.f (k : Nat) (l0_0 : List (S71)) (l0_1 : List (S72)) (l0_2 : List (List (S124))) : Option (Bool) := if (l0_0.length : Int) > 12 then (impl_ObjectOk.j0 k true l0_0 l0_1 l0_2) else (if (l0_1.length : Int) > 200 then (impl_ObjectOk.j0 k true l0_0 l0_1 l0_2) else (impl_ObjectOk.j0 k (decide ((l0_2.length : Int) > 12)) l0_0 l0_1 l0_2))
theorem impl_ObjectOk.mono_l : ∀ k, (∀ y0 y1 y2 y3, LeO (impl_ObjectOk.j0 k y0 y1 y2 y3) (impl_ObjectOk.j0 (k + 1) y0 y1 y2 y3)) ∧ (∀ y0 y1 y2 y3 y4 y5, LeO (impl_ObjectOk.l0 k y0 y1 y2 y3 y4 y5) (impl_ObjectOk.l0 (k + 1) y0 y1 y2 y3 y4 y5))
  | 0 => ⟨fun _ _ _ _ r h => by simp [impl_ObjectOk.j0] at h, fun _ _ _ _ _ _ r h => by simp [impl_ObjectOk.l0] at h⟩
  | k + 1 => by
    obtain ⟨ih0, ih1⟩ := impl_ObjectOk.mono_l k
    refine ⟨?_, ?_⟩
    · intro y0 y1 y2 y3
      unfold impl_ObjectOk.j0
      repeat' with_reducible first | exact ih0 _ _ _ _ | exact ih1 _ _ _ _ _ _ | exact impl_ENode.mono _ _ _ | exact impl_Section.mono _ _ _ | exact impl_isSymbol.mono _ _ _ _ _ _ _ _ | exact LeO.refl _ | exact LeO.none _ | refine LeO.ite ?_ ?_ | refine LeO.bind ?_ (fun _ => ?_)
    · intro y0 y1 y2 y3 y4 y5
      unfold impl_ObjectOk.l0
      repeat' with_reducible first | exact ih0 _ _ _ _ | exact ih1 _ _ _ _ _ _ | exact impl_ENode.mono _ _ _ | exact impl_Section.mono _ _ _ | exact impl_isSymbol.mono _ _ _ _ _ _ _ _ | exact LeO.refl _ | exact LeO.none _ | refine LeO.ite ?_ ?_ | refine LeO.bind ?_ (fun _ => ?_)
theorem impl_ObjectOk.mono : ∀ a0 a1 a2 k, LeO (impl_ObjectOk.f k a0 a1 a2) (impl_ObjectOk.f (k + 1) a0 a1 a2) := by
  intro a0 a1 a2 k
  obtain ⟨ih0, ih1⟩ := impl_ObjectOk.mono_l k
  unfold impl_ObjectOk.f
  repeat' with_reducible first | exact ih0 _ _ _ _ | exact ih1 _ _ _ _ _ _ | exact impl_ENode.mono _ _ _ | exact impl_Section.mono _ _ _ | exact impl_isSymbol.mono _ _ _ _ _ _ _ _ | exact LeO.refl _ | exact LeO.none _ | refine LeO.ite ?_ ?_ | refine LeO.bind ?_ (fun _ => ?_)
def impl_ObjectOk.T6 : Bool × List (List Nat × List Nat) := (true, [([], []), ([], []), ([0, 1], [0, 1]), ([2], [2]), ([3, 2], [3]), ([4], [4]), ([5, 4], [4, 5]), ([6, 4, 4], [4, 6]), ([7], [7]), ([8, 7], [7, 8]), ([7], [7]), ([10, 7], [7, 10]), ([7], [7]), ([12, 7], [7, 12]), ([11, 13, 7], [7, 11, 13]), ([14, 7], [7, 14]), ([15, 7], [7, 15]), ([9, 16, 7], [7, 9, 16]), ([7, 17, 4], [4, 7, 17]), ([4, 18], [4, 18])])
def impl_ObjectOk.B6 : List Nat := [0, 0, 3, 7, 15, 31, 63, 127, 255, 511, 255, 1279, 255, 4351, 15615, 31999, 64767, 131071, 262143, 524287]
theorem impl_ObjectOk.tab6 : rtab .any (opsOf Tryz.f22 6) = impl_ObjectOk.T6 := by kernel_rfl
theorem impl_ObjectOk.bits6 : waitsOk impl_ObjectOk.T6.2 impl_ObjectOk.B6 = true := by kernel_rfl
set_option maxHeartbeats 8000000 in
set_option maxRecDepth 100000 in
theorem impl_ObjectOk.calls (k : Nat) (A0_0 : Option Addr) (c0_0 : Nat) (l0_0 : List (S71)) (A0_1 : Option Addr) (c0_1 : Nat) (l0_1 : List (S72)) (A0_2 : Option Addr) (c0_2 : Nat) (l0_2 : List (List (S124))) (r : Bool) (w : World) (hr0_0 : Kd.C k71 w A0_0 l0_0.length l0_0) (hc0_0 : l0_0.length ≤ c0_0) (hr0_1 : Kd.C k72 w A0_1 l0_1.length l0_1) (hc0_1 : l0_1.length ≤ c0_1) (hr0_2 : Kd.C (Kd.slice 124 k124) w A0_2 l0_2.length l0_2) (hc0_2 : l0_2.length ≤ c0_2) (h : impl_ObjectOk.f k l0_0 l0_1 l0_2 = some r) :
 Calls Tryz.prog 22 #[.agg #[.slice A0_0 l0_0.length c0_0, .slice A0_1 l0_1.length c0_1, .slice A0_2 l0_2.length c0_2]] w fun e w' => e = .returned (.bool r) ∧ Below w.heap.size w w' := by
 have hu33 := Tryz.underlying33
 have hu72 := Tryz.underlying72
 have HR0_0 := Aside0.mk hr0_0
 have HC0_0 := Aside0.mk hc0_0
 clear hr0_0 hc0_0
 have HR0_1 := Aside0.mk hr0_1
 have HC0_1 := Aside0.mk hc0_1
 clear hr0_1 hc0_1
 have HR0_2 := Aside0.mk hr0_2
 have HC0_2 := Aside0.mk hc0_2
 clear hr0_2 hc0_2
 have HB := Aside0.mk (Below.refl w.heap.size w)
 have H : (if (l0_0.length : Int) > 12 then (impl_ObjectOk.j0 k true l0_0 l0_1 l0_2) else (if (l0_1.length : Int) > 200 then (impl_ObjectOk.j0 k true l0_0 l0_1 l0_2) else (impl_ObjectOk.j0 k (decide ((l0_2.length : Int) > 12)) l0_0 l0_1 l0_2))) = some r := h
 clear h
 have HC2 := Aside0.mk H
 clear H
 go_enter Tryz.func22, Tryz.ntmps22
 go_upto_region 1 with (first | ((with_reducible refine gate_dst (N := 1) rfl ?_); (try (refine gate_guard (by rfl) ?_; dsimp only)); refine zbx 1 #[.slice A0_0 l0_0.length c0_0, .slice A0_1 l0_1.length c0_1, .slice A0_2 l0_2.length c0_2] 33 ?_; intro gb332 hg w3 hbox hb; have BK332 := Aside0.mk (hbox); have GW332 := zs w hg; have GE332 := GW332; replace HB := zt w hb; clear hb hbox hg))
 (try simp only [Act.put, List.setIfInBounds_toArray, List.set_cons_zero, List.set_cons_succ])
 go_cut [20] (fun v20 wc => ∃ (kq : Nat) (x20_1 : Bool), v20 = .bool x20_1 ∧ Aside0 (impl_ObjectOk.j0 kq x20_1 l0_0 l0_1 l0_2 = some r) ∧ Aside0 (kq ≤ k) ∧ Aside0 (wc.heap[gb332]? = some (.cells #[(.slice A0_0 l0_0.length c0_0), (.slice A0_1 l0_1.length c0_1), (.slice A0_2 l0_2.length c0_2)] 33 (0, 0))) ∧ Aside0 (Below w.heap.size w wc))
 case first =>
  have H := HC2.out
  clear HC2
  by_cases c4 : (l0_0.length : Int) > 12
  ·rw [if_pos c4] at H
   have c4b0 : decide (12 < (l0_0.length : Int)) = true := decide_eq_true c4
   have c4b1 : decide (12 < l0_0.length) = true := decide_eq_true (by omega)
   clear c4
   (first | rw [c4b0] | (simp only [i64_w, i32_w]; rw [c4b0]) | skip)
   have H' := Aside0.mk H
   clear H
   obtain ⟨hcz5_0, hcz5_1, hcz5_2, hfz5_0, hfz5_1, hfz5_2⟩ := zF3 BK332
   go_wp2
   go_meet
   case rel => exact ⟨_, (true), (zE _), H', ⟨by first | omega | exact Nat.le_refl _⟩, ⟨zr BK332⟩, ⟨zb _⟩⟩
  ·rw [if_neg c4] at H
   have c4b0 : decide (12 < (l0_0.length : Int)) = false := decide_eq_false c4
   have c4b1 : decide (12 < l0_0.length) = false := decide_eq_false (by omega)
   clear c4
   (first | rw [c4b0] | (simp only [i64_w, i32_w]; rw [c4b0]) | skip)
   by_cases c6 : (l0_1.length : Int) > 200
   ·rw [if_pos c6] at H
    have c6b0 : decide (200 < (l0_1.length : Int)) = true := decide_eq_true c6
    have c6b1 : decide (200 < l0_1.length) = true := decide_eq_true (by omega)
    clear c6
    have H' := Aside0.mk H
    clear H
    obtain ⟨hcz7_0, hcz7_1, hcz7_2, hfz7_0, hfz7_1, hfz7_2⟩ := zF3 BK332
    go_wp2
    go_meet
    case rel => exact ⟨_, (true), (zE _), H', ⟨by first | omega | exact Nat.le_refl _⟩, ⟨zr BK332⟩, ⟨zb _⟩⟩
   ·rw [if_neg c6] at H
    have c6b0 : decide (200 < (l0_1.length : Int)) = false := decide_eq_false c6
    have c6b1 : decide (200 < l0_1.length) = false := decide_eq_false (by omega)
    clear c6
    have H' := Aside0.mk H
    clear H
    obtain ⟨hcz8_0, hcz8_1, hcz8_2, hfz8_0, hfz8_1, hfz8_2⟩ := zF3 BK332
    go_wp2
    go_meet
    case rel => exact ⟨_, (decide ((l0_2.length : Int) > 12)), (zE _), H', ⟨by first | omega | exact Nat.le_refl _⟩, ⟨zr BK332⟩, ⟨zb _⟩⟩
 case rest =>
  clear HC2
  obtain ⟨kq, x20_1, rfl, HA, HJ1, BK332, HB⟩ := hcut
  cases kq with
  | zero => exact absurd HA.out (by simp [impl_ObjectOk.j0])
  | succ kj1 =>
   have H := HA.out
   clear HA
   simp only [impl_ObjectOk.j0] at H
   by_cases c9 : x20_1 = true
   ·subst c9
    rw [if_pos rfl] at H
    obtain rfl := Option.some.inj H
    go_wp2
    go_ret
    exact ⟨ze _, zb _⟩
   ·replace c9 := Bool.eq_false_iff.mpr c9
    subst c9
    rw [if_neg (show ¬ (false = true) by decide)] at H
    have H' := Aside0.mk H
    clear H
    obtain ⟨hcz10_0, hcz10_1, hcz10_2, hfz10_0, hfz10_1, hfz10_2⟩ := zF3 BK332
    go_wp2
    go_loopg [24] kj1 (fun kq v24 w' => ∃ (x24_2 : Int), v24 = .int .i64 x24_2 ∧ Aside0 (impl_ObjectOk.l0 kq l0_1 (l0_1.length : Int) x24_2 l0_0 l0_1 l0_2 = some r) ∧ Aside0 (kq ≤ kj1) ∧ Aside0 (w'.heap[gb332]? = some (.cells #[(.slice A0_0 l0_0.length c0_0), (.slice A0_1 l0_1.length c0_1), (.slice A0_2 l0_2.length c0_2)] 33 (0, 0))) ∧ Aside0 (Below w.heap.size w w'))
    case atStart => exact ⟨(0), (zE _), H', ⟨Nat.le_refl _⟩, ⟨zr BK332⟩, ⟨zb _⟩⟩
    case round =>
     clear H'
     obtain ⟨x24_2, rfl, HA, HK2, BK332, HB⟩ := hrel
     cases gk with
     | zero => exact absurd HA.out (by simp [impl_ObjectOk.l0])
     | succ k2 =>
      have H := HA.out
      clear HA
      simp only [impl_ObjectOk.l0] at H
      by_cases c11 : x24_2 < (l0_1.length : Int)
      ·rw [if_pos c11] at H
       have c11b0 : decide (x24_2 < (l0_1.length : Int)) = true := decide_eq_true c11
       clear c11
       by_cases c12 : 0 ≤ x24_2
       ·rw [if_pos c12] at H
        have c12b0 : decide (0 ≤ x24_2) = true := decide_eq_true c12
        clear c12
        by_cases c13 : x24_2 < (l0_1.length : Int)
        ·rw [if_pos c13] at H
         have c13b0 : decide (x24_2 < (l0_1.length : Int)) = true := decide_eq_true c13
         clear c13
         obtain ⟨t335, A140, H⟩ := Option.bind_eq_some_iff.mp H
         have A14 := Aside0.mk A140
         clear A140
         by_cases c15 : t335 = true
         ·subst c15
          rw [if_pos rfl] at H
          by_cases c16 : x24_2 > 0
          ·rw [if_pos c16] at H
           have c16b0 : decide (0 < x24_2) = true := decide_eq_true c16
           clear c16
           obtain ⟨ji17, hji17⟩ : ∃ j_ : Int, (wrap64 (x24_2 - 1)) = j_ := ⟨_, rfl⟩
           replace H : (if 0 ≤ (ji17) then (if (ji17) < (l0_1.length : Int) then (if ((Op.bytesLess (((rd_T72 l0_1 (ji17)).f0).toList) (((rd_T72 l0_1 x24_2).f0).toList)) = true) then (impl_ObjectOk.l0 k2 l0_1 (l0_1.length : Int) (wrap64 (x24_2 + 1)) l0_0 l0_1 l0_2) else (some false)) else (none)) else (none)) = some r := by first | (rw [hji17] at H; exact H) | (simp only [hji17] at H ⊢; exact H)
           (try rw [hji17] at A14)
           have hji17w : (IntKind.i64.wrap (x24_2 - 1)) = ji17 := (i64_w _).trans hji17
           by_cases c18 : 0 ≤ (ji17)
           ·rw [if_pos c18] at H
            have c18b0 : decide (0 ≤ (ji17)) = true := decide_eq_true c18
            clear c18
            by_cases c19 : (ji17) < (l0_1.length : Int)
            ·rw [if_pos c19] at H
             have c19b0 : decide ((ji17) < (l0_1.length : Int)) = true := decide_eq_true c19
             clear c19
             by_cases c20 : ((Op.bytesLess (((rd_T72 l0_1 (ji17)).f0).toList) (((rd_T72 l0_1 x24_2).f0).toList)) = true)
             ·rw [if_pos c20] at H
              have c20b0 : (Op.bytesLess (((rd_T72 l0_1 (ji17)).f0).toList) (((rd_T72 l0_1 x24_2).f0).toList)) = true := c20
              have hleq_ : ∀ W_ : World, (binOp BinOp.leq 9 (.string ((rd_T72 l0_1 x24_2).f0)) (.string ((rd_T72 l0_1 (ji17)).f0))).run Tryz.prog W_ = .ok (.bool (!true)) W_ := fun W_ => by rw [impl_isSymbol.leqS, c20b0]
              clear c20
              have H' := Aside0.mk H
              clear H
              have p333 : 0 ≤ (x24_2 : Int) := of_decide_eq_true (za _)
              have q333 : x24_2 < (l0_1.length : Int) := of_decide_eq_true (za _)
              obtain ⟨ad333, e333, hx333_0, hx333_1, hx333_2, hx333_3⟩ := at_T72 HR0_1.out x24_2 p333 q333
              cases e333
              replace hx333_0 := zx HB hx333_0
              replace hx333_1 := zx HB hx333_1
              replace hx333_2 := zx HB hx333_2
              replace hx333_3 := zx HB hx333_3
              replace p333 := eq_true p333
              replace q333 := eq_true q333
              try go_wp2_with (first | ((with_reducible refine gate_dst (N := 4) rfl ?_); (try (refine gate_guard (by rfl) ?_; dsimp only)); refine zbx 4 #[.string (⟨#[]⟩ : ByteArray), .int .i64 0, .int .i64 0, .bool false] 72 ?_; intro gb334 hg w21 hbox hb; have BK334 := Aside0.mk (hbox); have GW334 := zs w hg; have GE334 := GW334; have NB332_334 := zlt BK332 hg; have NB334_332 := zgt (zlt BK332 hg); replace BK332 := zk BK332 hb; replace HB := zt w hb; clear hb hbox hg; have hnb22 := NB334_332.out; have hnc22 := NB332_334.out; have hcz23_0 := zc0 BK334; have hcz23_1 := zc1 BK334; have hcz23_2 := zc2 BK334; have hcz23_3 := zc3 BK334; have hfz23_0 := blk_frozen BK334.out 0; have hfz23_1 := blk_frozen BK334.out 1; have hfz23_2 := blk_frozen BK334.out 2; have hfz23_3 := blk_frozen BK334.out 3))
              have n0_ : Aside0 (((((w21.setCell ⟨gb334, 0, none⟩ (.string ((rd_T72 l0_1 x24_2).f0))).setCell ⟨gb334, 1, none⟩ (.int .i64 ((rd_T72 l0_1 x24_2).f1))).setCell ⟨gb334, 2, none⟩ (.int .i64 ((rd_T72 l0_1 x24_2).f2))).setCell ⟨gb334, 3, none⟩ (.bool ((rd_T72 l0_1 x24_2).f3))).heap[gb332]? = some (.cells #[.slice A0_0 l0_0.length c0_0, .slice (some ad333) l0_1.length c0_1, .slice A0_2 l0_2.length c0_2] 33 (0, 0))) := ⟨zw _⟩
              have n1_ : Aside0 (((((w21.setCell ⟨gb334, 0, none⟩ (.string ((rd_T72 l0_1 x24_2).f0))).setCell ⟨gb334, 1, none⟩ (.int .i64 ((rd_T72 l0_1 x24_2).f1))).setCell ⟨gb334, 2, none⟩ (.int .i64 ((rd_T72 l0_1 x24_2).f2))).setCell ⟨gb334, 3, none⟩ (.bool ((rd_T72 l0_1 x24_2).f3))).heap[gb334]? = some (.cells #[.string ((rd_T72 l0_1 x24_2).f0), .int .i64 ((rd_T72 l0_1 x24_2).f1), .int .i64 ((rd_T72 l0_1 x24_2).f2), .bool ((rd_T72 l0_1 x24_2).f3)] 72 (0, 0))) := ⟨by (with_reducible repeat (first | refine blk_drewN ?_ _ | refine blk_drew ?_ | refine blk_alloc ?_ _)); refine blk_put (cs := #[.string ((rd_T72 l0_1 x24_2).f0), .int .i64 ((rd_T72 l0_1 x24_2).f1), .int .i64 ((rd_T72 l0_1 x24_2).f2), .bool false]) ?_ 3 _ rfl; (with_reducible repeat (first | refine blk_drewN ?_ _ | refine blk_drew ?_ | refine blk_alloc ?_ _)); refine blk_put (cs := #[.string ((rd_T72 l0_1 x24_2).f0), .int .i64 ((rd_T72 l0_1 x24_2).f1), .int .i64 0, .bool false]) ?_ 2 _ rfl; (with_reducible repeat (first | refine blk_drewN ?_ _ | refine blk_drew ?_ | refine blk_alloc ?_ _)); refine blk_put (cs := #[.string ((rd_T72 l0_1 x24_2).f0), .int .i64 0, .int .i64 0, .bool false]) ?_ 1 _ rfl; (with_reducible repeat (first | refine blk_drewN ?_ _ | refine blk_drew ?_ | refine blk_alloc ?_ _)); refine blk_put (cs := #[.string (⟨#[]⟩ : ByteArray), .int .i64 0, .int .i64 0, .bool false]) ?_ 0 _ rfl; (with_reducible repeat (first | refine blk_drewN ?_ _ | refine blk_drew ?_ | refine blk_alloc ?_ _)); exact BK334.out⟩
              have n2_ : Aside0 (Below w.heap.size w ((((w21.setCell ⟨gb334, 0, none⟩ (.string ((rd_T72 l0_1 x24_2).f0))).setCell ⟨gb334, 1, none⟩ (.int .i64 ((rd_T72 l0_1 x24_2).f1))).setCell ⟨gb334, 2, none⟩ (.int .i64 ((rd_T72 l0_1 x24_2).f2))).setCell ⟨gb334, 3, none⟩ (.bool ((rd_T72 l0_1 x24_2).f3)))) := ⟨zb _⟩
              (try clear BK332)
              (try clear BK334)
              (try clear HB)
              generalize ((((w21.setCell ⟨gb334, 0, none⟩ (.string ((rd_T72 l0_1 x24_2).f0))).setCell ⟨gb334, 1, none⟩ (.int .i64 ((rd_T72 l0_1 x24_2).f1))).setCell ⟨gb334, 2, none⟩ (.int .i64 ((rd_T72 l0_1 x24_2).f2))).setCell ⟨gb334, 3, none⟩ (.bool ((rd_T72 l0_1 x24_2).f3))) = w24 at n0_ n1_ n2_ ⊢
              have BK332 := n0_
              have BK334 := n1_
              have HB := n2_
              clear n0_ n1_ n2_
              have n0_ := Aside0.mk (blk_drew BK332.out)
              have n1_ := Aside0.mk (blk_drew BK334.out)
              have n2_ := Aside0.mk (below_drew1 HB.out)
              clear BK332
              clear BK334
              clear HB
              have BK332 := n0_
              have BK334 := n1_
              have HB := n2_
              clear n0_ n1_ n2_
              have p336 : 0 ≤ ((ji17) : Int) := of_decide_eq_true (za _)
              have q336 : (ji17) < (l0_1.length : Int) := of_decide_eq_true (za _)
              obtain ⟨ad336, e336, hx336_0, hx336_1, hx336_2, hx336_3⟩ := at_T72 HR0_1.out (ji17) p336 q336
              have hw336_3 := hx336_3
              have hw336_2 := hx336_2
              have hw336_1 := hx336_1
              have hw336_0 := hx336_0
              obtain rfl : ad333 = ad336 := (by injection e336)
              replace hx336_0 := zx HB hx336_0
              replace hx336_1 := zx HB hx336_1
              replace hx336_2 := zx HB hx336_2
              replace hx336_3 := zx HB hx336_3
              replace p336 := eq_true p336
              replace q336 := eq_true q336
              refine start_ (n := 20) (S := fun w' => w'.cell? ⟨gb332, 0, none⟩ = some (.slice A0_0 l0_0.length c0_0) ∧ w'.cell? ⟨gb332, 1, none⟩ = some (.slice (some ad333) l0_1.length c0_1) ∧ w'.cell? ⟨gb332, 2, none⟩ = some (.slice A0_2 l0_2.length c0_2) ∧ w'.cell? ⟨gb334, 0, none⟩ = some (.string ((rd_T72 l0_1 x24_2).f0)) ∧ w'.cell? ⟨gb334, 1, none⟩ = some (.int .i64 ((rd_T72 l0_1 x24_2).f1)) ∧ w'.cell? ⟨gb334, 2, none⟩ = some (.int .i64 ((rd_T72 l0_1 x24_2).f2)) ∧ w'.cell? ⟨gb334, 3, none⟩ = some (.bool ((rd_T72 l0_1 x24_2).f3)) ∧ w'.cell? (ad333.add (((ji17)).toNat * 4)) = some (.string ((rd_T72 l0_1 (ji17)).f0)) ∧ w'.cell? ⟨(ad333.add (((ji17)).toNat * 4)).block, (ad333.add (((ji17)).toNat * 4)).off + 1, none⟩ = some (.int .i64 ((rd_T72 l0_1 (ji17)).f1)) ∧ w'.cell? ⟨(ad333.add (((ji17)).toNat * 4)).block, (ad333.add (((ji17)).toNat * 4)).off + 2, none⟩ = some (.int .i64 ((rd_T72 l0_1 (ji17)).f2)) ∧ w'.cell? ⟨(ad333.add (((ji17)).toNat * 4)).block, (ad333.add (((ji17)).toNat * 4)).off + 3, none⟩ = some (.bool ((rd_T72 l0_1 (ji17)).f3))) (ds := []) (zm 20 0) (by kernel_rfl) rfl rfl ⟨zc0 BK332, zc1 BK332, zc2 BK332, zc0 BK334, zc1 BK334, zc2 BK334, zc3 BK334, (zx HB hw336_0), (zx HB hw336_1), (zx HB hw336_2), (zx HB hw336_3)⟩ (fun hHeld => ?_); refine with_tabW impl_ObjectOk.tab6 impl_ObjectOk.bits6 (fun HT_ HW_ => ?_)
              generalize w24.drew = w25 at BK332 BK334 HB hx336_0 hx336_1 hx336_2 hx336_3 hHeld ⊢
              refine zy 0 29 (zm 20 1) hHeld ?_
              refine zy 1 30 (zm 20 3) hHeld ?_
              refine one_ (i := 2) (N := some 31) (zm 20 7) rfl rfl (one_of HT_.out (by kernel_rfl)) (by decide) (fun K hK => ?_)
              refine zi Tryz.func51 #[.agg #[.slice A0_0 l0_0.length c0_0, .slice (some ad333) l0_1.length c0_1, .slice A0_2 l0_2.length c0_2], .agg #[.string ((rd_T72 l0_1 x24_2).f0), .int .i64 ((rd_T72 l0_1 x24_2).f1), .int .i64 ((rd_T72 l0_1 x24_2).f2), .bool ((rd_T72 l0_1 x24_2).f3)]] ?_
              with_reducible refine (impl_isSymbol.calls k2 _ _ l0_0 _ _ l0_1 _ _ l0_2 ((rd_T72 l0_1 x24_2).f0) ((rd_T72 l0_1 x24_2).f1) ((rd_T72 l0_1 x24_2).f2) ((rd_T72 l0_1 x24_2).f3) true _ ?side1 ?side2 ?side3 ?side4 ?side5 ?side6 A14.out).mono ?_
              (case side1 => repeat (first | exact (Kd.C_below HR0_0.out HB.out) | (with_reducible refine Kd.C_alloc ?_ _) | (with_reducible refine Kd.C_drewN ?_ _) | (with_reducible refine Kd.C_drew ?_)))
              (case side2 => exact HC0_0.out)
              (case side3 => repeat (first | exact (Kd.C_below HR0_1.out HB.out) | (with_reducible refine Kd.C_alloc ?_ _) | (with_reducible refine Kd.C_drewN ?_ _) | (with_reducible refine Kd.C_drew ?_)))
              (case side4 => exact HC0_1.out)
              (case side5 => repeat (first | exact (Kd.C_below HR0_2.out HB.out) | (with_reducible refine Kd.C_alloc ?_ _) | (with_reducible refine Kd.C_drewN ?_ _) | (with_reducible refine Kd.C_drew ?_)))
              (case side6 => exact HC0_2.out)
              rintro e w26 ⟨rfl, hb⟩
              refine ⟨_, rfl, ?_⟩
              have n0_ := zk BK332 hb
              have n1_ := zk BK334 hb
              have n2_ := zt w hb
              clear BK332
              clear BK334
              clear HB
              have BK332 := n0_
              have BK334 := n1_
              have HB := n2_
              clear n0_ n1_ n2_
              (try clear hb)
              (try clear hb2)
              (try clear hk)
              (try clear hi)
              refine hK.out _ _ ⟨zc0 BK332, zc1 BK332, zc2 BK332, zc0 BK334, zc1 BK334, zc2 BK334, zc3 BK334, (zx HB hw336_0), (zx HB hw336_1), (zx HB hw336_2), (zx HB hw336_3)⟩ (fun hHeld => ?_)
              clear hK K
              refine zq ?_
              refine zp 3 32 (zm 20 15) ?_
              refine zp 4 33 (zm 20 31) ?_
              refine zp 5 34 (zm 20 63) ?_
              refine zp 6 35 (zm 20 127) ?_
              refine zp 7 36 (zm 20 255) ?_
              refine zp 8 37 (zm 20 511) ?_
              refine zp 10 39 (zm 20 1535) ?_
              refine zp 12 41 (zm 20 5631) ?_
              refine zp 13 42 (zm 20 13823) ?_
              refine zy 9 38 (zm 20 14335) hHeld ?_
              refine zy 11 40 (zm 20 16383) hHeld ?_
              refine zp 14 43 (zm 20 32767) ?_
              refine zp 15 44 (zm 20 65535) ?_
              refine zy 16 45 (zm 20 131071) hHeld ?_
              refine zp 17 46 (zm 20 262143) ?_
              refine zp 18 47 (zm 20 524287) ?_
              refine zp 19 48 (zm 20 1048575) ?_
              refine done_ (done_of HT_.out (by kernel_rfl)) ?_
              try go_wp2
              go_roundg k2
              case measure => have := HJ1.out; have := HK2.out; omega
              case rel => exact ⟨(wrap64 (x24_2 + 1)), (zE _), H', ⟨by have := HJ1.out; have := HK2.out; omega⟩, ⟨zr BK332⟩, ⟨zb _⟩⟩
             ·rw [if_neg c20] at H
              have c20b0 : (Op.bytesLess (((rd_T72 l0_1 (ji17)).f0).toList) (((rd_T72 l0_1 x24_2).f0).toList)) = false := by simpa using c20
              have hleq_ : ∀ W_ : World, (binOp BinOp.leq 9 (.string ((rd_T72 l0_1 x24_2).f0)) (.string ((rd_T72 l0_1 (ji17)).f0))).run Tryz.prog W_ = .ok (.bool (!false)) W_ := fun W_ => by rw [impl_isSymbol.leqS, c20b0]
              clear c20
              obtain rfl := Option.some.inj H
              have p333 : 0 ≤ (x24_2 : Int) := of_decide_eq_true (za _)
              have q333 : x24_2 < (l0_1.length : Int) := of_decide_eq_true (za _)
              obtain ⟨ad333, e333, hx333_0, hx333_1, hx333_2, hx333_3⟩ := at_T72 HR0_1.out x24_2 p333 q333
              cases e333
              replace hx333_0 := zx HB hx333_0
              replace hx333_1 := zx HB hx333_1
              replace hx333_2 := zx HB hx333_2
              replace hx333_3 := zx HB hx333_3
              replace p333 := eq_true p333
              replace q333 := eq_true q333
              try go_wp2_with (first | ((with_reducible refine gate_dst (N := 4) rfl ?_); (try (refine gate_guard (by rfl) ?_; dsimp only)); refine zbx 4 #[.string (⟨#[]⟩ : ByteArray), .int .i64 0, .int .i64 0, .bool false] 72 ?_; intro gb334 hg w27 hbox hb; have BK334 := Aside0.mk (hbox); have GW334 := zs w hg; have GE334 := GW334; have NB332_334 := zlt BK332 hg; have NB334_332 := zgt (zlt BK332 hg); replace BK332 := zk BK332 hb; replace HB := zt w hb; clear hb hbox hg; have hnb28 := NB334_332.out; have hnc28 := NB332_334.out; have hcz29_0 := zc0 BK334; have hcz29_1 := zc1 BK334; have hcz29_2 := zc2 BK334; have hcz29_3 := zc3 BK334; have hfz29_0 := blk_frozen BK334.out 0; have hfz29_1 := blk_frozen BK334.out 1; have hfz29_2 := blk_frozen BK334.out 2; have hfz29_3 := blk_frozen BK334.out 3))
              have n0_ : Aside0 (((((w27.setCell ⟨gb334, 0, none⟩ (.string ((rd_T72 l0_1 x24_2).f0))).setCell ⟨gb334, 1, none⟩ (.int .i64 ((rd_T72 l0_1 x24_2).f1))).setCell ⟨gb334, 2, none⟩ (.int .i64 ((rd_T72 l0_1 x24_2).f2))).setCell ⟨gb334, 3, none⟩ (.bool ((rd_T72 l0_1 x24_2).f3))).heap[gb332]? = some (.cells #[.slice A0_0 l0_0.length c0_0, .slice (some ad333) l0_1.length c0_1, .slice A0_2 l0_2.length c0_2] 33 (0, 0))) := ⟨zw _⟩
              have n1_ : Aside0 (((((w27.setCell ⟨gb334, 0, none⟩ (.string ((rd_T72 l0_1 x24_2).f0))).setCell ⟨gb334, 1, none⟩ (.int .i64 ((rd_T72 l0_1 x24_2).f1))).setCell ⟨gb334, 2, none⟩ (.int .i64 ((rd_T72 l0_1 x24_2).f2))).setCell ⟨gb334, 3, none⟩ (.bool ((rd_T72 l0_1 x24_2).f3))).heap[gb334]? = some (.cells #[.string ((rd_T72 l0_1 x24_2).f0), .int .i64 ((rd_T72 l0_1 x24_2).f1), .int .i64 ((rd_T72 l0_1 x24_2).f2), .bool ((rd_T72 l0_1 x24_2).f3)] 72 (0, 0))) := ⟨by (with_reducible repeat (first | refine blk_drewN ?_ _ | refine blk_drew ?_ | refine blk_alloc ?_ _)); refine blk_put (cs := #[.string ((rd_T72 l0_1 x24_2).f0), .int .i64 ((rd_T72 l0_1 x24_2).f1), .int .i64 ((rd_T72 l0_1 x24_2).f2), .bool false]) ?_ 3 _ rfl; (with_reducible repeat (first | refine blk_drewN ?_ _ | refine blk_drew ?_ | refine blk_alloc ?_ _)); refine blk_put (cs := #[.string ((rd_T72 l0_1 x24_2).f0), .int .i64 ((rd_T72 l0_1 x24_2).f1), .int .i64 0, .bool false]) ?_ 2 _ rfl; (with_reducible repeat (first | refine blk_drewN ?_ _ | refine blk_drew ?_ | refine blk_alloc ?_ _)); refine blk_put (cs := #[.string ((rd_T72 l0_1 x24_2).f0), .int .i64 0, .int .i64 0, .bool false]) ?_ 1 _ rfl; (with_reducible repeat (first | refine blk_drewN ?_ _ | refine blk_drew ?_ | refine blk_alloc ?_ _)); refine blk_put (cs := #[.string (⟨#[]⟩ : ByteArray), .int .i64 0, .int .i64 0, .bool false]) ?_ 0 _ rfl; (with_reducible repeat (first | refine blk_drewN ?_ _ | refine blk_drew ?_ | refine blk_alloc ?_ _)); exact BK334.out⟩
              have n2_ : Aside0 (Below w.heap.size w ((((w27.setCell ⟨gb334, 0, none⟩ (.string ((rd_T72 l0_1 x24_2).f0))).setCell ⟨gb334, 1, none⟩ (.int .i64 ((rd_T72 l0_1 x24_2).f1))).setCell ⟨gb334, 2, none⟩ (.int .i64 ((rd_T72 l0_1 x24_2).f2))).setCell ⟨gb334, 3, none⟩ (.bool ((rd_T72 l0_1 x24_2).f3)))) := ⟨zb _⟩
              (try clear BK332)
              (try clear BK334)
              (try clear HB)
              generalize ((((w27.setCell ⟨gb334, 0, none⟩ (.string ((rd_T72 l0_1 x24_2).f0))).setCell ⟨gb334, 1, none⟩ (.int .i64 ((rd_T72 l0_1 x24_2).f1))).setCell ⟨gb334, 2, none⟩ (.int .i64 ((rd_T72 l0_1 x24_2).f2))).setCell ⟨gb334, 3, none⟩ (.bool ((rd_T72 l0_1 x24_2).f3))) = w30 at n0_ n1_ n2_ ⊢
              have BK332 := n0_
              have BK334 := n1_
              have HB := n2_
              clear n0_ n1_ n2_
              have n0_ := Aside0.mk (blk_drew BK332.out)
              have n1_ := Aside0.mk (blk_drew BK334.out)
              have n2_ := Aside0.mk (below_drew1 HB.out)
              clear BK332
              clear BK334
              clear HB
              have BK332 := n0_
              have BK334 := n1_
              have HB := n2_
              clear n0_ n1_ n2_
              have p336 : 0 ≤ ((ji17) : Int) := of_decide_eq_true (za _)
              have q336 : (ji17) < (l0_1.length : Int) := of_decide_eq_true (za _)
              obtain ⟨ad336, e336, hx336_0, hx336_1, hx336_2, hx336_3⟩ := at_T72 HR0_1.out (ji17) p336 q336
              have hw336_3 := hx336_3
              have hw336_2 := hx336_2
              have hw336_1 := hx336_1
              have hw336_0 := hx336_0
              obtain rfl : ad333 = ad336 := (by injection e336)
              replace hx336_0 := zx HB hx336_0
              replace hx336_1 := zx HB hx336_1
              replace hx336_2 := zx HB hx336_2
              replace hx336_3 := zx HB hx336_3
              replace p336 := eq_true p336
              replace q336 := eq_true q336
              refine start_ (n := 20) (S := fun w' => w'.cell? ⟨gb332, 0, none⟩ = some (.slice A0_0 l0_0.length c0_0) ∧ w'.cell? ⟨gb332, 1, none⟩ = some (.slice (some ad333) l0_1.length c0_1) ∧ w'.cell? ⟨gb332, 2, none⟩ = some (.slice A0_2 l0_2.length c0_2) ∧ w'.cell? ⟨gb334, 0, none⟩ = some (.string ((rd_T72 l0_1 x24_2).f0)) ∧ w'.cell? ⟨gb334, 1, none⟩ = some (.int .i64 ((rd_T72 l0_1 x24_2).f1)) ∧ w'.cell? ⟨gb334, 2, none⟩ = some (.int .i64 ((rd_T72 l0_1 x24_2).f2)) ∧ w'.cell? ⟨gb334, 3, none⟩ = some (.bool ((rd_T72 l0_1 x24_2).f3)) ∧ w'.cell? (ad333.add (((ji17)).toNat * 4)) = some (.string ((rd_T72 l0_1 (ji17)).f0)) ∧ w'.cell? ⟨(ad333.add (((ji17)).toNat * 4)).block, (ad333.add (((ji17)).toNat * 4)).off + 1, none⟩ = some (.int .i64 ((rd_T72 l0_1 (ji17)).f1)) ∧ w'.cell? ⟨(ad333.add (((ji17)).toNat * 4)).block, (ad333.add (((ji17)).toNat * 4)).off + 2, none⟩ = some (.int .i64 ((rd_T72 l0_1 (ji17)).f2)) ∧ w'.cell? ⟨(ad333.add (((ji17)).toNat * 4)).block, (ad333.add (((ji17)).toNat * 4)).off + 3, none⟩ = some (.bool ((rd_T72 l0_1 (ji17)).f3))) (ds := []) (zm 20 0) (by kernel_rfl) rfl rfl ⟨zc0 BK332, zc1 BK332, zc2 BK332, zc0 BK334, zc1 BK334, zc2 BK334, zc3 BK334, (zx HB hw336_0), (zx HB hw336_1), (zx HB hw336_2), (zx HB hw336_3)⟩ (fun hHeld => ?_); refine with_tabW impl_ObjectOk.tab6 impl_ObjectOk.bits6 (fun HT_ HW_ => ?_)
              generalize w30.drew = w31 at BK332 BK334 HB hx336_0 hx336_1 hx336_2 hx336_3 hHeld ⊢
              refine zy 0 29 (zm 20 1) hHeld ?_
              refine zy 1 30 (zm 20 3) hHeld ?_
              refine one_ (i := 2) (N := some 31) (zm 20 7) rfl rfl (one_of HT_.out (by kernel_rfl)) (by decide) (fun K hK => ?_)
              refine zi Tryz.func51 #[.agg #[.slice A0_0 l0_0.length c0_0, .slice (some ad333) l0_1.length c0_1, .slice A0_2 l0_2.length c0_2], .agg #[.string ((rd_T72 l0_1 x24_2).f0), .int .i64 ((rd_T72 l0_1 x24_2).f1), .int .i64 ((rd_T72 l0_1 x24_2).f2), .bool ((rd_T72 l0_1 x24_2).f3)]] ?_
              with_reducible refine (impl_isSymbol.calls k2 _ _ l0_0 _ _ l0_1 _ _ l0_2 ((rd_T72 l0_1 x24_2).f0) ((rd_T72 l0_1 x24_2).f1) ((rd_T72 l0_1 x24_2).f2) ((rd_T72 l0_1 x24_2).f3) true _ ?side1 ?side2 ?side3 ?side4 ?side5 ?side6 A14.out).mono ?_
              (case side1 => repeat (first | exact (Kd.C_below HR0_0.out HB.out) | (with_reducible refine Kd.C_alloc ?_ _) | (with_reducible refine Kd.C_drewN ?_ _) | (with_reducible refine Kd.C_drew ?_)))
              (case side2 => exact HC0_0.out)
              (case side3 => repeat (first | exact (Kd.C_below HR0_1.out HB.out) | (with_reducible refine Kd.C_alloc ?_ _) | (with_reducible refine Kd.C_drewN ?_ _) | (with_reducible refine Kd.C_drew ?_)))
              (case side4 => exact HC0_1.out)
              (case side5 => repeat (first | exact (Kd.C_below HR0_2.out HB.out) | (with_reducible refine Kd.C_alloc ?_ _) | (with_reducible refine Kd.C_drewN ?_ _) | (with_reducible refine Kd.C_drew ?_)))
              (case side6 => exact HC0_2.out)
              rintro e w32 ⟨rfl, hb⟩
              refine ⟨_, rfl, ?_⟩
              have n0_ := zk BK332 hb
              have n1_ := zk BK334 hb
              have n2_ := zt w hb
              clear BK332
              clear BK334
              clear HB
              have BK332 := n0_
              have BK334 := n1_
              have HB := n2_
              clear n0_ n1_ n2_
              (try clear hb)
              (try clear hb2)
              (try clear hk)
              (try clear hi)
              refine hK.out _ _ ⟨zc0 BK332, zc1 BK332, zc2 BK332, zc0 BK334, zc1 BK334, zc2 BK334, zc3 BK334, (zx HB hw336_0), (zx HB hw336_1), (zx HB hw336_2), (zx HB hw336_3)⟩ (fun hHeld => ?_)
              clear hK K
              refine zq ?_
              refine zp 3 32 (zm 20 15) ?_
              refine zp 4 33 (zm 20 31) ?_
              refine zp 5 34 (zm 20 63) ?_
              refine zp 6 35 (zm 20 127) ?_
              refine zp 7 36 (zm 20 255) ?_
              refine zp 8 37 (zm 20 511) ?_
              refine zp 10 39 (zm 20 1535) ?_
              refine zp 12 41 (zm 20 5631) ?_
              refine zp 13 42 (zm 20 13823) ?_
              refine zy 9 38 (zm 20 14335) hHeld ?_
              refine zy 11 40 (zm 20 16383) hHeld ?_
              refine zp 14 43 (zm 20 32767) ?_
              refine zp 15 44 (zm 20 65535) ?_
              refine zy 16 45 (zm 20 131071) hHeld ?_
              refine zp 17 46 (zm 20 262143) ?_
              refine zp 18 47 (zm 20 524287) ?_
              refine zp 19 48 (zm 20 1048575) ?_
              refine done_ (done_of HT_.out (by kernel_rfl)) ?_
              try go_wp2
              go_ret
              exact ⟨by first | rfl | (simp [errW_none, errW_some] <;> rfl) | (simp only [← hji17]; first | rfl | (simp [errW_none, errW_some] <;> rfl)) | (simp [*, errW_none, errW_some] <;> rfl), zb _⟩
            ·rw [if_neg c19] at H
             exact absurd H (by simp)
           ·rw [if_neg c18] at H
            exact absurd H (by simp)
          ·rw [if_neg c16] at H
           have c16b0 : decide (0 < x24_2) = false := decide_eq_false c16
           clear c16
           have H' := Aside0.mk H
           clear H
           have p333 : 0 ≤ (x24_2 : Int) := of_decide_eq_true (za _)
           have q333 : x24_2 < (l0_1.length : Int) := of_decide_eq_true (za _)
           obtain ⟨ad333, e333, hx333_0, hx333_1, hx333_2, hx333_3⟩ := at_T72 HR0_1.out x24_2 p333 q333
           cases e333
           replace hx333_0 := zx HB hx333_0
           replace hx333_1 := zx HB hx333_1
           replace hx333_2 := zx HB hx333_2
           replace hx333_3 := zx HB hx333_3
           replace p333 := eq_true p333
           replace q333 := eq_true q333
           try go_wp2_with (first | ((with_reducible refine gate_dst (N := 4) rfl ?_); (try (refine gate_guard (by rfl) ?_; dsimp only)); refine zbx 4 #[.string (⟨#[]⟩ : ByteArray), .int .i64 0, .int .i64 0, .bool false] 72 ?_; intro gb334 hg w33 hbox hb; have BK334 := Aside0.mk (hbox); have GW334 := zs w hg; have GE334 := GW334; have NB332_334 := zlt BK332 hg; have NB334_332 := zgt (zlt BK332 hg); replace BK332 := zk BK332 hb; replace HB := zt w hb; clear hb hbox hg; have hnb34 := NB334_332.out; have hnc34 := NB332_334.out; have hcz35_0 := zc0 BK334; have hcz35_1 := zc1 BK334; have hcz35_2 := zc2 BK334; have hcz35_3 := zc3 BK334; have hfz35_0 := blk_frozen BK334.out 0; have hfz35_1 := blk_frozen BK334.out 1; have hfz35_2 := blk_frozen BK334.out 2; have hfz35_3 := blk_frozen BK334.out 3))
           have n0_ : Aside0 (((((w33.setCell ⟨gb334, 0, none⟩ (.string ((rd_T72 l0_1 x24_2).f0))).setCell ⟨gb334, 1, none⟩ (.int .i64 ((rd_T72 l0_1 x24_2).f1))).setCell ⟨gb334, 2, none⟩ (.int .i64 ((rd_T72 l0_1 x24_2).f2))).setCell ⟨gb334, 3, none⟩ (.bool ((rd_T72 l0_1 x24_2).f3))).heap[gb332]? = some (.cells #[.slice A0_0 l0_0.length c0_0, .slice (some ad333) l0_1.length c0_1, .slice A0_2 l0_2.length c0_2] 33 (0, 0))) := ⟨zw _⟩
           have n1_ : Aside0 (((((w33.setCell ⟨gb334, 0, none⟩ (.string ((rd_T72 l0_1 x24_2).f0))).setCell ⟨gb334, 1, none⟩ (.int .i64 ((rd_T72 l0_1 x24_2).f1))).setCell ⟨gb334, 2, none⟩ (.int .i64 ((rd_T72 l0_1 x24_2).f2))).setCell ⟨gb334, 3, none⟩ (.bool ((rd_T72 l0_1 x24_2).f3))).heap[gb334]? = some (.cells #[.string ((rd_T72 l0_1 x24_2).f0), .int .i64 ((rd_T72 l0_1 x24_2).f1), .int .i64 ((rd_T72 l0_1 x24_2).f2), .bool ((rd_T72 l0_1 x24_2).f3)] 72 (0, 0))) := ⟨by (with_reducible repeat (first | refine blk_drewN ?_ _ | refine blk_drew ?_ | refine blk_alloc ?_ _)); refine blk_put (cs := #[.string ((rd_T72 l0_1 x24_2).f0), .int .i64 ((rd_T72 l0_1 x24_2).f1), .int .i64 ((rd_T72 l0_1 x24_2).f2), .bool false]) ?_ 3 _ rfl; (with_reducible repeat (first | refine blk_drewN ?_ _ | refine blk_drew ?_ | refine blk_alloc ?_ _)); refine blk_put (cs := #[.string ((rd_T72 l0_1 x24_2).f0), .int .i64 ((rd_T72 l0_1 x24_2).f1), .int .i64 0, .bool false]) ?_ 2 _ rfl; (with_reducible repeat (first | refine blk_drewN ?_ _ | refine blk_drew ?_ | refine blk_alloc ?_ _)); refine blk_put (cs := #[.string ((rd_T72 l0_1 x24_2).f0), .int .i64 0, .int .i64 0, .bool false]) ?_ 1 _ rfl; (with_reducible repeat (first | refine blk_drewN ?_ _ | refine blk_drew ?_ | refine blk_alloc ?_ _)); refine blk_put (cs := #[.string (⟨#[]⟩ : ByteArray), .int .i64 0, .int .i64 0, .bool false]) ?_ 0 _ rfl; (with_reducible repeat (first | refine blk_drewN ?_ _ | refine blk_drew ?_ | refine blk_alloc ?_ _)); exact BK334.out⟩
           have n2_ : Aside0 (Below w.heap.size w ((((w33.setCell ⟨gb334, 0, none⟩ (.string ((rd_T72 l0_1 x24_2).f0))).setCell ⟨gb334, 1, none⟩ (.int .i64 ((rd_T72 l0_1 x24_2).f1))).setCell ⟨gb334, 2, none⟩ (.int .i64 ((rd_T72 l0_1 x24_2).f2))).setCell ⟨gb334, 3, none⟩ (.bool ((rd_T72 l0_1 x24_2).f3)))) := ⟨zb _⟩
           (try clear BK332)
           (try clear BK334)
           (try clear HB)
           generalize ((((w33.setCell ⟨gb334, 0, none⟩ (.string ((rd_T72 l0_1 x24_2).f0))).setCell ⟨gb334, 1, none⟩ (.int .i64 ((rd_T72 l0_1 x24_2).f1))).setCell ⟨gb334, 2, none⟩ (.int .i64 ((rd_T72 l0_1 x24_2).f2))).setCell ⟨gb334, 3, none⟩ (.bool ((rd_T72 l0_1 x24_2).f3))) = w36 at n0_ n1_ n2_ ⊢
           have BK332 := n0_
           have BK334 := n1_
           have HB := n2_
           clear n0_ n1_ n2_
           have n0_ := Aside0.mk (blk_drew BK332.out)
           have n1_ := Aside0.mk (blk_drew BK334.out)
           have n2_ := Aside0.mk (below_drew1 HB.out)
           clear BK332
           clear BK334
           clear HB
           have BK332 := n0_
           have BK334 := n1_
           have HB := n2_
           clear n0_ n1_ n2_
           refine start_ (n := 20) (S := fun w' => w'.cell? ⟨gb332, 0, none⟩ = some (.slice A0_0 l0_0.length c0_0) ∧ w'.cell? ⟨gb332, 1, none⟩ = some (.slice (some ad333) l0_1.length c0_1) ∧ w'.cell? ⟨gb332, 2, none⟩ = some (.slice A0_2 l0_2.length c0_2) ∧ w'.cell? ⟨gb334, 0, none⟩ = some (.string ((rd_T72 l0_1 x24_2).f0)) ∧ w'.cell? ⟨gb334, 1, none⟩ = some (.int .i64 ((rd_T72 l0_1 x24_2).f1)) ∧ w'.cell? ⟨gb334, 2, none⟩ = some (.int .i64 ((rd_T72 l0_1 x24_2).f2)) ∧ w'.cell? ⟨gb334, 3, none⟩ = some (.bool ((rd_T72 l0_1 x24_2).f3))) (ds := []) (zm 20 0) (by kernel_rfl) rfl rfl ⟨zc0 BK332, zc1 BK332, zc2 BK332, zc0 BK334, zc1 BK334, zc2 BK334, zc3 BK334⟩ (fun hHeld => ?_); refine with_tabW impl_ObjectOk.tab6 impl_ObjectOk.bits6 (fun HT_ HW_ => ?_)
           generalize w36.drew = w37 at BK332 BK334 HB hHeld ⊢
           refine zy 0 29 (zm 20 1) hHeld ?_
           refine zy 1 30 (zm 20 3) hHeld ?_
           refine one_ (i := 2) (N := some 31) (zm 20 7) rfl rfl (one_of HT_.out (by kernel_rfl)) (by decide) (fun K hK => ?_)
           refine zi Tryz.func51 #[.agg #[.slice A0_0 l0_0.length c0_0, .slice (some ad333) l0_1.length c0_1, .slice A0_2 l0_2.length c0_2], .agg #[.string ((rd_T72 l0_1 x24_2).f0), .int .i64 ((rd_T72 l0_1 x24_2).f1), .int .i64 ((rd_T72 l0_1 x24_2).f2), .bool ((rd_T72 l0_1 x24_2).f3)]] ?_
           with_reducible refine (impl_isSymbol.calls k2 _ _ l0_0 _ _ l0_1 _ _ l0_2 ((rd_T72 l0_1 x24_2).f0) ((rd_T72 l0_1 x24_2).f1) ((rd_T72 l0_1 x24_2).f2) ((rd_T72 l0_1 x24_2).f3) true _ ?side1 ?side2 ?side3 ?side4 ?side5 ?side6 A14.out).mono ?_
           (case side1 => repeat (first | exact (Kd.C_below HR0_0.out HB.out) | (with_reducible refine Kd.C_alloc ?_ _) | (with_reducible refine Kd.C_drewN ?_ _) | (with_reducible refine Kd.C_drew ?_)))
           (case side2 => exact HC0_0.out)
           (case side3 => repeat (first | exact (Kd.C_below HR0_1.out HB.out) | (with_reducible refine Kd.C_alloc ?_ _) | (with_reducible refine Kd.C_drewN ?_ _) | (with_reducible refine Kd.C_drew ?_)))
           (case side4 => exact HC0_1.out)
           (case side5 => repeat (first | exact (Kd.C_below HR0_2.out HB.out) | (with_reducible refine Kd.C_alloc ?_ _) | (with_reducible refine Kd.C_drewN ?_ _) | (with_reducible refine Kd.C_drew ?_)))
           (case side6 => exact HC0_2.out)
           rintro e w38 ⟨rfl, hb⟩
           refine ⟨_, rfl, ?_⟩
           have n0_ := zk BK332 hb
           have n1_ := zk BK334 hb
           have n2_ := zt w hb
           clear BK332
           clear BK334
           clear HB
           have BK332 := n0_
           have BK334 := n1_
           have HB := n2_
           clear n0_ n1_ n2_
           (try clear hb)
           (try clear hb2)
           (try clear hk)
           (try clear hi)
           refine hK.out _ _ ⟨zc0 BK332, zc1 BK332, zc2 BK332, zc0 BK334, zc1 BK334, zc2 BK334, zc3 BK334⟩ (fun hHeld => ?_)
           clear hK K
           refine zq ?_
           refine zp 3 32 (zm 20 15) ?_
           refine zp 4 33 (zm 20 31) ?_
           refine zp 5 34 (zm 20 63) ?_
           refine zp 6 35 (zm 20 127) ?_
           refine zp 7 36 (zm 20 255) ?_
           refine zu 8 37 (zm 20 511) ?_
           refine zu 9 38 (zm 20 1023) ?_
           refine zu 10 39 (zm 20 2047) ?_
           refine zu 11 40 (zm 20 4095) ?_
           refine zu 12 41 (zm 20 8191) ?_
           refine zu 13 42 (zm 20 16383) ?_
           refine zu 14 43 (zm 20 32767) ?_
           refine zu 15 44 (zm 20 65535) ?_
           refine zu 16 45 (zm 20 131071) ?_
           refine zu 17 46 (zm 20 262143) ?_
           refine zp 18 47 (zm 20 524287) ?_
           refine zp 19 48 (zm 20 1048575) ?_
           refine done_ (done_of HT_.out (by kernel_rfl)) ?_
           try go_wp2
           go_roundg k2
           case measure => have := HJ1.out; have := HK2.out; omega
           case rel => exact ⟨(wrap64 (x24_2 + 1)), (zE _), H', ⟨by have := HJ1.out; have := HK2.out; omega⟩, ⟨zr BK332⟩, ⟨zb _⟩⟩
         ·replace c15 := Bool.eq_false_iff.mpr c15
          subst c15
          rw [if_neg (show ¬ (false = true) by decide)] at H
          obtain rfl := Option.some.inj H
          have p333 : 0 ≤ (x24_2 : Int) := of_decide_eq_true (za _)
          have q333 : x24_2 < (l0_1.length : Int) := of_decide_eq_true (za _)
          obtain ⟨ad333, e333, hx333_0, hx333_1, hx333_2, hx333_3⟩ := at_T72 HR0_1.out x24_2 p333 q333
          cases e333
          replace hx333_0 := zx HB hx333_0
          replace hx333_1 := zx HB hx333_1
          replace hx333_2 := zx HB hx333_2
          replace hx333_3 := zx HB hx333_3
          replace p333 := eq_true p333
          replace q333 := eq_true q333
          try go_wp2_with (first | ((with_reducible refine gate_dst (N := 4) rfl ?_); (try (refine gate_guard (by rfl) ?_; dsimp only)); refine zbx 4 #[.string (⟨#[]⟩ : ByteArray), .int .i64 0, .int .i64 0, .bool false] 72 ?_; intro gb334 hg w39 hbox hb; have BK334 := Aside0.mk (hbox); have GW334 := zs w hg; have GE334 := GW334; have NB332_334 := zlt BK332 hg; have NB334_332 := zgt (zlt BK332 hg); replace BK332 := zk BK332 hb; replace HB := zt w hb; clear hb hbox hg; have hnb40 := NB334_332.out; have hnc40 := NB332_334.out; have hcz41_0 := zc0 BK334; have hcz41_1 := zc1 BK334; have hcz41_2 := zc2 BK334; have hcz41_3 := zc3 BK334; have hfz41_0 := blk_frozen BK334.out 0; have hfz41_1 := blk_frozen BK334.out 1; have hfz41_2 := blk_frozen BK334.out 2; have hfz41_3 := blk_frozen BK334.out 3))
          have n0_ : Aside0 (((((w39.setCell ⟨gb334, 0, none⟩ (.string ((rd_T72 l0_1 x24_2).f0))).setCell ⟨gb334, 1, none⟩ (.int .i64 ((rd_T72 l0_1 x24_2).f1))).setCell ⟨gb334, 2, none⟩ (.int .i64 ((rd_T72 l0_1 x24_2).f2))).setCell ⟨gb334, 3, none⟩ (.bool ((rd_T72 l0_1 x24_2).f3))).heap[gb332]? = some (.cells #[.slice A0_0 l0_0.length c0_0, .slice (some ad333) l0_1.length c0_1, .slice A0_2 l0_2.length c0_2] 33 (0, 0))) := ⟨zw _⟩
          have n1_ : Aside0 (((((w39.setCell ⟨gb334, 0, none⟩ (.string ((rd_T72 l0_1 x24_2).f0))).setCell ⟨gb334, 1, none⟩ (.int .i64 ((rd_T72 l0_1 x24_2).f1))).setCell ⟨gb334, 2, none⟩ (.int .i64 ((rd_T72 l0_1 x24_2).f2))).setCell ⟨gb334, 3, none⟩ (.bool ((rd_T72 l0_1 x24_2).f3))).heap[gb334]? = some (.cells #[.string ((rd_T72 l0_1 x24_2).f0), .int .i64 ((rd_T72 l0_1 x24_2).f1), .int .i64 ((rd_T72 l0_1 x24_2).f2), .bool ((rd_T72 l0_1 x24_2).f3)] 72 (0, 0))) := ⟨by (with_reducible repeat (first | refine blk_drewN ?_ _ | refine blk_drew ?_ | refine blk_alloc ?_ _)); refine blk_put (cs := #[.string ((rd_T72 l0_1 x24_2).f0), .int .i64 ((rd_T72 l0_1 x24_2).f1), .int .i64 ((rd_T72 l0_1 x24_2).f2), .bool false]) ?_ 3 _ rfl; (with_reducible repeat (first | refine blk_drewN ?_ _ | refine blk_drew ?_ | refine blk_alloc ?_ _)); refine blk_put (cs := #[.string ((rd_T72 l0_1 x24_2).f0), .int .i64 ((rd_T72 l0_1 x24_2).f1), .int .i64 0, .bool false]) ?_ 2 _ rfl; (with_reducible repeat (first | refine blk_drewN ?_ _ | refine blk_drew ?_ | refine blk_alloc ?_ _)); refine blk_put (cs := #[.string ((rd_T72 l0_1 x24_2).f0), .int .i64 0, .int .i64 0, .bool false]) ?_ 1 _ rfl; (with_reducible repeat (first | refine blk_drewN ?_ _ | refine blk_drew ?_ | refine blk_alloc ?_ _)); refine blk_put (cs := #[.string (⟨#[]⟩ : ByteArray), .int .i64 0, .int .i64 0, .bool false]) ?_ 0 _ rfl; (with_reducible repeat (first | refine blk_drewN ?_ _ | refine blk_drew ?_ | refine blk_alloc ?_ _)); exact BK334.out⟩
          have n2_ : Aside0 (Below w.heap.size w ((((w39.setCell ⟨gb334, 0, none⟩ (.string ((rd_T72 l0_1 x24_2).f0))).setCell ⟨gb334, 1, none⟩ (.int .i64 ((rd_T72 l0_1 x24_2).f1))).setCell ⟨gb334, 2, none⟩ (.int .i64 ((rd_T72 l0_1 x24_2).f2))).setCell ⟨gb334, 3, none⟩ (.bool ((rd_T72 l0_1 x24_2).f3)))) := ⟨zb _⟩
          (try clear BK332)
          (try clear BK334)
          (try clear HB)
          generalize ((((w39.setCell ⟨gb334, 0, none⟩ (.string ((rd_T72 l0_1 x24_2).f0))).setCell ⟨gb334, 1, none⟩ (.int .i64 ((rd_T72 l0_1 x24_2).f1))).setCell ⟨gb334, 2, none⟩ (.int .i64 ((rd_T72 l0_1 x24_2).f2))).setCell ⟨gb334, 3, none⟩ (.bool ((rd_T72 l0_1 x24_2).f3))) = w42 at n0_ n1_ n2_ ⊢
          have BK332 := n0_
          have BK334 := n1_
          have HB := n2_
          clear n0_ n1_ n2_
          have n0_ := Aside0.mk (blk_drew BK332.out)
          have n1_ := Aside0.mk (blk_drew BK334.out)
          have n2_ := Aside0.mk (below_drew1 HB.out)
          clear BK332
          clear BK334
          clear HB
          have BK332 := n0_
          have BK334 := n1_
          have HB := n2_
          clear n0_ n1_ n2_
          refine start_ (n := 20) (S := fun w' => w'.cell? ⟨gb332, 0, none⟩ = some (.slice A0_0 l0_0.length c0_0) ∧ w'.cell? ⟨gb332, 1, none⟩ = some (.slice (some ad333) l0_1.length c0_1) ∧ w'.cell? ⟨gb332, 2, none⟩ = some (.slice A0_2 l0_2.length c0_2) ∧ w'.cell? ⟨gb334, 0, none⟩ = some (.string ((rd_T72 l0_1 x24_2).f0)) ∧ w'.cell? ⟨gb334, 1, none⟩ = some (.int .i64 ((rd_T72 l0_1 x24_2).f1)) ∧ w'.cell? ⟨gb334, 2, none⟩ = some (.int .i64 ((rd_T72 l0_1 x24_2).f2)) ∧ w'.cell? ⟨gb334, 3, none⟩ = some (.bool ((rd_T72 l0_1 x24_2).f3))) (ds := []) (zm 20 0) (by kernel_rfl) rfl rfl ⟨zc0 BK332, zc1 BK332, zc2 BK332, zc0 BK334, zc1 BK334, zc2 BK334, zc3 BK334⟩ (fun hHeld => ?_); refine with_tabW impl_ObjectOk.tab6 impl_ObjectOk.bits6 (fun HT_ HW_ => ?_)
          generalize w42.drew = w43 at BK332 BK334 HB hHeld ⊢
          refine zy 0 29 (zm 20 1) hHeld ?_
          refine zy 1 30 (zm 20 3) hHeld ?_
          refine one_ (i := 2) (N := some 31) (zm 20 7) rfl rfl (one_of HT_.out (by kernel_rfl)) (by decide) (fun K hK => ?_)
          refine zi Tryz.func51 #[.agg #[.slice A0_0 l0_0.length c0_0, .slice (some ad333) l0_1.length c0_1, .slice A0_2 l0_2.length c0_2], .agg #[.string ((rd_T72 l0_1 x24_2).f0), .int .i64 ((rd_T72 l0_1 x24_2).f1), .int .i64 ((rd_T72 l0_1 x24_2).f2), .bool ((rd_T72 l0_1 x24_2).f3)]] ?_
          with_reducible refine (impl_isSymbol.calls k2 _ _ l0_0 _ _ l0_1 _ _ l0_2 ((rd_T72 l0_1 x24_2).f0) ((rd_T72 l0_1 x24_2).f1) ((rd_T72 l0_1 x24_2).f2) ((rd_T72 l0_1 x24_2).f3) false _ ?side1 ?side2 ?side3 ?side4 ?side5 ?side6 A14.out).mono ?_
          (case side1 => repeat (first | exact (Kd.C_below HR0_0.out HB.out) | (with_reducible refine Kd.C_alloc ?_ _) | (with_reducible refine Kd.C_drewN ?_ _) | (with_reducible refine Kd.C_drew ?_)))
          (case side2 => exact HC0_0.out)
          (case side3 => repeat (first | exact (Kd.C_below HR0_1.out HB.out) | (with_reducible refine Kd.C_alloc ?_ _) | (with_reducible refine Kd.C_drewN ?_ _) | (with_reducible refine Kd.C_drew ?_)))
          (case side4 => exact HC0_1.out)
          (case side5 => repeat (first | exact (Kd.C_below HR0_2.out HB.out) | (with_reducible refine Kd.C_alloc ?_ _) | (with_reducible refine Kd.C_drewN ?_ _) | (with_reducible refine Kd.C_drew ?_)))
          (case side6 => exact HC0_2.out)
          rintro e w44 ⟨rfl, hb⟩
          refine ⟨_, rfl, ?_⟩
          have n0_ := zk BK332 hb
          have n1_ := zk BK334 hb
          have n2_ := zt w hb
          clear BK332
          clear BK334
          clear HB
          have BK332 := n0_
          have BK334 := n1_
          have HB := n2_
          clear n0_ n1_ n2_
          (try clear hb)
          (try clear hb2)
          (try clear hk)
          (try clear hi)
          refine hK.out _ _ ⟨zc0 BK332, zc1 BK332, zc2 BK332, zc0 BK334, zc1 BK334, zc2 BK334, zc3 BK334⟩ (fun hHeld => ?_)
          clear hK K
          refine zq ?_
          refine zp 3 32 (zm 20 15) ?_
          refine zp 4 33 (zm 20 31) ?_
          refine zu 5 34 (zm 20 63) ?_
          refine zu 6 35 (zm 20 127) ?_
          refine zu 7 36 (zm 20 255) ?_
          refine zu 8 37 (zm 20 511) ?_
          refine zu 9 38 (zm 20 1023) ?_
          refine zu 10 39 (zm 20 2047) ?_
          refine zu 11 40 (zm 20 4095) ?_
          refine zu 12 41 (zm 20 8191) ?_
          refine zu 13 42 (zm 20 16383) ?_
          refine zu 14 43 (zm 20 32767) ?_
          refine zu 15 44 (zm 20 65535) ?_
          refine zu 16 45 (zm 20 131071) ?_
          refine zu 17 46 (zm 20 262143) ?_
          refine zu 18 47 (zm 20 524287) ?_
          refine zp 19 48 (zm 20 1048575) ?_
          refine done_ (done_of HT_.out (by kernel_rfl)) ?_
          try go_wp2
          go_ret
          exact ⟨ze _, zb _⟩
        ·rw [if_neg c13] at H
         exact absurd H (by simp)
       ·rw [if_neg c12] at H
        exact absurd H (by simp)
      ·rw [if_neg c11] at H
       have c11b0 : decide (x24_2 < (l0_1.length : Int)) = false := decide_eq_false c11
       clear c11
       obtain ⟨t337, A450, H⟩ := Option.bind_eq_some_iff.mp H
       have A45 := Aside0.mk A450
       clear A450
       by_cases c46 : t337 = true
       ·subst c46
        rw [if_pos rfl] at H
        obtain rfl := Option.some.inj H
        obtain ⟨hcz47_0, hcz47_1, hcz47_2, hfz47_0, hfz47_1, hfz47_2⟩ := zF3 BK332
        go_wp2_with (first | ((with_reducible refine gate_callee (f := 52) rfl ?_); refine zc (some 52) Tryz.func52 #[.slice A0_0 l0_0.length c0_0, .func (.func 53) #[] #[]] ?_; (with_reducible refine (impl_Section.calls k2 _ _ l0_0 () true _ ?side1 ?side2 A45.out).mono ?_); (case side1 => repeat (first | exact (Kd.C_below HR0_0.out HB.out) | (with_reducible refine Kd.C_alloc ?_ _) | (with_reducible refine Kd.C_drewN ?_ _) | (with_reducible refine Kd.C_drew ?_))); (case side2 => exact HC0_0.out); rintro e w48 ⟨rfl, hb⟩; refine ⟨_, rfl, ?_⟩; replace BK332 := zk BK332 hb; replace HB := zt w hb; (try clear hb); (try clear hb2); (try clear hk); (try clear hi)))
        go_ret
        exact ⟨ze _, zb _⟩
       ·replace c46 := Bool.eq_false_iff.mpr c46
        subst c46
        rw [if_neg (show ¬ (false = true) by decide)] at H
        obtain ⟨t338, A490, H⟩ := Option.bind_eq_some_iff.mp H
        have A49 := Aside0.mk A490
        clear A490
        obtain rfl := Option.some.inj H
        obtain ⟨hcz50_0, hcz50_1, hcz50_2, hfz50_0, hfz50_1, hfz50_2⟩ := zF3 BK332
        go_wp2_with (first | ((with_reducible refine gate_callee (f := 52) rfl ?_); refine zc (some 52) Tryz.func52 #[.slice A0_0 l0_0.length c0_0, .func (.func 53) #[] #[]] ?_; (with_reducible refine (impl_Section.calls k2 _ _ l0_0 () false _ ?side1 ?side2 A45.out).mono ?_); (case side1 => repeat (first | exact (Kd.C_below HR0_0.out HB.out) | (with_reducible refine Kd.C_alloc ?_ _) | (with_reducible refine Kd.C_drewN ?_ _) | (with_reducible refine Kd.C_drew ?_))); (case side2 => exact HC0_0.out); rintro e w51 ⟨rfl, hb⟩; refine ⟨_, rfl, ?_⟩; replace BK332 := zk BK332 hb; replace HB := zt w hb; (try clear hb); (try clear hb2); (try clear hk); (try clear hi); obtain ⟨hcz52_0, hcz52_1, hcz52_2, hfz52_0, hfz52_1, hfz52_2⟩ := zF3 BK332) | (go_at_call 55; (with_reducible refine (impl_ENode.calls k2 _ _ l0_2 () t338 _ ?side1 ?side2 A49.out).mono ?_); (case side1 => repeat (first | exact (Kd.C_below HR0_2.out HB.out) | (with_reducible refine Kd.C_alloc ?_ _) | (with_reducible refine Kd.C_drewN ?_ _) | (with_reducible refine Kd.C_drew ?_))); (case side2 => exact HC0_2.out); rintro e w53 ⟨rfl, hb⟩; replace BK332 := zk BK332 hb; replace HB := zt w hb; (try clear hb); (try clear hb2); (try clear hk); (try clear hi)))
        go_ret
        exact ⟨ze _, zb _⟩

end Go.Proofs.YtlacpadpdfccmaaGreatDoor.PFnExactObjectText
namespace Go.Proofs.YtlacpadpdfccmaaGreatDoor.PFnExactObjectText
open Go.RowKit Go.Proofs.YtlacpadpdfccmaaGreatDoor.Z Go.Proofs.YtlacpadpdfccmaaGreatDoorW.PrintWords Go.Proofs.YtlacpadpdfccmaaGreatDoorW.PrintLast Go.Proofs.YtlacpadpdfccmaaGreatDoorW.PrintMore
attribute [local go_sem] max2_int min2_int max_two min_two max_three min_three max_four min_four   -- for this text's walks alone
set_option linter.unusedVariables false
set_option linter.unusedSimpArgs false

-- NOT PRINTED: function 125 (abi_NoEscape)

-- NOT PRINTED: function 102 (strings_Builder_copyCheck)

-- NOT PRINTED: function 58 (strings_Builder_WriteString)

def strings_Join.f (l0 : List ByteArray) (a1 : ByteArray) : Option ByteArray := if l0.length ≤ 140737488355328 then (if (Go.Lib.join (l0.map (·.data.toList)) a1.data.toList).length ≤ 140737488355328 then some ⟨(Go.Lib.join (l0.map (·.data.toList)) a1.data.toList).toArray⟩ else none) else none
theorem strings_Join.plain {w : World} {ad : Addr} {v : Value} (h : w.cell? ad = some v) : ad = ⟨ad.block, ad.off, none⟩ ∧ ad.block < w.heap.size := by
  unfold World.cell? at h
  split at h
  · rename_i hb
    obtain ⟨b, o, s⟩ := ad
    cases s with
    | none =>
      refine ⟨rfl, ?_⟩
      rcases Nat.lt_or_ge b w.heap.size with hlt | hge
      · exact hlt
      · rw [Array.getElem?_eq_none hge] at hb
        cases hb
    | some q => simp at h
  · cases h
theorem strings_Join.calls (A0 : Option Addr) (c0 : Nat) (l0 : List ByteArray) (a1 : ByteArray) (r : ByteArray) (w : World) (hr0 : Kd.C Kd.string w A0 l0.length l0) (hc0 : l0.length ≤ c0) (h : strings_Join.f l0 a1 = some r) :
 Calls Tryz.prog 75 #[.slice A0 l0.length c0, .string a1] w fun e w' => e = .returned (.string r) ∧ Below w.heap.size w w' := by
 unfold strings_Join.f at h
 by_cases h0 : l0.length ≤ 140737488355328
 ·by_cases h1 : (Go.Lib.join (l0.map (·.data.toList)) a1.data.toList).length ≤ 140737488355328
  ·rw [if_pos h0, if_pos h1] at h
   obtain rfl := Option.some.inj h
   by_cases hz : l0 = []
   ·subst hz
    refine (Tryz.strings_Join_none A0 c0 a1 w).mono ?_
    rintro e w' ⟨rfl, rfl⟩
    exact ⟨rfl, Below.refl _ _⟩
   ·have hlen : 0 < l0.length := List.length_pos_iff.2 hz
    obtain ⟨ad, rfl, hcell⟩ := hr0.2.2 hlen
    have hcells : ∀ (j : Nat) x, l0[j]? = some x → w.cell? (ad.add j) = some (.string x) := by
     intro j x hj
     obtain ⟨c, _, hc, hu⟩ := hcell j x hj
     have hc' : c = [Value.string x] := hc
     have := hu 0 (.string x) (by rw [hc']; rfl)
     rw [show (Kd.string).sz = 1 from rfl, Nat.mul_one, Nat.add_zero] at this
     exact this
    have hz0 := hcells 0 (l0[0]) (List.getElem?_eq_getElem hlen)
    have hz1 : w.cell? ad = some (.string (l0[0])) := by simpa [Addr.add] using hz0
    obtain ⟨had, hblk⟩ := strings_Join.plain hz1
    have hcells' : ∀ (j : Nat) x, l0[j]? = some x → w.cell? ⟨ad.block, ad.off + j, none⟩ = some (.string x) := by
     intro j x hj
     have := hcells j x hj
     unfold Addr.add at this
     split at this
     ·rename_i hj0
      subst hj0
      rw [had] at this
      exact this
     ·exact this
    rw [had]
    exact Tryz.strings_Join ad.block ad.off c0 l0 a1 w hcells' hblk h0 hc0 h1
  ·rw [if_pos h0, if_neg h1] at h
   cases h
 ·rw [if_neg h0] at h
  cases h

def impl_spaced.f (l0 : List ByteArray) : Option (ByteArray) := (strings_Join.f l0 (⟨#[32]⟩ : ByteArray)).bind fun t339 => (if t339.size + 1 ≤ 9223372036854775807 then (some (t339 ++ (⟨#[10]⟩ : ByteArray))) else (none))
set_option maxHeartbeats 8000000 in
set_option maxRecDepth 100000 in
theorem impl_spaced.calls (A0 : Option Addr) (c0 : Nat) (l0 : List ByteArray) (r : ByteArray) (w : World) (hr0 : Kd.C Kd.string w A0 l0.length l0) (hc0 : l0.length ≤ c0) (h : impl_spaced.f l0 = some r) :
 Calls Tryz.prog 59 #[.slice A0 l0.length c0] w fun e w' => e = .returned (.string r) ∧ Below w.heap.size w w' := by
 have HR0 := Aside0.mk hr0
 have HC0 := Aside0.mk hc0
 clear hr0 hc0
 have HB := Aside0.mk (Below.refl w.heap.size w)
 have H : ((strings_Join.f l0 (⟨#[32]⟩ : ByteArray)).bind fun t339 => (if t339.size + 1 ≤ 9223372036854775807 then (some (t339 ++ (⟨#[10]⟩ : ByteArray))) else (none))) = some r := h
 clear h
 obtain ⟨t339, A20, H⟩ := Option.bind_eq_some_iff.mp H
 have A2 := Aside0.mk A20
 clear A20
 by_cases c3 : t339.size + 1 ≤ 9223372036854775807
 ·rw [if_pos c3] at H
  have c3b0 := eq_true c3
  have c3b1 : decide (t339.size + 1 ≤ 9223372036854775807) = true := decide_eq_true c3
  try have c3b2 : (9223372036854775807 < t339.size + 1) = False := eq_false (Nat.not_lt.2 c3)
  obtain rfl := Option.some.inj H
  go_enter Tryz.func59, Tryz.ntmps59
  go_wp2_with (first | ((with_reducible refine gate_callee (f := 75) rfl ?_); refine zc (some 4) Tryz.func75 #[.slice A0 l0.length c0, .string (⟨#[32]⟩ : ByteArray)] ?_; (with_reducible refine (strings_Join.calls _ _ l0 (⟨#[32]⟩ : ByteArray) t339 _ ?side1 ?side2 A2.out).mono ?_); (case side1 => repeat (first | exact HR0.out | (with_reducible refine Kd.C_alloc ?_ _) | (with_reducible refine Kd.C_drewN ?_ _) | (with_reducible refine Kd.C_drew ?_))); (case side2 => exact HC0.out); rintro e w4 ⟨rfl, hb⟩; refine ⟨_, rfl, ?_⟩; replace HB := zt w hb; (try clear hb); (try clear hb2); (try clear hk); (try clear hi)))
  go_ret
  exact ⟨ze _, zb _⟩
 ·rw [if_neg c3] at H
  exact absurd H (by simp)

open Go.Proofs.YtlacpadpdfccmaaGreatDoor.Aid
def strconv_FormatInt.f (a0 a1 : Int) : Option ByteArray := if a1 = 10 then (if -9223372036854775808 ≤ a0 then (if a0 ≤ 9223372036854775807 then some ⟨(Go.Lib.itoa a0).toArray⟩ else none) else none) else if a1 = 16 then (if 0 ≤ a0 then (if a0 < 65536 then some ⟨(hexLow a0.toNat).toArray⟩ else none) else none) else none
open Go.Lib in
set_option maxRecDepth 100000 in
theorem strconv_FormatInt.tz64 (w : World) (hG : GW w) : Calls Tryz.prog 181 #[.int .u64 16] w fun e w' => e = .returned (.int .i64 4) ∧ Drawn0 w w' := by
  have e15 : IntKind.u64.wrap (bits BinOp.and IntKind.u64 16 (IntKind.u64.wrap (-16)) * 285870213051353865) / 288230376151711744 = 15 := by decide
  have hc : w.cell? ⟨8, (IntKind.u64.wrap (bits BinOp.and IntKind.u64 16 (IntKind.u64.wrap (-16)) * 285870213051353865) / 288230376151711744).toNat, none⟩ = some (.int .u8 4) := by
    rw [e15]
    exact TabIs.cell hG.db64 (g := 8) (by kernel_rfl) 15 (by decide)
  have hb : 0 ≤ IntKind.u64.wrap (bits BinOp.and IntKind.u64 16 (IntKind.u64.wrap (-16)) * 285870213051353865) / 288230376151711744 ∧ IntKind.u64.wrap (bits BinOp.and IntKind.u64 16 (IntKind.u64.wrap (-16)) * 285870213051353865) / 288230376151711744 < 64 := by
    rw [e15]; decide
  clear e15
  go_enter Tryz.func181, Tryz.ntmps181
  go_wp2
  go_ret
  exact ⟨rfl, Drawn0.refl _⟩
set_option maxRecDepth 100000 in
theorem strconv_FormatInt.pow2 (w : World) : Calls Tryz.prog 167 #[.int .i64 16] w fun e w' => e = .returned (.bool true) ∧ Drawn0 w w' := by
  go_enter Tryz.func167, Tryz.ntmps167
  go_wp2
  rw [show bits BinOp.and IntKind.i64 16 15 = 0 from by decide]
  go_ret
  exact ⟨rfl, Drawn0.refl _⟩
set_option maxRecDepth 100000 in
theorem strconv_FormatInt.tz (w : World) (hG : GW w) : Calls Tryz.prog 168 #[.int .u64 16] w fun e w' => e = .returned (.int .i64 4) ∧ Drawn0 w w' := by
  go_enter Tryz.func168, Tryz.ntmps168
  go_wp2_with (go_at_call 181; refine (strconv_FormatInt.tz64 _ hG).mono ?_; rintro e w' ⟨rfl, ⟨m, rfl⟩⟩)
  go_ret
  exact ⟨rfl, ⟨m, rfl⟩⟩
def strconv_FormatInt.hexDigits : ByteArray := ⟨#[48, 49, 50, 51, 52, 53, 54, 55, 56, 57, 97, 98, 99, 100, 101, 102, 103, 104, 105, 106, 107, 108, 109, 110, 111, 112, 113, 114, 115, 116, 117, 118, 119, 120, 121, 122]⟩
theorem strconv_FormatInt.hexDigits_at : ∀ (r : Nat) (h : r < 16), strconv_FormatInt.hexDigits[r]'(Nat.lt_of_lt_of_le h (by decide)) = hexB r := by decide
theorem strconv_FormatInt.hex_at (r : Nat) (h : r < 16) (w : World) : (Instr.index 9 (.string strconv_FormatInt.hexDigits) (.int .u64 (r : Int))).run Tryz.prog w = .ok (.int .u8 ((hexB r).toNat : Int)) w := by
  rw [run_index_string w 9 strconv_FormatInt.hexDigits .u64 _ Tryz.underlying9, dif_pos ⟨by omega, by rw [show strconv_FormatInt.hexDigits.size = 36 from rfl]; omega⟩]
  have e : ((r : Int)).toNat = r := by omega
  simp only [e]
  rw [strconv_FormatInt.hexDigits_at r h]
def strconv_FormatInt.HexInv (n j : Nat) (C : Array Value) : Prop := C.size = 65 ∧ (∀ t, t < j → C[64 - t]? = some (.int .u8 ((hexB (n / 16 ^ t % 16)).toNat : Int))) ∧ (16 ^ j ≤ n ∨ j = 0)
theorem strconv_FormatInt.hexLow_of (n j : Nat) (hn : n < 65536) (hj : j ≤ 3) (h0 : 16 ^ j ≤ n ∨ j = 0) (h1 : n / 16 ^ j < 16) : (List.range (j + 1)).map (fun t => hexB (n / 16 ^ (j - t) % 16)) = hexLow n := by
  unfold hexLow
  have h4 : j = 0 ∨ j = 1 ∨ j = 2 ∨ j = 3 := by omega
  rcases h4 with rfl | rfl | rfl | rfl
  · rw [if_pos (by omega)]
    simp [List.range_succ_eq_map]
    congr 1
    omega
  · rw [if_neg (by omega), if_pos (by omega)]
    simp [List.range_succ_eq_map]
    congr 1
    omega
  · rw [if_neg (by omega), if_neg (by omega), if_pos (by omega)]
    simp [List.range_succ_eq_map]
    congr 1
    omega
  · rw [if_neg (by omega), if_neg (by omega), if_neg (by omega)]
    simp [List.range_succ_eq_map]
    congr 1
    omega
theorem strconv_FormatInt.add_plain_at (g q i : Nat) : (⟨g, q, none⟩ : Addr).add i = ⟨g, q + i, none⟩ := by unfold Addr.add; split <;> simp_all
theorem strconv_FormatInt.below_own {w wr : World} {g : Nat} {v : Value} (h : Below w.heap.size w wr) (hg : w.heap.size ≤ g) (q : Nat) : Below w.heap.size w (wr.setCell ⟨g, q, none⟩ v) := h.setCell hg _
set_option maxRecDepth 100000 in
theorem strconv_FormatInt.hexSlice (g q : Nat) (hq : q ≤ 64) (hq0 : 0 < q) (W : World) : (Instr.sliceAt 194 (.pointer (some ⟨g, 0, none⟩)) (some (.int .i64 (q : Int))) none none).run Tryz.prog W = .ok (.slice (some ⟨g, q, none⟩) (65 - q) (65 - q)) W := by
  rw [run_sliceAt_array_l W 194 ⟨g, 0, none⟩ (by kernel_rfl) .i64 q (by omega) (by rw [show Tryz.prog.arrayLen 194 = 65 by kernel_rfl]; omega), show Tryz.prog.arrayLen 194 = 65 by kernel_rfl, show Tryz.prog.elem 194 = 5 by kernel_rfl]
  have hs : (sizeOf 5).run Tryz.prog W = .ok 1 W := by go_simp
  rw [hs]
  simp only [Result.andThen, slicedAt, Int.toNat_natCast]
  rw [if_neg (by omega), add_plain, Nat.mul_one]
set_option maxRecDepth 100000 in
set_option maxHeartbeats 4000000 in
theorem strconv_FormatInt.fb (n : Nat) (hn : n < 65536) (w : World) (hG : GW w) : Calls Tryz.prog 145 #[.slice none 0 0, .int .u64 n, .int .i64 16, .bool false, .bool false] w fun e w' => e = .returned (.tuple #[.slice none 0 0, .string ⟨(hexLow n).toArray⟩]) ∧ Below w.heap.size w w' := by
  have HG := Aside0.mk hG
  clear hG
  have HN := Aside0.mk hn
  clear hn
  go_enter Tryz.func145, Tryz.ntmps145
  go_wp2_with (first | (go_at_call 167; refine (strconv_FormatInt.pow2 _).mono ?_; rintro e w' ⟨rfl, ⟨m, rfl⟩⟩) | (go_at_call 168; refine (strconv_FormatInt.tz _ ?_).mono ?_; (exact HG.out.alloc _ |>.drewN _); rintro e w' ⟨rfl, ⟨m2, rfl⟩⟩))
  go_loopg [1, 13] 4 (fun gg s1 s13 wr => ∃ (j q : Nat) (C : Array Value), j ≤ 3 ∧ 4 - j ≤ gg ∧ s1 = .int .u64 ((n / 16 ^ j : Nat) : Int) ∧ s13 = .int .i64 ((q : Int) + 1) ∧ Aside0 (q + 1 + j = 65) ∧ Aside0 (strconv_FormatInt.HexInv n j C) ∧ Aside0 (wr.heap[w.heap.size]? = some (.cells C 194 (0, 0))) ∧ Aside0 (Below w.heap.size w wr))
  case atStart =>
    refine ⟨0, 64, Tryz.zeroCells194, by omega, by omega, by simp, rfl, ⟨rfl⟩, ⟨⟨by decide +kernel, fun t ht => by omega, .inr rfl⟩⟩, ⟨?_⟩, ⟨pw_below_drewN (below_alloc (Below.refl _ _) _) _⟩⟩
    show (w.heap.push _)[w.heap.size]? = _
    rw [Array.getElem?_push_size]
  case round =>
    obtain ⟨j, q, C, hj, hg, rfl, rfl, HQ, HI, HC, HB⟩ := hrel
    rename_i wr_
    rename World => wr
    have hq : (q : Int) < 65 := by have := HQ.out; omega
    obtain ⟨v, hv⟩ : ∃ v, v = n / 16 ^ j := ⟨_, rfl⟩
    have hcq : ∃ c0, C[q]? = some c0 := ⟨C[q]'(by rw [HI.out.1]; omega), Array.getElem?_eq_getElem _⟩
    obtain ⟨c0, hc0⟩ := hcq
    have hcell : wr.cell? ⟨w.heap.size, q, none⟩ = some c0 := by
      simp only [World.cell?, HC.out]
      exact hc0
    have hfro : wr.frozen? ⟨w.heap.size, q, none⟩ = false := by
      simp [World.frozen?, HC.out]
    have hr : bits BinOp.and IntKind.u64 (v : Int) 15 = ((v % 16 : Nat) : Int) := by
      have hb : v < 65536 := by rw [hv]; exact Nat.lt_of_le_of_lt (Nat.div_le_self _ _) HN.out
      have h := bits_mask .u64 64 (by decide) (fun n h0 h1 => by rw [IntKind.wrap_u64]; omega) 4 (by decide) (v : Int) (by omega) (by omega)
      rw [show (2 : Int) ^ 4 - 1 = 15 from rfl, show (2 : Int) ^ 4 = 16 from rfl] at h
      rw [h]
      omega
    have hX : ∀ w, (Instr.index 9 (.string ⟨#[48, 49, 50, 51, 52, 53, 54, 55, 56, 57, 97, 98, 99, 100, 101, 102, 103, 104, 105, 106, 107, 108, 109, 110, 111, 112, 113, 114, 115, 116, 117, 118, 119, 120, 121, 122]⟩) (.int .u64 ((v % 16 : Nat) : Int))).run Tryz.prog w = .ok (.int .u8 ((hexB (v % 16)).toNat : Int)) w := strconv_FormatInt.hex_at (v % 16) (by omega)
    rw [← hv]
    have hd : (hexB (v % 16)).toNat = (hexB (n / 16 ^ j % 16)).toNat := by rw [hv]
    have HV := Aside0.mk hv
    have HD := Aside0.mk hd
    clear hv hd hc0
    have hput : (wr.setCell ⟨w.heap.size, q, none⟩ (.int .u8 ((hexB (v % 16)).toNat : Int))).heap[w.heap.size]? = some (.cells (C.setIfInBounds q (.int .u8 ((hexB (v % 16)).toNat : Int))) 194 (0, 0)) := by
      exact heap_setCell_same _ _ _ _ _ _ HC.out
    have HP := Aside0.mk hput
    clear hput
    by_cases h16 : (16 : Int) ≤ (v : Int)
    · generalize hrr : v % 16 = r at hr hX HP HD
      have HRR := Aside0.mk hrr
      clear hrr
      go_wp2
      go_roundg (4 - (j + 1))
      case measure => omega
      case rel =>
        have hv16 : 16 ≤ n / 16 ^ j := by rw [← HV.out]; omega
        have hpow : 16 ^ (j + 1) ≤ n := by
          rw [Nat.pow_succ, Nat.mul_comm]
          exact (Nat.le_div_iff_mul_le (Nat.pow_pos (by decide))).1 hv16
        have hj3 : j + 1 ≤ 3 := by
          rcases Nat.lt_or_ge j 3 with h | h
          · exact h
          · have : j = 3 := by omega
            subst this
            have := HN.out
            omega
        refine ⟨j + 1, q - 1, _, hj3, by omega, ?_, ?_, ⟨by have := HQ.out; omega⟩, ⟨?_⟩, ⟨HP.out⟩, ⟨by repeat (first | exact strconv_FormatInt.below_own HB.out (Nat.le_refl _) _ | apply pw_below_drewN | apply below_drew)⟩⟩
        · show Value.int IntKind.u64 _ = _
          congr 1
          rw [HV.out, Nat.pow_succ, ← Nat.div_div_eq_div_mul]
          omega
        · show Value.int IntKind.i64 _ = _
          congr 1
          have := HQ.out
          omega
        · refine ⟨by rw [Array.size_setIfInBounds]; exact HI.out.1, fun t ht => ?_, .inl hpow⟩
          have hq' := HQ.out
          by_cases e : t = j
          · subst e
            rw [show 64 - t = q by omega, Array.getElem?_setIfInBounds_self_of_lt (by rw [HI.out.1]; omega), HD.out]
          · rw [Array.getElem?_setIfInBounds_ne (by omega)]
            exact HI.out.2.1 t (by omega)
    · have h15 : v < 16 := by omega
      have hX2 : ∀ w, (Instr.index 9 (.string ⟨#[48, 49, 50, 51, 52, 53, 54, 55, 56, 57, 97, 98, 99, 100, 101, 102, 103, 104, 105, 106, 107, 108, 109, 110, 111, 112, 113, 114, 115, 116, 117, 118, 119, 120, 121, 122]⟩) (.int .u64 (v:Int))).run Tryz.prog w = .ok (.int .u8 ((hexB v).toNat : Int)) w := strconv_FormatInt.hex_at v h15
      rw [Nat.mod_eq_of_lt h15] at HP HD
      clear hX hr
      have hSl := strconv_FormatInt.hexSlice w.heap.size q (by have := HQ.out; omega) (by have := HQ.out; omega)
      have hback := run_convert_bytes_back (P := Tryz.prog) (wr.setCell ⟨w.heap.size, q, none⟩ (.int .u8 ((hexB v).toNat : Int))) 89 9 5 ⟨w.heap.size, q, none⟩ (65 - q) ((List.range (j + 1)).map (fun t => hexB (n / 16 ^ (j - t) % 16))) Tryz.underlying89 Tryz.underlying5 Tryz.underlying9 (fun i hi => by
        have hi' : i < j + 1 := by simpa using hi
        have hq' := HQ.out
        rw [strconv_FormatInt.add_plain_at]
        simp only [World.cell?, HP.out]
        by_cases e : i = 0
        · subst e
          rw [Nat.add_zero, Array.getElem?_setIfInBounds_self_of_lt (by rw [HI.out.1]; omega)]
          simp only [List.getElem_map, List.getElem_range, Nat.sub_zero]
          rw [HD.out]
          rfl
        · rw [Array.getElem?_setIfInBounds_ne (by omega), show q + i = 64 - (j - i) by omega, HI.out.2.1 (j - i) (by omega)]
          simp only [List.getElem_map, List.getElem_range]
          rfl)
      rw [show ((List.range (j + 1)).map (fun t => hexB (n / 16 ^ (j - t) % 16))).length = 65 - q by rw [List.length_map, List.length_range]; have := HQ.out; omega, strconv_FormatInt.hexLow_of n j HN.out hj HI.out.2.2 (by rw [← HV.out]; exact h15)] at hback
      clear h15
      go_wp2
      go_ret2
      exact ⟨rfl, by repeat (first | exact strconv_FormatInt.below_own HB.out (Nat.le_refl _) _ | apply pw_below_drewN | apply below_drew)⟩
set_option maxRecDepth 100000 in
set_option maxHeartbeats 4000000 in
theorem strconv_FormatInt.fi (n : Nat) (hn : n < 65536) (w : World) (hG : GW w) : Calls Tryz.prog 126 #[.int .i64 n, .int .i64 16] w fun e w' => e = .returned (.string ⟨(hexLow n).toArray⟩) ∧ Below w.heap.size w w' := by
  have HG := Aside0.mk hG
  clear hG
  have HN := Aside0.mk hn
  have hw : IntKind.u64.wrap (n : Int) = (n : Int) := by rw [IntKind.wrap_u64]; omega
  have hneg : ¬ ((n : Int) < 0) := by omega
  clear hn
  go_enter Tryz.func126, Tryz.ntmps126
  go_wp2_with (go_at_call 145; refine (strconv_FormatInt.fb n HN.out _ ?_).mono ?_; (repeat (first | exact HG.out | apply GW.drewN | apply GW.drew)); rintro e w' ⟨rfl, hb⟩)
  go_ret
  exact ⟨rfl, by repeat (first | exact below_step (by repeat (first | exact Below.refl _ _ | apply pw_below_drewN | apply below_drew)) hb | exact hb | apply pw_below_drewN | apply below_drew)⟩
set_option maxRecDepth 100000 in
theorem strconv_FormatInt.hex (n : Nat) (hn : n < 65536) (w : World) (hG : GW w) :
    Calls Tryz.prog 103 #[.int .i64 n, .int .i64 16] w fun e w' => e = .returned (.string ⟨(hexLow n).toArray⟩) ∧ Below w.heap.size w w' := by
  have HG := Aside0.mk hG
  clear hG
  have HN := Aside0.mk hn
  clear hn
  go_enter Tryz.func103, Tryz.ntmps103
  go_wp2_with (go_at_call 126; refine (strconv_FormatInt.fi n HN.out _ ?_).mono ?_; (repeat (first | exact HG.out | apply GW.drewN | apply GW.drew)); rintro e w' ⟨rfl, hb⟩)
  go_ret
  exact ⟨rfl, by repeat (first | exact below_step (by repeat (first | exact Below.refl _ _ | apply pw_below_drewN | apply below_drew)) hb | exact hb | apply pw_below_drewN | apply below_drew)⟩
theorem strconv_FormatInt.calls (a0 a1 : Int) (r : ByteArray) (w : World) (hG : GW w) (h : strconv_FormatInt.f a0 a1 = some r) :
 Calls Tryz.prog 103 #[.int .i64 a0, .int .i64 a1] w fun e w' => e = .returned (.string r) ∧ Below w.heap.size w w' := by
 unfold strconv_FormatInt.f at h
 by_cases h0 : a1 = 10
 ·by_cases h1 : -9223372036854775808 ≤ a0
  ·by_cases h2 : a0 ≤ 9223372036854775807
   ·rw [if_pos h0, if_pos h1, if_pos h2] at h
    obtain rfl := Option.some.inj h
    subst h0
    refine (Tryz.strconv_FormatInt_10 a0 h1 h2 w hG.pow10).mono ?_
    rintro e w' ⟨rfl, k, os, rfl⟩
    exact ⟨rfl, below_grow w k os⟩
   ·rw [if_pos h0, if_pos h1, if_neg h2] at h
    cases h
  ·rw [if_pos h0, if_neg h1] at h
   cases h
 ·by_cases h3 : a1 = 16
  ·by_cases h1 : 0 ≤ a0
   ·by_cases h2 : a0 < 65536
    ·rw [if_neg h0, if_pos h3, if_pos h1, if_pos h2] at h
     obtain rfl := Option.some.inj h
     subst h3
     obtain ⟨n, rfl⟩ : ∃ n : Nat, a0 = (n : Int) := ⟨a0.toNat, by omega⟩
     exact strconv_FormatInt.hex n (by omega) w hG
    ·rw [if_neg h0, if_pos h3, if_pos h1, if_neg h2] at h
     cases h
   ·rw [if_neg h0, if_pos h3, if_neg h1] at h
    cases h
  ·rw [if_neg h0, if_neg h3] at h
   cases h

def impl_decimal.f (a0 : Int) : Option (ByteArray) := (strconv_FormatInt.f a0 10).bind fun t340 => (some t340)
set_option maxHeartbeats 8000000 in
set_option maxRecDepth 100000 in
theorem impl_decimal.calls (a0 : Int) (r : ByteArray) (w : World) (hG : GW w) (h : impl_decimal.f a0 = some r) :
 Calls Tryz.prog 60 #[.int .i64 a0] w fun e w' => e = .returned (.string r) ∧ Below w.heap.size w w' := by
 have HB := Aside0.mk (Below.refl w.heap.size w)
 have HG := Aside0.mk hG
 clear hG
 have H : ((strconv_FormatInt.f a0 10).bind fun t340 => (some t340)) = some r := h
 clear h
 obtain ⟨t340, A20, H⟩ := Option.bind_eq_some_iff.mp H
 have A2 := Aside0.mk A20
 clear A20
 obtain rfl := Option.some.inj H
 go_enter Tryz.func60, Tryz.ntmps60
 go_wp2_with (first | ((with_reducible refine gate_callee (f := 103) rfl ?_); refine zc (some 4) Tryz.func103 #[.int .i64 a0, .int .i64 10] ?_; (with_reducible refine (strconv_FormatInt.calls a0 10 t340 _ ?side1 A2.out).mono ?_); (case side1 => exact GW.below HG.out (zb _)); rintro e w3 ⟨rfl, hb⟩; refine ⟨_, rfl, ?_⟩; replace HB := zt w hb; (try clear hb); (try clear hb2); (try clear hk); (try clear hi)))
 go_ret
 exact ⟨ze _, zb _⟩

-- NOT PRINTED: function 63 (strings_Builder_String)

def strings_ToUpper.f (a0 : ByteArray) : Option ByteArray := if a0.size ≤ 140737488355328 then (if (a0.data.toList.all fun b => decide (b.toNat < 128)) = true then some ⟨(Go.Lib.toUpperA a0.data.toList).toArray⟩ else none) else none
theorem strings_ToUpper.calls (a0 : ByteArray) (r : ByteArray) (w : World) (h : strings_ToUpper.f a0 = some r) :
 Calls Tryz.prog 127 #[.string a0] w fun e w' => e = .returned (.string r) ∧ Below w.heap.size w w' := by
 unfold strings_ToUpper.f at h
 by_cases h0 : a0.size ≤ 140737488355328
 ·by_cases h1 : (a0.data.toList.all fun b => decide (b.toNat < 128)) = true
  ·rw [if_pos h0, if_pos h1] at h
   obtain rfl := Option.some.inj h
   exact Tryz.strings_ToUpper_ascii a0 w h0 (fun j b hb => of_decide_eq_true (List.all_eq_true.1 h1 b (List.mem_of_getElem? hb)))
  ·rw [if_pos h0, if_neg h1] at h
   cases h
 ·rw [if_neg h0] at h
  cases h

def impl_hexDigits.f (a0 : Int) (a1 : Int) : Option (ByteArray) := (strconv_FormatInt.f a0 16).bind fun t341 => ((strings_ToUpper.f t341).bind fun t342 => ((strings_Repeat.f (⟨#[48]⟩ : ByteArray) (mx 0 (wrap64 (a1 - (t342.size : Int))))).bind fun t343 => (if t343.size + t342.size ≤ 9223372036854775807 then (some (t343 ++ t342)) else (none))))
set_option maxHeartbeats 8000000 in
set_option maxRecDepth 100000 in
theorem impl_hexDigits.calls (a0 : Int) (a1 : Int) (r : ByteArray) (w : World) (hG : GW w) (h : impl_hexDigits.f a0 a1 = some r) :
 Calls Tryz.prog 104 #[.int .i64 a0, .int .i64 a1] w fun e w' => e = .returned (.string r) ∧ Below w.heap.size w w' := by
 have HB := Aside0.mk (Below.refl w.heap.size w)
 have HG := Aside0.mk hG
 clear hG
 have H : ((strconv_FormatInt.f a0 16).bind fun t341 => ((strings_ToUpper.f t341).bind fun t342 => ((strings_Repeat.f (⟨#[48]⟩ : ByteArray) (mx 0 (wrap64 (a1 - (t342.size : Int))))).bind fun t343 => (if t343.size + t342.size ≤ 9223372036854775807 then (some (t343 ++ t342)) else (none))))) = some r := h
 clear h
 obtain ⟨t341, A30, H⟩ := Option.bind_eq_some_iff.mp H
 have A3 := Aside0.mk A30
 clear A30
 obtain ⟨t342, A40, H⟩ := Option.bind_eq_some_iff.mp H
 have A4 := Aside0.mk A40
 clear A40
 obtain ⟨ji5, hji5⟩ : ∃ j_ : Int, (mx 0 (wrap64 (a1 - (t342.size : Int)))) = j_ := ⟨_, rfl⟩
 replace H : ((strings_Repeat.f (⟨#[48]⟩ : ByteArray) (ji5)).bind fun t343 => (if t343.size + t342.size ≤ 9223372036854775807 then (some (t343 ++ t342)) else (none))) = some r := by first | (rw [hji5] at H; exact H) | (simp only [hji5] at H ⊢; exact H)
 (try rw [hji5] at A3)
 (try rw [hji5] at A4)
 (try (have hji5l : 0 ≤ ji5 := by (rw [← hji5]; unfold mx; (repeat' split) <;> omega)))
 (try (have hji5m : 0 ≤ ji5 := by omega))
 have hji5_ : (if 0 < (wrap64 (a1 - (t342.size : Int))) then (wrap64 (a1 - (t342.size : Int))) else 0) = ji5 := hji5
 obtain ⟨t343, A60, H⟩ := Option.bind_eq_some_iff.mp H
 have A6 := Aside0.mk A60
 clear A60
 by_cases c7 : t343.size + t342.size ≤ 9223372036854775807
 ·rw [if_pos c7] at H
  have c7b0 := eq_true c7
  have c7b1 : decide (t343.size + t342.size ≤ 9223372036854775807) = true := decide_eq_true c7
  try have c7b2 : (9223372036854775807 < t343.size + t342.size) = False := eq_false (Nat.not_lt.2 c7)
  obtain rfl := Option.some.inj H
  go_enter Tryz.func104, Tryz.ntmps104
  go_wp2_with (first | ((with_reducible refine gate_callee (f := 103) rfl ?_); refine zc (some 7) Tryz.func103 #[.int .i64 a0, .int .i64 16] ?_; (with_reducible refine (strconv_FormatInt.calls a0 16 t341 _ ?side1 A3.out).mono ?_); (case side1 => exact GW.below HG.out (zb _)); rintro e w8 ⟨rfl, hb⟩; refine ⟨_, rfl, ?_⟩; replace HB := zt w hb; (try clear hb); (try clear hb2); (try clear hk); (try clear hi)) | ((with_reducible refine gate_callee (f := 127) rfl ?_); refine zc (some 8) Tryz.func127 #[.string t341] ?_; (with_reducible refine (strings_ToUpper.calls t341 t342 _ A4.out).mono ?_); rintro e w9 ⟨rfl, hb⟩; refine ⟨_, rfl, ?_⟩; replace HB := zt w hb; (try clear hb); (try clear hb2); (try clear hk); (try clear hi)) | ((with_reducible refine gate_callee (f := 122) rfl ?_); refine zc (some 14) Tryz.func122 #[.string (⟨#[48]⟩ : ByteArray), .int .i64 ji5] ?_ (hargs := by (try simp only [List.map_toArray, List.map_cons, List.map_nil]); first | done | (simp only [hji5]; rfl) | rfl | (simp only [List.length_drop, List.length_take]; rfl)); (with_reducible refine (strings_Repeat.calls (⟨#[48]⟩ : ByteArray) ji5 t343 _ A6.out).mono ?_); rintro e w10 ⟨rfl, hb⟩; refine ⟨_, rfl, ?_⟩; replace HB := zt w hb; (try clear hb); (try clear hb2); (try clear hk); (try clear hi)))
  go_ret
  exact ⟨by first | rfl | (simp [errW_none, errW_some] <;> rfl) | (simp only [← hji5]; first | rfl | (simp [errW_none, errW_some] <;> rfl)) | (simp [*, errW_none, errW_some] <;> rfl), zb _⟩
 ·rw [if_neg c7] at H
  exact absurd H (by simp)

theorem impl_hexText.sizeB : Option.map (fun x => x.size) (Tryz.prog.info? 91) = some 2 := Tryz.Builder_Extra_156.sizeBuilder
set_option maxHeartbeats 1000000 in
set_option maxRecDepth 100000 in
theorem impl_hexText.ccUsed (b : Nat) (w : World) (h0 : w.cell? ⟨b, 0, none⟩ = some (.pointer (some ⟨b, 0, none⟩))) :
    Calls Tryz.prog 102 #[.pointer (some ⟨b, 0, none⟩)] w fun e w' => e = .returned (.tuple #[]) ∧ w' = w := by
  obtain ⟨j, hj, _⟩ := Option.map_eq_some_iff.1 impl_hexText.sizeB
  go_enter Tryz.func102, Tryz.ntmps102
  go_wp2
  rw [Go.Lib.run_neq_ptr_same w _ Tryz.underlying88 hj]
  go_wp2
  go_end0
  exact ⟨rfl, rfl⟩
set_option maxHeartbeats 1000000 in
set_option maxRecDepth 100000 in
theorem impl_hexText.ccFresh (b : Nat) (w : World) (h0 : w.cell? ⟨b, 0, none⟩ = some (.pointer none)) (hsh : w.shape? b = some (91, 2)) (hfz : w.frozen? ⟨b, 0, none⟩ = false) :
    Calls Tryz.prog 102 #[.pointer (some ⟨b, 0, none⟩)] w fun e w' => e = .returned (.tuple #[]) ∧ w' = w.setCell ⟨b, 0, none⟩ (.pointer (some ⟨b, 0, none⟩)) := by
  obtain ⟨j, hj, hjs⟩ := Option.map_eq_some_iff.1 impl_hexText.sizeB
  go_enter Tryz.func102, Tryz.ntmps102
  go_wp2
  rw [Go.Lib.run_to_unsafe w ⟨b, 0, none⟩ Tryz.underlying88 Tryz.underlying155 hj (by rw [hjs]; decide) hsh (Nat.zero_lt_succ 1)]
  simp only [Result.andThen]
  rw [Oper.upon_value]
  go_wp2
  rw [run_callFunc_extern Tryz.func125 (by kernel_rfl) (by kernel_rfl) (by kernel_rfl) (e := Extern.AbiNoEscape.same) (by kernel_rfl)]
  rw [Go.Lib.run_noEscape]
  simp only [Result.andThen]
  rw [Oper.upon_value]
  go_wp2
  rw [Go.Lib.run_from_unsafe w ⟨b, 0, none⟩ Tryz.underlying155 Tryz.underlying88 hj hsh Tryz.Builder_Extra_156.liesBuilder]
  simp only [Result.andThen]
  rw [Oper.upon_value]
  go_wp2
  go_end0
  exact ⟨rfl, rfl⟩
def impl_hexText.B2 (base b : Nat) (bs : List Value) (w : World) : Prop := ∃ p v, (p = .pointer none ∨ p = .pointer (some ⟨b, 0, none⟩)) ∧ w.heap[b]? = some (.cells #[p, v] 91 (0, 0)) ∧ w.ownsRow base 5 1 v bs.length bs ∧ v.ownBlock ≠ some b
def impl_hexText.Kb (base b : Nat) (w w' : World) : Prop := (∀ k, k < base → k ≠ b → w'.heap[k]? = w.heap[k]?) ∧ w.heap.size ≤ w'.heap.size ∧ ∀ B, B ≤ b → B ≤ base → Below B w w'
theorem impl_hexText.Kb.step {base b : Nat} {w w1 w2 : World} (h : impl_hexText.Kb base b w w1) (h' : impl_hexText.Kb base b w1 w2) : impl_hexText.Kb base b w w2 :=
  ⟨fun k hk hb => (h'.1 k hk hb).trans (h.1 k hk hb), Nat.le_trans h.2.1 h'.2.1, fun B h1 h2 => (h.2.2 B h1 h2).trans (h'.2.2 B h1 h2)⟩
theorem impl_hexText.Kb.below {base b : Nat} {w w1 : World} (hb : base ≤ w.heap.size) (h : Below w.heap.size w w1) : impl_hexText.Kb base b w w1 :=
  ⟨fun k hk _ => h.block k (by omega), h.size, fun B h1 h2 => h.mono (by omega)⟩
theorem impl_hexText.B2.below {base b : Nat} {bs : List Value} {w w1 : World} (h : impl_hexText.B2 base b bs w) (hb : Below w.heap.size w w1) : impl_hexText.B2 base b bs w1 := by
  obtain ⟨p, v, h1, h2, h3, h4⟩ := h
  have hlt : b < w.heap.size := (Array.getElem?_eq_some_iff.1 h2).1
  exact ⟨p, v, h1, (hb.block b hlt).trans h2, own_move h3 (fun k hk => hb.block k (own_lt h3 k hk)), h4⟩
theorem impl_hexText.B2.is {base b : Nat} {bs : List Value} {w : World} (h : impl_hexText.B2 base b bs w) (hb : b ≤ base) : Go.Lib.IsBuilder 91 5 b b bs w := by
  obtain ⟨p, v, h1, h2, h3, h4⟩ := h
  have h3' : w.ownsRow b 5 1 v bs.length bs := by
    obtain ⟨q1, q2⟩ := h3
    refine ⟨q1, ?_⟩
    rcases q2 with q2 | ⟨g, cap, cur, r1, r2, r3⟩
    · exact .inl q2
    · exact .inr ⟨g, cap, cur, r1, by omega, r3⟩
  rcases h1 with rfl | rfl
  · exact .inl ⟨Nat.le_refl _, v, h2, h3', h4⟩
  · exact .inr ⟨Nat.le_refl _, v, h2, h3', h4⟩
theorem impl_hexText.setKb (base b : Nat) (w : World) (i : Nat) (v : Value) (hb : b < w.heap.size) : impl_hexText.Kb base b w (w.setCell ⟨b, i, none⟩ v) := by
  refine ⟨fun k _ hk => ?_, by simp [World.setCell], fun B h1 _ => (Below.refl B w).setCell (p := ⟨b, i, none⟩) h1 _⟩
  simp only [World.setCell, Array.getElem?_modify]
  rw [if_neg (fun e => hk e.symm)]
theorem impl_hexText.cc2 (base b : Nat) (bs : List Value) (w : World) (h : impl_hexText.B2 base b bs w) :
    Calls Tryz.prog 102 #[.pointer (some ⟨b, 0, none⟩)] w fun e w' => e = .returned (.tuple #[]) ∧ ((∃ v, w'.heap[b]? = some (.cells #[.pointer (some ⟨b, 0, none⟩), v] 91 (0, 0)) ∧ w'.ownsRow base 5 1 v bs.length bs ∧ v.ownBlock ≠ some b) ∧ impl_hexText.Kb base b w w') := by
  obtain ⟨p, v, h1, h2, h3, h4⟩ := h
  have hlt : b < w.heap.size := (Array.getElem?_eq_some_iff.1 h2).1
  rcases h1 with rfl | rfl
  · refine (impl_hexText.ccFresh b w (by rw [Go.Lib.cell_of_heap h2]; rfl) (by simp [World.shape?, h2]) (Go.Lib.frozen_of_heap h2 0)).mono ?_
    rintro e w' ⟨rfl, rfl⟩
    refine ⟨rfl, ⟨v, ?_, own_move h3 (fun k hk => ?_), h4⟩, impl_hexText.setKb base b w 0 _ hlt⟩
    · simp [World.setCell, Array.getElem?_modify, h2]
    · have hkb : k ≠ b := fun e => h4 (by rw [hk, e])
      simp only [World.setCell, Array.getElem?_modify]
      rw [if_neg (fun e => hkb e.symm)]
  · refine (impl_hexText.ccUsed b w (by rw [Go.Lib.cell_of_heap h2]; rfl)).mono ?_
    rintro e w' ⟨rfl, rfl⟩
    exact ⟨rfl, ⟨v, h2, h3, h4⟩, fun _ _ _ => rfl, Nat.le_refl _, fun B _ _ => Below.refl B _⟩
set_option maxHeartbeats 2000000 in
set_option maxRecDepth 100000 in
theorem impl_hexText.write2 (base b : Nat) (acc s : ByteArray) (w : World) (h : impl_hexText.B2 base b (Go.Lib.byteCells acc.data.toList) w) (hlen : acc.size + s.size ≤ 140737488355328) (hBw : base ≤ w.heap.size) :
    Calls Tryz.prog 58 #[.pointer (some ⟨b, 0, none⟩), .string s] w fun e w' => e = .returned (.tuple #[.int .i64 s.size, .nilIface]) ∧ impl_hexText.B2 base b (Go.Lib.byteCells (acc ++ s).data.toList) w' ∧ impl_hexText.Kb base b w w' := by
  obtain ⟨i0, hi, hz0, hz1, hz2⟩ := info_parts Tryz.Builder_Extra_156.infoByte
  have hl : (Go.Lib.byteCells acc.data.toList).length = acc.size := by
    rw [Go.Lib.byteCells_length, Array.length_toList]
    rfl
  have hcat : Go.Lib.byteCells acc.data.toList ++ Go.Lib.strCells s = Go.Lib.byteCells (acc ++ s).data.toList := by
    rw [Go.Lib.strCells_eq, ← Go.Lib.byteCells_append, ByteArray.data_append, Array.toList_append]
  have HCAT := Aside0.mk hcat
  have HLL := Aside0.mk hl
  clear hcat
  generalize Go.Lib.byteCells acc.data.toList = bs at h hl HCAT HLL
  rw [← hl] at hlen
  clear hl
  go_enter Tryz.func58, Tryz.ntmps58
  go_wp2_with (go_at_call 102; refine (impl_hexText.cc2 base b bs _ h).mono ?_)
  rintro e w1 ⟨rfl, ⟨v, hbk, hown, hne⟩, hk1⟩
  have HK1 := Aside0.mk hk1
  have hsz1 : w.heap.size ≤ w1.heap.size := hk1.2.1
  clear hk1
  have c0 : w1.cell? ⟨b, 0, none⟩ = some (.pointer (some ⟨b, 0, none⟩)) := by rw [Go.Lib.cell_of_heap hbk]; rfl
  have c1 : w1.cell? ⟨b, 1, none⟩ = some v := by rw [Go.Lib.cell_of_heap hbk]; rfl
  go_wp2_with (at_builtin; refine Go.Lib.wpList_append_own_string _ rfl _ _ 89 9 rfl base 5 i0 Tryz.underlying89 Tryz.underlying9 hi hz0 hz1 hz2 _ _ _ rfl hown s rfl ?c3 ?c4 ?c5 ?_)
  case c3 => unfold maxLen; omega
  case c4 => omega
  case c5 => omega
  intro v' w2 hown' hgrow _
  have hlt : b < w1.heap.size := (Array.getElem?_eq_some_iff.1 hbk).1
  have hb2 : w2.heap[b]? = some (.cells #[.pointer (some ⟨b, 0, none⟩), v] 91 (0, 0)) := by
    rw [hgrow.block b hlt (fun e => hne e.symm)]
    exact hbk
  have d0 : w2.cell? ⟨b, 0, none⟩ = some (.pointer (some ⟨b, 0, none⟩)) := by rw [Go.Lib.cell_of_heap hb2]; rfl
  have d1 : w2.cell? ⟨b, 1, none⟩ = some v := by rw [Go.Lib.cell_of_heap hb2]; rfl
  have f1 : w2.frozen? ⟨b, 1, none⟩ = false := Go.Lib.frozen_of_heap hb2 1
  obtain ⟨ao, n', cap, rfl⟩ : ∃ ao n' cap, v' = .slice ao n' cap := by
    rcases hown'.2 with ⟨hv, _⟩ | ⟨g, cap, cur, hv, _⟩
    · exact ⟨_, _, _, hv⟩
    · exact ⟨_, _, _, hv⟩
  go_wp2
  go_ret2
  have hlt2 : b < w2.heap.size := (Array.getElem?_eq_some_iff.1 hb2).1
  have hne' : (Value.slice ao n' cap).ownBlock ≠ some b := Go.Lib.ownBlock_ne hown' hb2 (by decide)
  refine ⟨rfl, ⟨.pointer (some ⟨b, 0, none⟩), .slice ao n' cap, .inr rfl, ?_, ?_, hne'⟩, ?_⟩
  · simp [World.setCell, Array.getElem?_modify, hb2]
  · have := own_move (w1 := w2.setCell ⟨b, 1, none⟩ (.slice ao n' cap)) hown' (fun k hk => by
      have hkb : k ≠ b := fun e => hne' (by rw [hk, e])
      simp only [World.setCell, Array.getElem?_modify]
      rw [if_neg (fun e => hkb e.symm)])
    rw [HCAT.out] at this
    have hlc : (Go.Lib.byteCells (acc ++ s).data.toList).length = bs.length + s.size := by
      rw [← HCAT.out, List.length_append, Go.Lib.strCells_length]
    rw [hlc]
    exact this
  · refine HK1.out.step (impl_hexText.Kb.step (w1 := w2) ⟨fun k hk hkb => ?_, hgrow.size, fun B h1 h2 => (Below.refl B w1).grown hgrow (by omega) (fun k hk => by have := (hown.lt k hk).1; omega)⟩ (impl_hexText.setKb base b w2 1 _ hlt2))
    refine hgrow.block k (by omega) ?_
    intro e
    have := (hown.lt k e.symm).1
    omega
def impl_hexText.go : List UInt8 → ByteArray → Option ByteArray
  | [], acc => some acc
  | c :: r, acc => (impl_hexDigits.f (c.toNat : Int) 2).bind fun t => if acc.size + t.size ≤ 140737488355328 then impl_hexText.go r (acc ++ t) else none
def impl_hexText.f (a0 : ByteArray) : Option ByteArray := if a0.size ≤ 1048576 then impl_hexText.go a0.data.toList (⟨#[]⟩ : ByteArray) else none
theorem impl_hexText.cells (s : ByteArray) (cap : Nat) (j : Nat) (c : UInt8) (r : List UInt8) (h : s.data.toList.drop j = c :: r) : (bytesRow s cap)[j]? = some (.int .u8 (c.toNat : Int)) := by
  have hj : j < s.data.toList.length := by
    rcases Nat.lt_or_ge j s.data.toList.length with h1 | h1
    · exact h1
    · rw [List.drop_eq_nil_of_le h1] at h
      cases h
  have hc : s.data.toList[j]? = some c := by
    rw [List.drop_eq_getElem_cons hj] at h
    rw [List.getElem?_eq_getElem hj, (List.cons.inj h).1]
  unfold bytesRow
  rw [Array.getElem?_append_left (by rw [Array.size_map]; rw [Array.length_toList] at hj; exact hj), Array.getElem?_map]
  rw [Array.getElem?_toList] at hc
  rw [hc]
  rfl
set_option maxHeartbeats 8000000 in
set_option maxRecDepth 100000 in
theorem impl_hexText.calls (a0 : ByteArray) (r : ByteArray) (w : World) (hG : GW w) (h : impl_hexText.f a0 = some r) :
 Calls Tryz.prog 61 #[.string a0] w fun e w' => e = .returned (.string r) ∧ Below w.heap.size w w' := by
 have hbig : a0.size ≤ 1048576 := by
  unfold impl_hexText.f at h
  split at h
  ·assumption
  ·cases h
 have hcv := run_bytes_of_string (P := Tryz.prog) (w.alloc (.cells #[.pointer none, .slice none 0 0] 91)) 9 89 5 a0 Tryz.underlying9 Tryz.underlying89 Tryz.underlying5
 generalize grownCap (w.alloc (.cells #[.pointer none, .slice none 0 0] 91)) a0.size 0 5 = cap at hcv
 have hlen : a0.data.toList.length = a0.size := by rw [Array.length_toList]; rfl
 have HL := Aside0.mk hlen
 have HG := Aside0.mk hG
 have HF := Aside0.mk (show impl_hexText.go a0.data.toList (⟨#[]⟩ : ByteArray) = some r by unfold impl_hexText.f at h; rw [if_pos hbig] at h; exact h)
 clear hG h hlen
 go_enter Tryz.func61, Tryz.ntmps61
 go_wp2
 have hw0 : w.heap.size + 1 < ((w.alloc (.cells #[.pointer none, .slice none 0 0] 91)).alloc (.cells (bytesRow a0 cap) 5 ((bytesRow a0 cap).size, (bytesRow a0 cap).size + 1))).drew.heap.size := by simp
 have HB2 := Aside0.mk (show impl_hexText.B2 (w.heap.size + 2) w.heap.size (Go.Lib.byteCells (⟨#[]⟩ : ByteArray).data.toList) ((w.alloc (.cells #[.pointer none, .slice none 0 0] 91)).alloc (.cells (bytesRow a0 cap) 5 ((bytesRow a0 cap).size, (bytesRow a0 cap).size + 1))).drew from ⟨.pointer none, .slice none 0 0, .inl rfl, by
  show ((w.heap.push _).push _)[w.heap.size]? = _
  rw [Array.getElem?_push_lt (by simp)]
  simp, ⟨rfl, .inl ⟨rfl, rfl⟩⟩, by simp [Value.ownBlock]⟩)
 have HBK := Aside0.mk (show ((w.alloc (.cells #[.pointer none, .slice none 0 0] 91)).alloc (.cells (bytesRow a0 cap) 5 ((bytesRow a0 cap).size, (bytesRow a0 cap).size + 1))).drew.heap[w.heap.size + 1]? = some (.cells (bytesRow a0 cap) 5 ((bytesRow a0 cap).size, (bytesRow a0 cap).size + 1)) from by
  show ((w.heap.push _).push _)[w.heap.size + 1]? = _
  rw [show w.heap.size + 1 = (w.heap.push (.cells #[.pointer none, .slice none 0 0] 91 (0, 0))).size by simp, Array.getElem?_push_size])
 have HBE := Aside0.mk (show Below w.heap.size w ((w.alloc (.cells #[.pointer none, .slice none 0 0] 91)).alloc (.cells (bytesRow a0 cap) 5 ((bytesRow a0 cap).size, (bytesRow a0 cap).size + 1))).drew from by repeat (first | exact Below.refl _ _ | apply below_alloc | apply pw_below_drewN | apply below_drew))
 have HSZ := Aside0.mk hw0
 clear hcv hw0
 generalize hN : w.heap.size + 1 = N1 at HBK HSZ ⊢
 generalize ((w.alloc (.cells #[.pointer none, .slice none 0 0] 91)).alloc (.cells (bytesRow a0 cap) 5 ((bytesRow a0 cap).size, (bytesRow a0 cap).size + 1))).drew = w1 at HB2 HBK HBE HSZ ⊢
 go_loopg [5, 9] a0.size (fun gg _ s9 wr => ∃ (kk : Nat) (acc : ByteArray), kk ≤ a0.size ∧ a0.size - kk ≤ gg ∧ s9 = .int .i64 kk ∧ Aside0 (Below w.heap.size w wr) ∧ Aside0 (impl_hexText.B2 (w.heap.size + 2) w.heap.size (Go.Lib.byteCells acc.data.toList) wr) ∧ Aside0 (wr.heap[N1]? = some (.cells (bytesRow a0 cap) 5 ((bytesRow a0 cap).size, (bytesRow a0 cap).size + 1))) ∧ Aside0 (N1 < wr.heap.size) ∧ Aside0 (impl_hexText.go (a0.data.toList.drop kk) acc = some r))
 case atStart => exact ⟨0, ⟨#[]⟩, Nat.zero_le _, by omega, rfl, HBE, HB2, HBK, HSZ, HF⟩
 case round =>
  clear HF HB2 HBE HBK HSZ w1
  obtain ⟨kk, acc, hkk, hg, rfl, HB, HB2, HBK, HSZ, HA⟩ := hrel
  by_cases hlt : kk < a0.size
  ·have hltz : (kk : Int) < (a0.size : Int) := by omega
   obtain ⟨c, rest, hd⟩ : ∃ c rest, a0.data.toList.drop kk = c :: rest := by
    cases hq : a0.data.toList.drop kk with
    | nil =>
     have := congrArg List.length hq
     rw [List.length_drop, HL.out] at this
     simp at this
     omega
    | cons c rest => exact ⟨c, rest, rfl⟩
   have hrest : rest = a0.data.toList.drop (kk + 1) := by
    rw [← List.drop_drop, hd]
    rfl
   have hcell : wr.cell? ⟨N1, kk, none⟩ = some (.int .u8 (c.toNat : Int)) := by
    rw [Go.Lib.cell_of_heap HBK.out]
    exact impl_hexText.cells a0 cap kk c rest hd
   have HA1 := HA.out
   rw [hd, impl_hexText.go] at HA1
   obtain ⟨t, ht, HA2⟩ := Option.bind_eq_some_iff.1 HA1
   by_cases hs : acc.size + t.size ≤ 140737488355328
   ·rw [if_pos hs] at HA2
    rw [hrest] at HA2
    have HT := Aside0.mk ht
    have HA3 := Aside0.mk HA2
    have ZS := Aside0.mk hs
    have hc0 : (0 : Int) ≤ (c.toNat : Int) := by omega
    have hc1 : (c.toNat : Int) ≤ 255 := by have := c.toNat_lt; omega
    clear hd hrest HA HA1 HA2 ht hs
    go_wp2_with (first | (go_at_call 104; ((with_reducible refine (impl_hexDigits.calls (c.toNat : Int) 2 t _ ?hg HT.out).mono ?_); (case hg => exact GW.below HG.out (by repeat (first | exact HB.out | apply below_alloc | apply pw_below_drewN | apply below_drew1))); rintro e w' ⟨rfl, hb⟩; have HBn := Aside0.mk (below_step HB.out hb); have HB2n := Aside0.mk (impl_hexText.B2.below HB2.out hb); have HBKn := Aside0.mk ((hb.block N1 HSZ.out).trans HBK.out); have HSZn := Aside0.mk (Nat.lt_of_lt_of_le HSZ.out hb.size); clear HB HB2 HBK HSZ hb; have HB := HBn; have HB2 := HB2n; have HBK := HBKn; have HSZ := HSZn; clear HBn HB2n HBKn HSZn)) | (go_at_call 58; ((with_reducible refine (impl_hexText.write2 (w.heap.size + 2) w.heap.size acc t _ HB2.out ZS.out ?hw).mono ?_); (case hw => have := HSZ.out; omega); rintro e w' ⟨rfl, hb2, hk⟩; have HBn := Aside0.mk (Below.trans HB.out (hk.2.2 w.heap.size (Nat.le_refl _) (by omega))); have HB2n := Aside0.mk hb2; have HBKn := Aside0.mk ((hk.1 N1 (by omega) (by omega)).trans HBK.out); have HSZn := Aside0.mk (Nat.lt_of_lt_of_le HSZ.out hk.2.1); clear HB HB2 HBK HSZ hb2 hk; have HB := HBn; have HB2 := HB2n; have HBK := HBKn; have HSZ := HSZn; clear HBn HB2n HBKn HSZn)))
    go_roundg (a0.size - (kk + 1))
    case measure => omega
    case rel => exact ⟨kk + 1, acc ++ t, by omega, by omega, by go_num, HB, HB2, HBK, HSZ, HA3⟩
   ·rw [if_neg hs] at HA2
    cases HA2
  ·have hltz : ¬ (kk : Int) < (a0.size : Int) := by omega
   have hr_ : acc = r := by
    have := HA.out
    rw [List.drop_eq_nil_of_le (by rw [HL.out]; omega), impl_hexText.go] at this
    exact Option.some.inj this
   subst hr_
   clear HA
   have HIS := Aside0.mk (impl_hexText.B2.is HB2.out (by omega))
   go_wp2_with (go_at_call 63; refine (Tryz.Builder_String_any w.heap.size w.heap.size acc.data.toList _ HIS.out ?hw).mono ?_; (case hw => have := HSZ.out; omega); rintro e w' ⟨rfl, hb⟩)
   (first | go_ret | (apply bodyPost_ret; (exact results_tmp rfl _ _ _); rfl))
   exact ⟨rfl, Below.trans HB.out hb⟩

def strings_Split.f (a0 a1 : ByteArray) : Option (List ByteArray) := if a0.size < 4294967281 then (if 1 ≤ a1.size then some (Go.Lib.splitB a1 0 (Go.Lib.countB a0 a1) a0) else none) else none
open Go.Proofs.YtlacpadpdfccmaaGreatDoor.Aid in
theorem strings_Split.calls (a0 a1 : ByteArray) (r : List ByteArray) (w : World) (hG : GW w) (h : strings_Split.f a0 a1 = some r) :
 Calls Tryz.prog 29 #[.string a0, .string a1] w fun e w' => ∃ v0_ : Value, e = .returned (v0_) ∧ Kd.R Kd.string 9 w' w.heap.size (fun _ => True) v0_ r ∧ Below w.heap.size w w' := by
 unfold strings_Split.f at h
 by_cases h0 : a0.size < 4294967281
 ·by_cases h1 : 1 ≤ a1.size
  ·rw [if_pos h0, if_pos h1] at h
   obtain rfl := Option.some.inj h
   obtain ⟨m, hm⟩ := hG.maxlen
   refine (Tryz.strings_Split a0 a1 m w h0 hm h1).mono ?_
   rintro e w' ⟨rfl, rfl⟩
   have hlen := Go.Lib.splitB_all a1 h1 0 _ a0 rfl
   have hle := Go.Lib.countB_le a1 h1 a0.size a0 (Nat.le_refl _)
   refine ⟨_, rfl, ?_, below_alloc (Below.refl _ _) _⟩
   have := R_of_cells (e := 9) (base := w.heap.size) (g := w.heap.size) (cap := Go.Lib.countB a0 a1 + 1) (W := w.alloc (.cells ((Go.Lib.splitB a1 0 (Go.Lib.countB a0 a1) a0).map Value.string).toArray 9)) (ok := fun _ => True) (cur := ((Go.Lib.splitB a1 0 (Go.Lib.countB a0 a1) a0).map Value.string).toArray) (Go.Lib.splitB a1 0 (Go.Lib.countB a0 a1) a0) (Nat.le_refl _) trivial (by show (w.heap.push _)[w.heap.size]? = _; rw [Array.getElem?_push_size]) (by omega) (by unfold maxLen; omega) (by simp [hlen]) (by rw [List.take_of_length_le (by simp)])
   rw [hlen] at this
   exact this
  ·rw [if_pos h0, if_neg h1] at h
   cases h
 ·rw [if_neg h0] at h
  cases h

def impl_opWords.f  : Option (List ByteArray) := (strings_Split.f (⟨#[110, 101, 103, 32, 110, 111, 116, 32, 104, 105, 103, 104, 32, 108, 111, 119, 32, 43, 32, 45, 32, 42, 32, 47, 32, 37, 32, 38, 32, 94, 32, 124, 32, 60, 60, 32, 62, 62]⟩ : ByteArray) (⟨#[32]⟩ : ByteArray)).bind fun t344 => (some t344)
set_option maxHeartbeats 8000000 in
set_option maxRecDepth 100000 in
theorem impl_opWords.calls  (r : List ByteArray) (w : World) (hG : GW w) (h : impl_opWords.f  = some r) :
 Calls Tryz.prog 105 #[] w fun e w' => ∃ v0_ : Value, e = .returned (v0_) ∧ Kd.R Kd.string 9 w' w.heap.size (fun _ => True) v0_ r ∧ Below w.heap.size w w' := by
 have HB := Aside0.mk (Below.refl w.heap.size w)
 have HG := Aside0.mk hG
 clear hG
 have H : ((strings_Split.f (⟨#[110, 101, 103, 32, 110, 111, 116, 32, 104, 105, 103, 104, 32, 108, 111, 119, 32, 43, 32, 45, 32, 42, 32, 47, 32, 37, 32, 38, 32, 94, 32, 124, 32, 60, 60, 32, 62, 62]⟩ : ByteArray) (⟨#[32]⟩ : ByteArray)).bind fun t344 => (some t344)) = some r := h
 clear h
 obtain ⟨t344, A10, H⟩ := Option.bind_eq_some_iff.mp H
 have A1 := Aside0.mk A10
 clear A10
 obtain rfl := Option.some.inj H
 go_enter Tryz.func105, Tryz.ntmps105
 go_wp2_with (first | ((with_reducible refine gate_callee (f := 29) rfl ?_); refine zc (some 1) Tryz.func29 #[.string (⟨#[110, 101, 103, 32, 110, 111, 116, 32, 104, 105, 103, 104, 32, 108, 111, 119, 32, 43, 32, 45, 32, 42, 32, 47, 32, 37, 32, 38, 32, 94, 32, 124, 32, 60, 60, 32, 62, 62]⟩ : ByteArray), .string (⟨#[32]⟩ : ByteArray)] ?_; (with_reducible refine (strings_Split.calls (⟨#[110, 101, 103, 32, 110, 111, 116, 32, 104, 105, 103, 104, 32, 108, 111, 119, 32, 43, 32, 45, 32, 42, 32, 47, 32, 37, 32, 38, 32, 94, 32, 124, 32, 60, 60, 32, 62, 62]⟩ : ByteArray) (⟨#[32]⟩ : ByteArray) t344 _ ?side1 A1.out).mono ?_); (case side1 => exact GW.below HG.out (zb _)); rintro e w2 ⟨v345, rfl, ho0, hb⟩; refine ⟨_, rfl, ?_⟩; have HO346 := Aside0.mk (Kd.R_lower ho0 (below_size (zb _))); replace HB := zt w hb; (try clear hb); (try clear hb2); (try clear hk); (try clear hi); (try clear ho0)))
 go_ret
 exact ⟨_, by first | rfl | (simp [errW_none, errW_some] <;> rfl) | (simp [*, errW_none, errW_some] <;> rfl), by (with_reducible repeat (first | apply Kd.R_alloc | apply Kd.R_drewN | apply Kd.R_drew)); exact HO346.out, zb _⟩

end Go.Proofs.YtlacpadpdfccmaaGreatDoor.PFnExactObjectText
