/- What the Go functions that the law FnExactObjectOk reaches compute, function by function, and that Go comes to just that. -/
import Derived.Test.YtbbngeooodcbcaaPFnExactObjectOkx0
import Derived.Test.YtbbngeooodcbcaaAidZ
import Derived.Test.YtbbngeooodcbcaaPFnExactObjectOkx2
import Derived.Test.YtbbngeooodcbcaaPFnExactObjectOkx3
import Derived.Test.YtbbngeooodcbcaaPFnExactObjectOkx4
namespace Go.Proofs.Ytbbngeooodcbcaa.PFnExactObjectOk
open Go.RowKit Go.Proofs.Ytbbngeooodcbcaa.Z Go.Proofs.YtbbngeooodcbcaaW.PrintWords Go.Proofs.YtbbngeooodcbcaaW.PrintLast Go.Proofs.YtbbngeooodcbcaaW.PrintMore
attribute [local go_sem] max2_int min2_int max_two min_two max_three min_three max_four min_four   -- for this text's walks alone
set_option linter.unusedVariables false
set_option linter.unusedSimpArgs false

/-! ### spec_ObjectOk: function 5 -/
mutual
def spec_ObjectOk.j0 : Nat → Bool → List (S43) → List (S45) → List (List (S74)) → Option (Bool)
  | 0, _, _, _, _ => none
  | k + 1, x22, x152000, x152001, x152002 => if x22 = true then (some false) else (spec_ObjectOk.l0 k 0 x152000 x152001 x152002)
def spec_ObjectOk.l0 : Nat → Int → List (S43) → List (S45) → List (List (S74)) → Option (Bool)
  | 0, _, _, _, _ => none
  | k + 1, x3, x152000, x152001, x152002 => if x3 < (x152000.length : Int) then (if 0 ≤ x3 then ((spec_SectionOk.f k ((rd_T43 x152000 x3).f0) ((rd_T43 x152000 x3).f1) ((rd_T43 x152000 x3).f2) ((rd_T43 x152000 x3).f3) ((rd_T43 x152000 x3).f4) ((rd_T43 x152000 x3).f5)).bind fun t153 => (if t153 = true then (spec_ObjectOk.l0 k (wrap64 (x3 + 1)) x152000 x152001 x152002) else (some false))) else (none)) else (spec_ObjectOk.l1 k 0 x152000 x152001 x152002)
def spec_ObjectOk.l1 : Nat → Int → List (S43) → List (S45) → List (List (S74)) → Option (Bool)
  | 0, _, _, _, _ => none
  | k + 1, x4, x152000, x152001, x152002 => if x4 < (x152001.length : Int) then (if 0 ≤ x4 then ((spec_NameOk.f k ((rd_T45 x152001 x4).f0)).bind fun t156 => (if t156 = true then (if x4 > 0 then (if 0 ≤ (wrap64 (x4 - 1)) then (if (wrap64 (x4 - 1)) < (x152001.length : Int) then (if ((Op.bytesLess (((rd_T45 x152001 (wrap64 (x4 - 1))).f0).toList) (((rd_T45 x152001 x4).f0).toList)) = true) then ((spec_l1In.f ((rd_T45 x152001 x4).f1) (-1) (wrap64 ((x152000.length : Int) - 1))).bind fun t158 => (spec_ObjectOk.j3 k x4 (!t158) x152000 x152001 x152002 ((rd_T45 x152001 x4).f0) ((rd_T45 x152001 x4).f1) ((rd_T45 x152001 x4).f2) ((rd_T45 x152001 x4).f3))) else (spec_ObjectOk.j3 k x4 true x152000 x152001 x152002 ((rd_T45 x152001 x4).f0) ((rd_T45 x152001 x4).f1) ((rd_T45 x152001 x4).f2) ((rd_T45 x152001 x4).f3))) else (none)) else (none)) else ((spec_l1In.f ((rd_T45 x152001 x4).f1) (-1) (wrap64 ((x152000.length : Int) - 1))).bind fun t159 => (spec_ObjectOk.j3 k x4 (!t159) x152000 x152001 x152002 ((rd_T45 x152001 x4).f0) ((rd_T45 x152001 x4).f1) ((rd_T45 x152001 x4).f2) ((rd_T45 x152001 x4).f3)))) else (spec_ObjectOk.j3 k x4 true x152000 x152001 x152002 ((rd_T45 x152001 x4).f0) ((rd_T45 x152001 x4).f1) ((rd_T45 x152001 x4).f2) ((rd_T45 x152001 x4).f3)))) else (none)) else (spec_ObjectOk.l2 k 0 x152000 x152001 x152002)
def spec_ObjectOk.j3 : Nat → Int → Bool → List (S43) → List (S45) → List (List (S74)) → ByteArray → Int → Int → Bool → Option (Bool)
  | 0, _, _, _, _, _, _, _, _, _ => none
  | k + 1, x4, x78, x152000, x152001, x152002, x156000, x156001, x156002, x156003 => if x78 = true then (some false) else (if x156001 ≥ 0 then (if 0 ≤ x156001 then (if x156001 < (x152000.length : Int) then ((spec_l1In.f x156002 0 (((rd_T43 x152000 x156001).f4).size : Int)).bind fun t161 => (if t161 = true then (if x156001 < 0 then ((spec_l1In.f x156002 (-2147483648) 2147483647).bind fun t162 => (if t162 = true then (spec_ObjectOk.l1 k (wrap64 (x4 + 1)) x152000 x152001 x152002) else (some false))) else (spec_ObjectOk.l1 k (wrap64 (x4 + 1)) x152000 x152001 x152002)) else (some false))) else (none)) else (none)) else (if x156001 < 0 then ((spec_l1In.f x156002 (-2147483648) 2147483647).bind fun t163 => (if t163 = true then (spec_ObjectOk.l1 k (wrap64 (x4 + 1)) x152000 x152001 x152002) else (some false))) else (spec_ObjectOk.l1 k (wrap64 (x4 + 1)) x152000 x152001 x152002)))
def spec_ObjectOk.l2 : Nat → Int → List (S43) → List (S45) → List (List (S74)) → Option (Bool)
  | 0, _, _, _, _ => none
  | k + 1, x6, x152000, x152001, x152002 => if x6 < (x152002.length : Int) then (if 0 ≤ x6 then ((spec_ExprOk.f k (rd_L10 x152002 x6)).bind fun t165 => (if t165 = true then (spec_ObjectOk.l2 k (wrap64 (x6 + 1)) x152000 x152001 x152002) else (some false))) else (none)) else (some true)
end
def spec_ObjectOk.f (k : Nat) (l0_0 : List (S43)) (l0_1 : List (S45)) (l0_2 : List (List (S74))) : Option (Bool) := if (l0_0.length : Int) > 12 then (spec_ObjectOk.j0 k true l0_0 l0_1 l0_2) else (if (l0_1.length : Int) > 200 then (spec_ObjectOk.j0 k true l0_0 l0_1 l0_2) else (spec_ObjectOk.j0 k (decide ((l0_2.length : Int) > 12)) l0_0 l0_1 l0_2))
theorem spec_ObjectOk.mono_l : ∀ k, (∀ y0 y1 y2 y3, LeO (spec_ObjectOk.j0 k y0 y1 y2 y3) (spec_ObjectOk.j0 (k + 1) y0 y1 y2 y3)) ∧ (∀ y0 y1 y2 y3, LeO (spec_ObjectOk.l0 k y0 y1 y2 y3) (spec_ObjectOk.l0 (k + 1) y0 y1 y2 y3)) ∧ (∀ y0 y1 y2 y3, LeO (spec_ObjectOk.l1 k y0 y1 y2 y3) (spec_ObjectOk.l1 (k + 1) y0 y1 y2 y3)) ∧ (∀ y0 y1 y2 y3 y4 y5 y6 y7 y8, LeO (spec_ObjectOk.j3 k y0 y1 y2 y3 y4 y5 y6 y7 y8) (spec_ObjectOk.j3 (k + 1) y0 y1 y2 y3 y4 y5 y6 y7 y8)) ∧ (∀ y0 y1 y2 y3, LeO (spec_ObjectOk.l2 k y0 y1 y2 y3) (spec_ObjectOk.l2 (k + 1) y0 y1 y2 y3))
  | 0 => ⟨fun _ _ _ _ r h => by simp [spec_ObjectOk.j0] at h, fun _ _ _ _ r h => by simp [spec_ObjectOk.l0] at h, fun _ _ _ _ r h => by simp [spec_ObjectOk.l1] at h, fun _ _ _ _ _ _ _ _ _ r h => by simp [spec_ObjectOk.j3] at h, fun _ _ _ _ r h => by simp [spec_ObjectOk.l2] at h⟩
  | k + 1 => by
    obtain ⟨ih0, ih1, ih2, ih3, ih4⟩ := spec_ObjectOk.mono_l k
    refine ⟨?_, ?_, ?_, ?_, ?_⟩
    · intro y0 y1 y2 y3
      unfold spec_ObjectOk.j0
      repeat' first
      | (with_reducible exact ih0 _ _ _ _)
      | (with_reducible exact ih1 _ _ _ _)
      | (with_reducible exact ih2 _ _ _ _)
      | (with_reducible exact ih3 _ _ _ _ _ _ _ _ _)
      | (with_reducible exact ih4 _ _ _ _)
      | (with_reducible exact spec_ExprOk.mono _ _)
      | (with_reducible exact spec_NameOk.mono _ _)
      | (with_reducible exact spec_SectionOk.mono _ _ _ _ _ _ _)
      | (with_reducible exact LeO.refl _)
      | (with_reducible exact LeO.none _)
      | (with_reducible refine LeO.ite ?_ ?_)
      | (with_reducible refine LeO.bind ?_ (fun _ => ?_))
      | exact ih0 _ _ _ _
      | exact ih1 _ _ _ _
      | exact ih2 _ _ _ _
      | exact ih3 _ _ _ _ _ _ _ _ _
      | exact ih4 _ _ _ _
      | exact spec_ExprOk.mono _ _
      | exact spec_NameOk.mono _ _
      | exact spec_SectionOk.mono _ _ _ _ _ _ _
      | exact LeO.none _
      | refine LeO.ite ?_ ?_
      | refine LeO.bind ?_ (fun _ => ?_)
    · intro y0 y1 y2 y3
      unfold spec_ObjectOk.l0
      repeat' first
      | (with_reducible exact ih0 _ _ _ _)
      | (with_reducible exact ih1 _ _ _ _)
      | (with_reducible exact ih2 _ _ _ _)
      | (with_reducible exact ih3 _ _ _ _ _ _ _ _ _)
      | (with_reducible exact ih4 _ _ _ _)
      | (with_reducible exact spec_ExprOk.mono _ _)
      | (with_reducible exact spec_NameOk.mono _ _)
      | (with_reducible exact spec_SectionOk.mono _ _ _ _ _ _ _)
      | (with_reducible exact LeO.refl _)
      | (with_reducible exact LeO.none _)
      | (with_reducible refine LeO.ite ?_ ?_)
      | (with_reducible refine LeO.bind ?_ (fun _ => ?_))
      | exact ih0 _ _ _ _
      | exact ih1 _ _ _ _
      | exact ih2 _ _ _ _
      | exact ih3 _ _ _ _ _ _ _ _ _
      | exact ih4 _ _ _ _
      | exact spec_ExprOk.mono _ _
      | exact spec_NameOk.mono _ _
      | exact spec_SectionOk.mono _ _ _ _ _ _ _
      | exact LeO.none _
      | refine LeO.ite ?_ ?_
      | refine LeO.bind ?_ (fun _ => ?_)
    · intro y0 y1 y2 y3
      unfold spec_ObjectOk.l1
      repeat' first
      | (with_reducible exact ih0 _ _ _ _)
      | (with_reducible exact ih1 _ _ _ _)
      | (with_reducible exact ih2 _ _ _ _)
      | (with_reducible exact ih3 _ _ _ _ _ _ _ _ _)
      | (with_reducible exact ih4 _ _ _ _)
      | (with_reducible exact spec_ExprOk.mono _ _)
      | (with_reducible exact spec_NameOk.mono _ _)
      | (with_reducible exact spec_SectionOk.mono _ _ _ _ _ _ _)
      | (with_reducible exact LeO.refl _)
      | (with_reducible exact LeO.none _)
      | (with_reducible refine LeO.ite ?_ ?_)
      | (with_reducible refine LeO.bind ?_ (fun _ => ?_))
      | exact ih0 _ _ _ _
      | exact ih1 _ _ _ _
      | exact ih2 _ _ _ _
      | exact ih3 _ _ _ _ _ _ _ _ _
      | exact ih4 _ _ _ _
      | exact spec_ExprOk.mono _ _
      | exact spec_NameOk.mono _ _
      | exact spec_SectionOk.mono _ _ _ _ _ _ _
      | exact LeO.none _
      | refine LeO.ite ?_ ?_
      | refine LeO.bind ?_ (fun _ => ?_)
    · intro y0 y1 y2 y3 y4 y5 y6 y7 y8
      unfold spec_ObjectOk.j3
      repeat' first
      | (with_reducible exact ih0 _ _ _ _)
      | (with_reducible exact ih1 _ _ _ _)
      | (with_reducible exact ih2 _ _ _ _)
      | (with_reducible exact ih3 _ _ _ _ _ _ _ _ _)
      | (with_reducible exact ih4 _ _ _ _)
      | (with_reducible exact spec_ExprOk.mono _ _)
      | (with_reducible exact spec_NameOk.mono _ _)
      | (with_reducible exact spec_SectionOk.mono _ _ _ _ _ _ _)
      | (with_reducible exact LeO.refl _)
      | (with_reducible exact LeO.none _)
      | (with_reducible refine LeO.ite ?_ ?_)
      | (with_reducible refine LeO.bind ?_ (fun _ => ?_))
      | exact ih0 _ _ _ _
      | exact ih1 _ _ _ _
      | exact ih2 _ _ _ _
      | exact ih3 _ _ _ _ _ _ _ _ _
      | exact ih4 _ _ _ _
      | exact spec_ExprOk.mono _ _
      | exact spec_NameOk.mono _ _
      | exact spec_SectionOk.mono _ _ _ _ _ _ _
      | exact LeO.none _
      | refine LeO.ite ?_ ?_
      | refine LeO.bind ?_ (fun _ => ?_)
    · intro y0 y1 y2 y3
      unfold spec_ObjectOk.l2
      repeat' first
      | (with_reducible exact ih0 _ _ _ _)
      | (with_reducible exact ih1 _ _ _ _)
      | (with_reducible exact ih2 _ _ _ _)
      | (with_reducible exact ih3 _ _ _ _ _ _ _ _ _)
      | (with_reducible exact ih4 _ _ _ _)
      | (with_reducible exact spec_ExprOk.mono _ _)
      | (with_reducible exact spec_NameOk.mono _ _)
      | (with_reducible exact spec_SectionOk.mono _ _ _ _ _ _ _)
      | (with_reducible exact LeO.refl _)
      | (with_reducible exact LeO.none _)
      | (with_reducible refine LeO.ite ?_ ?_)
      | (with_reducible refine LeO.bind ?_ (fun _ => ?_))
      | exact ih0 _ _ _ _
      | exact ih1 _ _ _ _
      | exact ih2 _ _ _ _
      | exact ih3 _ _ _ _ _ _ _ _ _
      | exact ih4 _ _ _ _
      | exact spec_ExprOk.mono _ _
      | exact spec_NameOk.mono _ _
      | exact spec_SectionOk.mono _ _ _ _ _ _ _
      | exact LeO.none _
      | refine LeO.ite ?_ ?_
      | refine LeO.bind ?_ (fun _ => ?_)
theorem spec_ObjectOk.mono : ∀ a0 a1 a2 k, LeO (spec_ObjectOk.f k a0 a1 a2) (spec_ObjectOk.f (k + 1) a0 a1 a2) := by
  intro a0 a1 a2 k
  obtain ⟨ih0, ih1, ih2, ih3, ih4⟩ := spec_ObjectOk.mono_l k
  unfold spec_ObjectOk.f
  repeat' first
      | (with_reducible exact ih0 _ _ _ _)
      | (with_reducible exact ih1 _ _ _ _)
      | (with_reducible exact ih2 _ _ _ _)
      | (with_reducible exact ih3 _ _ _ _ _ _ _ _ _)
      | (with_reducible exact ih4 _ _ _ _)
      | (with_reducible exact spec_ExprOk.mono _ _)
      | (with_reducible exact spec_NameOk.mono _ _)
      | (with_reducible exact spec_SectionOk.mono _ _ _ _ _ _ _)
      | (with_reducible exact LeO.refl _)
      | (with_reducible exact LeO.none _)
      | (with_reducible refine LeO.ite ?_ ?_)
      | (with_reducible refine LeO.bind ?_ (fun _ => ?_))
      | exact ih0 _ _ _ _
      | exact ih1 _ _ _ _
      | exact ih2 _ _ _ _
      | exact ih3 _ _ _ _ _ _ _ _ _
      | exact ih4 _ _ _ _
      | exact spec_ExprOk.mono _ _
      | exact spec_NameOk.mono _ _
      | exact spec_SectionOk.mono _ _ _ _ _ _ _
      | exact LeO.none _
      | refine LeO.ite ?_ ?_
      | refine LeO.bind ?_ (fun _ => ?_)
def spec_ObjectOk.T12 : Bool × List (List Nat × List Nat) := (true, [([], []), ([0], [0]), ([1], [1]), ([2], [2]), ([3, 2], [3]), ([4], [4]), ([5, 4], [4, 5]), ([6, 4, 4], [4, 6]), ([7], [7]), ([8, 7], [7, 8]), ([7], [7]), ([10, 7], [7, 10]), ([9, 11, 7], [7, 9, 11]), ([12, 7], [7, 12]), ([13, 7], [7, 13]), ([7], [7]), ([15, 7], [7, 15]), ([14, 16, 7], [7, 14, 16]), ([7, 17, 4], [4, 7, 17]), ([4, 18], [4, 18]), ([19, 7], [19]), ([20], [20]), ([21, 20], [20, 21]), ([20], [20]), ([23, 20], [20, 23]), ([24, 20], [20, 24]), ([25, 20], [20, 25]), ([22, 26, 20, 20], [20, 22, 26]), ([27, 20], [20, 27]), ([20, 28], [20, 28])])
def spec_ObjectOk.B12 : List Nat := [0, 1, 3, 7, 15, 31, 63, 127, 255, 511, 255, 1279, 4095, 8191, 16383, 255, 33023, 131071, 262143, 524287, 1048575, 2097151, 4194303, 2097151, 10485759, 27262975, 60817407, 134217727, 268435455, 536870911]
theorem spec_ObjectOk.tab12 : rtab .any (opsOf Try.f5 12) = spec_ObjectOk.T12 := by kernel_rfl
theorem spec_ObjectOk.bits12 : waitsOk spec_ObjectOk.T12.2 spec_ObjectOk.B12 = true := by kernel_rfl
def spec_ObjectOk.T14 : Bool × List (List Nat × List Nat) := (true, [([], []), ([0], [0]), ([1], [1]), ([2], [2]), ([3], [3]), ([4, 3], [3, 4]), ([3], [3]), ([6, 3], [3, 6]), ([3], [3]), ([8, 3], [3, 8]), ([7, 9, 3], [3, 7, 9]), ([10, 3], [3, 10]), ([11, 3], [3, 11]), ([12, 3], [3, 12]), ([5, 13, 3, 3], [3, 5, 13]), ([14, 3], [3, 14]), ([3, 15], [3, 15]), ([16, 14], [16]), ([17], [17]), ([18, 17], [17, 18]), ([19, 17], [17, 19]), ([20, 17, 17], [17, 20]), ([21], [21]), ([22, 21], [21, 22]), ([23, 21, 21], [21, 23]), ([24, 21], [21, 24]), ([21, 25, 17], [17, 21, 25]), ([17, 26], [17, 26])])
def spec_ObjectOk.B14 : List Nat := [0, 1, 3, 7, 15, 31, 15, 79, 15, 271, 975, 1999, 4047, 8143, 16383, 32767, 65535, 131071, 262143, 524287, 1048575, 2097151, 4194303, 8388607, 16777215, 33554431, 67108863, 134217727]
theorem spec_ObjectOk.tab14 : rtab .any (opsOf Try.f5 14) = spec_ObjectOk.T14 := by kernel_rfl
theorem spec_ObjectOk.bits14 : waitsOk spec_ObjectOk.T14.2 spec_ObjectOk.B14 = true := by kernel_rfl
set_option maxHeartbeats 8000000 in
set_option maxRecDepth 100000 in
theorem spec_ObjectOk.calls (k : Nat) (A0_0 : Option Addr) (c0_0 : Nat) (l0_0 : List (S43)) (A0_1 : Option Addr) (c0_1 : Nat) (l0_1 : List (S45)) (A0_2 : Option Addr) (c0_2 : Nat) (l0_2 : List (List (S74))) (r : Bool) (w : World) (hr0_0 : Kd.C k43 w A0_0 l0_0.length l0_0) (hc0_0 : l0_0.length ≤ c0_0) (hr0_1 : Kd.C k45 w A0_1 l0_1.length l0_1) (hc0_1 : l0_1.length ≤ c0_1) (hr0_2 : Kd.C (Kd.slice 74 k74) w A0_2 l0_2.length l0_2) (hc0_2 : l0_2.length ≤ c0_2) (h : spec_ObjectOk.f k l0_0 l0_1 l0_2 = some r) :
 Calls Try.prog 5 #[.agg #[.slice A0_0 l0_0.length c0_0, .slice A0_1 l0_1.length c0_1, .slice A0_2 l0_2.length c0_2]] w fun e w' => e = .returned (.bool r) ∧ Below w.heap.size w w' := by
 have hu33 := Try.underlying33
 have hu43 := Try.underlying43
 have hu45 := Try.underlying45
 have HR0_0 := Aside0.mk hr0_0
 have HC0_0 := Aside0.mk hc0_0
 clear hr0_0 hc0_0
 have HR0_1 := Aside0.mk hr0_1
 have HC0_1 := Aside0.mk hc0_1
 clear hr0_1 hc0_1
 have HR0_2 := Aside0.mk hr0_2
 have HC0_2 := Aside0.mk hc0_2
 clear hr0_2 hc0_2
 have HB := Aside0.mk (Below.refl w.heap.size w)
 have H : (if (l0_0.length : Int) > 12 then (spec_ObjectOk.j0 k true l0_0 l0_1 l0_2) else (if (l0_1.length : Int) > 200 then (spec_ObjectOk.j0 k true l0_0 l0_1 l0_2) else (spec_ObjectOk.j0 k (decide ((l0_2.length : Int) > 12)) l0_0 l0_1 l0_2))) = some r := h
 clear h
 have HC2 := Aside0.mk H
 clear H
 go_enter Try.func5, Try.ntmps5
 go_upto_region 1 with (first | ((with_reducible refine gate_dst (N := 1) rfl ?_); (try (refine gate_guard (by rfl) ?_; dsimp only)); refine zbx 1 #[.slice A0_0 l0_0.length c0_0, .slice A0_1 l0_1.length c0_1, .slice A0_2 l0_2.length c0_2] 33 ?_; intro gb151 hg w3 hbox hb; have BK151 := Aside0.mk (hbox); have GW151 := zs w hg; have GE151 := GW151; replace HB := zt w hb; clear hb hbox hg))
 (try simp only [Act.put, List.setIfInBounds_toArray, List.set_cons_zero, List.set_cons_succ])
 go_cut [22] (fun v22 wc => ∃ (kq : Nat) (x22_1 : Bool), v22 = .bool x22_1 ∧ Aside0 (spec_ObjectOk.j0 kq x22_1 l0_0 l0_1 l0_2 = some r) ∧ Aside0 (kq ≤ k) ∧ Aside0 (wc.heap[gb151]? = some (.cells #[(.slice A0_0 l0_0.length c0_0), (.slice A0_1 l0_1.length c0_1), (.slice A0_2 l0_2.length c0_2)] 33 (0, 0))) ∧ Aside0 (Below w.heap.size w wc))
 case first =>
  have H := HC2.out
  clear HC2
  by_cases c4 : (l0_0.length : Int) > 12
  ·rw [if_pos c4] at H
   have c4b0 : decide (12 < (l0_0.length : Int)) = true := decide_eq_true c4
   have c4b1 : decide (12 < l0_0.length) = true := decide_eq_true (by omega)
   clear c4
   (first | rw [c4b0] | (simp only [i64_w, i32_w]; rw [c4b0]) | skip)
   have H' := Aside0.mk H
   clear H
   have hcz5_0 := zc0 BK151
   have hcz5_1 := zc1 BK151
   have hcz5_2 := zc2 BK151
   have hfz5_0 := blk_frozen BK151.out 0
   have hfz5_1 := blk_frozen BK151.out 1
   have hfz5_2 := blk_frozen BK151.out 2
   go_wp2
   go_meet
   case rel => exact ⟨_, (true), (zE _), H', ⟨by first | omega | exact Nat.le_refl _⟩, ⟨by (with_reducible repeat (first | refine blk_drewN ?_ _ | refine blk_drew ?_ | refine blk_alloc ?_ _)); exact BK151.out⟩, ⟨zb _⟩⟩
  ·rw [if_neg c4] at H
   have c4b0 : decide (12 < (l0_0.length : Int)) = false := decide_eq_false c4
   have c4b1 : decide (12 < l0_0.length) = false := decide_eq_false (by omega)
   clear c4
   (first | rw [c4b0] | (simp only [i64_w, i32_w]; rw [c4b0]) | skip)
   by_cases c6 : (l0_1.length : Int) > 200
   ·rw [if_pos c6] at H
    have c6b0 : decide (200 < (l0_1.length : Int)) = true := decide_eq_true c6
    have c6b1 : decide (200 < l0_1.length) = true := decide_eq_true (by omega)
    clear c6
    have H' := Aside0.mk H
    clear H
    have hcz7_0 := zc0 BK151
    have hcz7_1 := zc1 BK151
    have hcz7_2 := zc2 BK151
    have hfz7_0 := blk_frozen BK151.out 0
    have hfz7_1 := blk_frozen BK151.out 1
    have hfz7_2 := blk_frozen BK151.out 2
    go_wp2
    go_meet
    case rel => exact ⟨_, (true), (zE _), H', ⟨by first | omega | exact Nat.le_refl _⟩, ⟨by (with_reducible repeat (first | refine blk_drewN ?_ _ | refine blk_drew ?_ | refine blk_alloc ?_ _)); exact BK151.out⟩, ⟨zb _⟩⟩
   ·rw [if_neg c6] at H
    have c6b0 : decide (200 < (l0_1.length : Int)) = false := decide_eq_false c6
    have c6b1 : decide (200 < l0_1.length) = false := decide_eq_false (by omega)
    clear c6
    have H' := Aside0.mk H
    clear H
    have hcz8_0 := zc0 BK151
    have hcz8_1 := zc1 BK151
    have hcz8_2 := zc2 BK151
    have hfz8_0 := blk_frozen BK151.out 0
    have hfz8_1 := blk_frozen BK151.out 1
    have hfz8_2 := blk_frozen BK151.out 2
    go_wp2
    go_meet
    case rel => exact ⟨_, (decide ((l0_2.length : Int) > 12)), (zE _), H', ⟨by first | omega | exact Nat.le_refl _⟩, ⟨by (with_reducible repeat (first | refine blk_drewN ?_ _ | refine blk_drew ?_ | refine blk_alloc ?_ _)); exact BK151.out⟩, ⟨zb _⟩⟩
 case rest =>
  clear HC2
  try clear p2
  try clear c4
  try clear c4b0
  try clear c4b1
  try clear c5
  try clear c6
  try clear c6b0
  try clear c6b1
  try clear hcz5_0
  try clear hcz5_1
  try clear hcz5_2
  try clear hcz7_0
  try clear hcz7_1
  try clear hcz7_2
  try clear hcz8_0
  try clear hcz8_1
  try clear hcz8_2
  try clear hfz5_0
  try clear hfz5_1
  try clear hfz5_2
  try clear hfz7_0
  try clear hfz7_1
  try clear hfz7_2
  try clear hfz8_0
  try clear hfz8_1
  try clear hfz8_2
  obtain ⟨kq, x22_1, rfl, HA, HJ1, BK151, HB⟩ := hcut
  cases kq with
  | zero => exact absurd HA.out (by simp [spec_ObjectOk.j0])
  | succ kj1 =>
   have H := HA.out
   clear HA
   simp only [spec_ObjectOk.j0] at H
   by_cases c9 : x22_1 = true
   ·subst c9
    rw [if_pos rfl] at H
    obtain rfl := Option.some.inj H
    go_wp2
    go_ret
    exact ⟨ze _, zb _⟩
   ·replace c9 := Bool.eq_false_iff.mpr c9
    subst c9
    rw [if_neg (show ¬ (false = true) by decide)] at H
    have H' := Aside0.mk H
    clear H
    go_wp2
    go_loopg [3] kj1 (fun kq v3 w' => ∃ (x3_2 : Int), v3 = .int .i64 x3_2 ∧ Aside0 (spec_ObjectOk.l0 kq x3_2 l0_0 l0_1 l0_2 = some r) ∧ Aside0 (kq ≤ kj1) ∧ Aside0 (w'.heap[gb151]? = some (.cells #[(.slice A0_0 l0_0.length c0_0), (.slice A0_1 l0_1.length c0_1), (.slice A0_2 l0_2.length c0_2)] 33 (0, 0))) ∧ Aside0 (Below w.heap.size w w'))
    case atStart => exact ⟨(0), (zE _), H', ⟨Nat.le_refl _⟩, ⟨by (with_reducible repeat (first | refine blk_drewN ?_ _ | refine blk_drew ?_ | refine blk_alloc ?_ _)); exact BK151.out⟩, ⟨zb _⟩⟩
    case round =>
     clear H'
     try clear p2
     try clear c4
     try clear c4b0
     try clear c4b1
     try clear c5
     try clear c6
     try clear c6b0
     try clear c6b1
     try clear c9
     try clear hcz5_0
     try clear hcz5_1
     try clear hcz5_2
     try clear hcz7_0
     try clear hcz7_1
     try clear hcz7_2
     try clear hcz8_0
     try clear hcz8_1
     try clear hcz8_2
     try clear hfz5_0
     try clear hfz5_1
     try clear hfz5_2
     try clear hfz7_0
     try clear hfz7_1
     try clear hfz7_2
     try clear hfz8_0
     try clear hfz8_1
     try clear hfz8_2
     try clear p2
     obtain ⟨x3_2, rfl, HA, HK2, BK151, HB⟩ := hrel
     cases gk with
     | zero => exact absurd HA.out (by simp [spec_ObjectOk.l0])
     | succ k2 =>
      have H := HA.out
      clear HA
      simp only [spec_ObjectOk.l0] at H
      by_cases c10 : x3_2 < (l0_0.length : Int)
      ·rw [if_pos c10] at H
       have c10b0 : decide (x3_2 < (l0_0.length : Int)) = true := decide_eq_true c10
       clear c10
       by_cases c11 : 0 ≤ x3_2
       ·rw [if_pos c11] at H
        have c11b0 : decide (0 ≤ x3_2) = true := decide_eq_true c11
        clear c11
        obtain ⟨t153, A120, H⟩ := Option.bind_eq_some_iff.mp H
        have A12 := Aside0.mk A120
        clear A120
        by_cases c13 : t153 = true
        ·subst c13
         rw [if_pos rfl] at H
         have H' := Aside0.mk H
         clear H
         have hcz14_0 := zc0 BK151
         have hcz14_1 := zc1 BK151
         have hcz14_2 := zc2 BK151
         have hfz14_0 := blk_frozen BK151.out 0
         have hfz14_1 := blk_frozen BK151.out 1
         have hfz14_2 := blk_frozen BK151.out 2
         have p152 : 0 ≤ (x3_2 : Int) := of_decide_eq_true (za _)
         have q152 : x3_2 < (l0_0.length : Int) := of_decide_eq_true (za _)
         obtain ⟨ad152, A152_5, c152_5, e152, hx152_0, hx152_1, hx152_2, hx152_3, hx152_4, hx152_5, hl152_5, hi152_5⟩ := at_T43 HR0_0.out x3_2 p152 q152
         cases e152
         replace hx152_0 := (HB.out.cell (World.block_lt_of_cell? w _ hx152_0)).trans hx152_0
         replace hx152_1 := (HB.out.cell (World.block_lt_of_cell? w _ hx152_1)).trans hx152_1
         replace hx152_2 := (HB.out.cell (World.block_lt_of_cell? w _ hx152_2)).trans hx152_2
         replace hx152_3 := (HB.out.cell (World.block_lt_of_cell? w _ hx152_3)).trans hx152_3
         replace hx152_4 := (HB.out.cell (World.block_lt_of_cell? w _ hx152_4)).trans hx152_4
         replace hx152_5 := (HB.out.cell (World.block_lt_of_cell? w _ hx152_5)).trans hx152_5
         have HR152_5 := Aside0.mk hi152_5
         have HC152_5 := Aside0.mk hl152_5
         clear hi152_5 hl152_5
         replace p152 := eq_true p152
         replace q152 := eq_true q152
         go_wp2_with (first | ((with_reducible refine gate_callee (f := 12) rfl ?_); refine zc (some 35) Try.func12 #[.agg #[.string ((rd_T43 l0_0 x3_2).f0), .int .i64 ((rd_T43 l0_0 x3_2).f1), .int .i64 ((rd_T43 l0_0 x3_2).f2), .int .i64 ((rd_T43 l0_0 x3_2).f3), .string ((rd_T43 l0_0 x3_2).f4), .slice A152_5 ((rd_T43 l0_0 x3_2).f5).length c152_5]] ?_; (with_reducible refine (spec_SectionOk.calls k2 ((rd_T43 l0_0 x3_2).f0) ((rd_T43 l0_0 x3_2).f1) ((rd_T43 l0_0 x3_2).f2) ((rd_T43 l0_0 x3_2).f3) ((rd_T43 l0_0 x3_2).f4) _ _ ((rd_T43 l0_0 x3_2).f5) true _ ?side1 ?side2 A12.out).mono ?_); (case side1 => repeat (first | exact (Kd.C_below HR152_5.out HB.out) | (with_reducible refine Kd.C_alloc ?_ _) | (with_reducible refine Kd.C_drewN ?_ _) | (with_reducible refine Kd.C_drew ?_))); (case side2 => exact HC152_5.out); rintro e w15 ⟨rfl, hb⟩; refine ⟨_, rfl, ?_⟩; replace BK151 := zk BK151 hb; replace HB := zt w hb; (try clear hb); (try clear hb2); (try clear hk); (try clear hi)))
         go_roundg k2
         case measure => have := HJ1.out; have := HK2.out; omega
         case rel => exact ⟨(wrap64 (x3_2 + 1)), (zE _), H', ⟨by have := HJ1.out; have := HK2.out; omega⟩, ⟨by (with_reducible repeat (first | refine blk_drewN ?_ _ | refine blk_drew ?_ | refine blk_alloc ?_ _)); exact BK151.out⟩, ⟨zb _⟩⟩
        ·replace c13 := Bool.eq_false_iff.mpr c13
         subst c13
         rw [if_neg (show ¬ (false = true) by decide)] at H
         obtain rfl := Option.some.inj H
         have hcz16_0 := zc0 BK151
         have hcz16_1 := zc1 BK151
         have hcz16_2 := zc2 BK151
         have hfz16_0 := blk_frozen BK151.out 0
         have hfz16_1 := blk_frozen BK151.out 1
         have hfz16_2 := blk_frozen BK151.out 2
         have p152 : 0 ≤ (x3_2 : Int) := of_decide_eq_true (za _)
         have q152 : x3_2 < (l0_0.length : Int) := of_decide_eq_true (za _)
         obtain ⟨ad152, A152_5, c152_5, e152, hx152_0, hx152_1, hx152_2, hx152_3, hx152_4, hx152_5, hl152_5, hi152_5⟩ := at_T43 HR0_0.out x3_2 p152 q152
         cases e152
         replace hx152_0 := (HB.out.cell (World.block_lt_of_cell? w _ hx152_0)).trans hx152_0
         replace hx152_1 := (HB.out.cell (World.block_lt_of_cell? w _ hx152_1)).trans hx152_1
         replace hx152_2 := (HB.out.cell (World.block_lt_of_cell? w _ hx152_2)).trans hx152_2
         replace hx152_3 := (HB.out.cell (World.block_lt_of_cell? w _ hx152_3)).trans hx152_3
         replace hx152_4 := (HB.out.cell (World.block_lt_of_cell? w _ hx152_4)).trans hx152_4
         replace hx152_5 := (HB.out.cell (World.block_lt_of_cell? w _ hx152_5)).trans hx152_5
         have HR152_5 := Aside0.mk hi152_5
         have HC152_5 := Aside0.mk hl152_5
         clear hi152_5 hl152_5
         replace p152 := eq_true p152
         replace q152 := eq_true q152
         go_wp2_with (first | ((with_reducible refine gate_callee (f := 12) rfl ?_); refine zc (some 35) Try.func12 #[.agg #[.string ((rd_T43 l0_0 x3_2).f0), .int .i64 ((rd_T43 l0_0 x3_2).f1), .int .i64 ((rd_T43 l0_0 x3_2).f2), .int .i64 ((rd_T43 l0_0 x3_2).f3), .string ((rd_T43 l0_0 x3_2).f4), .slice A152_5 ((rd_T43 l0_0 x3_2).f5).length c152_5]] ?_; (with_reducible refine (spec_SectionOk.calls k2 ((rd_T43 l0_0 x3_2).f0) ((rd_T43 l0_0 x3_2).f1) ((rd_T43 l0_0 x3_2).f2) ((rd_T43 l0_0 x3_2).f3) ((rd_T43 l0_0 x3_2).f4) _ _ ((rd_T43 l0_0 x3_2).f5) false _ ?side1 ?side2 A12.out).mono ?_); (case side1 => repeat (first | exact (Kd.C_below HR152_5.out HB.out) | (with_reducible refine Kd.C_alloc ?_ _) | (with_reducible refine Kd.C_drewN ?_ _) | (with_reducible refine Kd.C_drew ?_))); (case side2 => exact HC152_5.out); rintro e w17 ⟨rfl, hb⟩; refine ⟨_, rfl, ?_⟩; replace BK151 := zk BK151 hb; replace HB := zt w hb; (try clear hb); (try clear hb2); (try clear hk); (try clear hi)))
         go_ret
         exact ⟨ze _, zb _⟩
       ·rw [if_neg c11] at H
        exact absurd H (by simp)
      ·rw [if_neg c10] at H
       have c10b0 : decide (x3_2 < (l0_0.length : Int)) = false := decide_eq_false c10
       clear c10
       have H' := Aside0.mk H
       clear H
       have hcz18_0 := zc0 BK151
       have hcz18_1 := zc1 BK151
       have hcz18_2 := zc2 BK151
       have hfz18_0 := blk_frozen BK151.out 0
       have hfz18_1 := blk_frozen BK151.out 1
       have hfz18_2 := blk_frozen BK151.out 2
       go_wp2
       go_loopg [4] k2 (fun kq v4 w' => ∃ (x4_3 : Int), v4 = .int .i64 x4_3 ∧ Aside0 (spec_ObjectOk.l1 kq x4_3 l0_0 l0_1 l0_2 = some r) ∧ Aside0 (kq ≤ k2) ∧ Aside0 (w'.heap[gb151]? = some (.cells #[(.slice A0_0 l0_0.length c0_0), (.slice A0_1 l0_1.length c0_1), (.slice A0_2 l0_2.length c0_2)] 33 (0, 0))) ∧ Aside0 (Below w.heap.size w w'))
       case atStart => exact ⟨(0), (zE _), H', ⟨Nat.le_refl _⟩, ⟨by (with_reducible repeat (first | refine blk_drewN ?_ _ | refine blk_drew ?_ | refine blk_alloc ?_ _)); exact BK151.out⟩, ⟨zb _⟩⟩
       case round =>
        clear H'
        try clear c1
        try clear p1
        try clear q1
        try clear hx1
        try clear p2
        try clear c4
        try clear c4b0
        try clear c4b1
        try clear c5
        try clear c6
        try clear c6b0
        try clear c6b1
        try clear p6
        try clear c9
        try clear c10
        try clear c10b0
        try clear c11
        try clear c11b0
        try clear c12
        try clear c13
        try clear c15
        try clear p15
        try clear q15
        try clear hx15
        try clear hcz14_0
        try clear hcz14_1
        try clear hcz14_2
        try clear hcz16_0
        try clear hcz16_1
        try clear hcz16_2
        try clear hcz18_0
        try clear hcz18_1
        try clear hcz18_2
        try clear hcz5_0
        try clear hcz5_1
        try clear hcz5_2
        try clear hcz7_0
        try clear hcz7_1
        try clear hcz7_2
        try clear hcz8_0
        try clear hcz8_1
        try clear hcz8_2
        try clear hfz14_0
        try clear hfz14_1
        try clear hfz14_2
        try clear hfz16_0
        try clear hfz16_1
        try clear hfz16_2
        try clear hfz18_0
        try clear hfz18_1
        try clear hfz18_2
        try clear hfz5_0
        try clear hfz5_1
        try clear hfz5_2
        try clear hfz7_0
        try clear hfz7_1
        try clear hfz7_2
        try clear hfz8_0
        try clear hfz8_1
        try clear hfz8_2
        try clear hx152_0
        try clear hx152_1
        try clear hx152_2
        try clear hx152_3
        try clear hx152_4
        try clear hx152_5
        try clear p152
        try clear p2
        try clear q152
        obtain ⟨x4_3, rfl, HA, HK3, BK151, HB⟩ := hrel
        cases gk with
        | zero => exact absurd HA.out (by simp [spec_ObjectOk.l1])
        | succ k3 =>
         have H := HA.out
         clear HA
         simp only [spec_ObjectOk.l1] at H
         by_cases c19 : x4_3 < (l0_1.length : Int)
         ·rw [if_pos c19] at H
          have c19b0 : decide (x4_3 < (l0_1.length : Int)) = true := decide_eq_true c19
          clear c19
          by_cases c20 : 0 ≤ x4_3
          ·rw [if_pos c20] at H
           have c20b0 : decide (0 ≤ x4_3) = true := decide_eq_true c20
           clear c20
           have HC21 := Aside0.mk H
           clear H
           have hcz22_0 := zc0 BK151
           have hcz22_1 := zc1 BK151
           have hcz22_2 := zc2 BK151
           have hfz22_0 := blk_frozen BK151.out 0
           have hfz22_1 := blk_frozen BK151.out 1
           have hfz22_2 := blk_frozen BK151.out 2
           have p154 : 0 ≤ (x4_3 : Int) := of_decide_eq_true (za _)
           have q154 : x4_3 < (l0_1.length : Int) := of_decide_eq_true (za _)
           obtain ⟨ad154, e154, hx154_0, hx154_1, hx154_2, hx154_3⟩ := at_T45 HR0_1.out x4_3 p154 q154
           cases e154
           replace hx154_0 := (HB.out.cell (World.block_lt_of_cell? w _ hx154_0)).trans hx154_0
           replace hx154_1 := (HB.out.cell (World.block_lt_of_cell? w _ hx154_1)).trans hx154_1
           replace hx154_2 := (HB.out.cell (World.block_lt_of_cell? w _ hx154_2)).trans hx154_2
           replace hx154_3 := (HB.out.cell (World.block_lt_of_cell? w _ hx154_3)).trans hx154_3
           replace p154 := eq_true p154
           replace q154 := eq_true q154
           go_upto_region 12 with (first | ((with_reducible refine gate_dst (N := 5) rfl ?_); (try (refine gate_guard (by rfl) ?_; dsimp only)); refine zbx 5 #[.string (⟨#[]⟩ : ByteArray), .int .i64 0, .int .i64 0, .bool false] 45 ?_; intro gb155 hg w23 hbox hb; have BK155 := Aside0.mk (hbox); have GW155 := zs w hg; have GE155 := GW155; have NB151_155 := zlt BK151 hg; have NB155_151 := zgt (zlt BK151 hg); replace BK151 := zk BK151 hb; replace HB := zt w hb; clear hb hbox hg; have hnb24 := NB155_151.out; have hnc24 := NB151_155.out; have hcz25_0 := zc0 BK155; have hcz25_1 := zc1 BK155; have hcz25_2 := zc2 BK155; have hcz25_3 := zc3 BK155; have hfz25_0 := blk_frozen BK155.out 0; have hfz25_1 := blk_frozen BK155.out 1; have hfz25_2 := blk_frozen BK155.out 2; have hfz25_3 := blk_frozen BK155.out 3))
           (try simp only [Act.put, List.setIfInBounds_toArray, List.set_cons_zero, List.set_cons_succ])
           go_cut [78] (fun v78 wc => ∃ (kq : Nat) (x78_20 : Bool), v78 = .bool x78_20 ∧ Aside0 (spec_ObjectOk.j3 kq x4_3 x78_20 l0_0 l0_1 l0_2 ((rd_T45 l0_1 x4_3).f0) ((rd_T45 l0_1 x4_3).f1) ((rd_T45 l0_1 x4_3).f2) ((rd_T45 l0_1 x4_3).f3) = some r) ∧ Aside0 (kq ≤ k3) ∧ Aside0 (wc.heap[gb151]? = some (.cells #[(.slice A0_0 l0_0.length c0_0), (.slice (some ad154) l0_1.length c0_1), (.slice A0_2 l0_2.length c0_2)] 33 (0, 0))) ∧ Aside0 (wc.heap[gb155]? = some (.cells #[.string ((rd_T45 l0_1 x4_3).f0), .int .i64 ((rd_T45 l0_1 x4_3).f1), .int .i64 ((rd_T45 l0_1 x4_3).f2), .bool ((rd_T45 l0_1 x4_3).f3)] 45 (0, 0))) ∧ Aside0 (Below w.heap.size w wc))
           case first =>
            have H := HC21.out
            clear HC21
            obtain ⟨t156, A260, H⟩ := Option.bind_eq_some_iff.mp H
            have A26 := Aside0.mk A260
            clear A260
            by_cases c27 : t156 = true
            ·subst c27
             rw [if_pos rfl] at H
             by_cases c28 : x4_3 > 0
             ·rw [if_pos c28] at H
              have c28b0 : decide (0 < x4_3) = true := decide_eq_true c28
              clear c28
              (first | rw [c28b0] | (simp only [i64_w, i32_w]; rw [c28b0]) | skip)
              obtain ⟨ji29, hji29⟩ : ∃ j_ : Int, (wrap64 (x4_3 - 1)) = j_ := ⟨_, rfl⟩
              replace H : (if 0 ≤ (ji29) then (if (ji29) < (l0_1.length : Int) then (if ((Op.bytesLess (((rd_T45 l0_1 (ji29)).f0).toList) (((rd_T45 l0_1 x4_3).f0).toList)) = true) then ((spec_l1In.f ((rd_T45 l0_1 x4_3).f1) (-1) (wrap64 ((l0_0.length : Int) - 1))).bind fun t158 => (spec_ObjectOk.j3 k3 x4_3 (!t158) l0_0 l0_1 l0_2 ((rd_T45 l0_1 x4_3).f0) ((rd_T45 l0_1 x4_3).f1) ((rd_T45 l0_1 x4_3).f2) ((rd_T45 l0_1 x4_3).f3))) else (spec_ObjectOk.j3 k3 x4_3 true l0_0 l0_1 l0_2 ((rd_T45 l0_1 x4_3).f0) ((rd_T45 l0_1 x4_3).f1) ((rd_T45 l0_1 x4_3).f2) ((rd_T45 l0_1 x4_3).f3))) else (none)) else (none)) = some r := by first | (rw [hji29] at H; exact H) | (simp only [hji29] at H ⊢; exact H)
              (try rw [hji29] at A26)
              have hji29w : (IntKind.i64.wrap (x4_3 - 1)) = ji29 := (i64_w _).trans hji29
              by_cases c30 : 0 ≤ (ji29)
              ·rw [if_pos c30] at H
               have c30b0 : decide (0 ≤ (ji29)) = true := decide_eq_true c30
               clear c30
               by_cases c31 : (ji29) < (l0_1.length : Int)
               ·rw [if_pos c31] at H
                have c31b0 : decide ((ji29) < (l0_1.length : Int)) = true := decide_eq_true c31
                clear c31
                by_cases c32 : ((Op.bytesLess (((rd_T45 l0_1 (ji29)).f0).toList) (((rd_T45 l0_1 x4_3).f0).toList)) = true)
                ·rw [if_pos c32] at H
                 have c32b0 : (Op.bytesLess (((rd_T45 l0_1 (ji29)).f0).toList) (((rd_T45 l0_1 x4_3).f0).toList)) = true := c32
                 have hgeq_ : ∀ W_ : World, (binOp BinOp.geq 9 (.string ((rd_T45 l0_1 (ji29)).f0)) (.string ((rd_T45 l0_1 x4_3).f0))).run Try.prog W_ = .ok (.bool (!true)) W_ := fun W_ => by rw [spec_SectionOk.geqS, c32b0]
                 clear c32
                 obtain ⟨t158, A330, H⟩ := Option.bind_eq_some_iff.mp H
                 have A33 := Aside0.mk A330
                 clear A330
                 have H' := Aside0.mk H
                 clear H
                 try go_wp2
                 have n0_ : Aside0 (((((w23.setCell ⟨gb155, 0, none⟩ (.string ((rd_T45 l0_1 x4_3).f0))).setCell ⟨gb155, 1, none⟩ (.int .i64 ((rd_T45 l0_1 x4_3).f1))).setCell ⟨gb155, 2, none⟩ (.int .i64 ((rd_T45 l0_1 x4_3).f2))).setCell ⟨gb155, 3, none⟩ (.bool ((rd_T45 l0_1 x4_3).f3))).heap[gb151]? = some (.cells #[.slice A0_0 l0_0.length c0_0, .slice (some ad154) l0_1.length c0_1, .slice A0_2 l0_2.length c0_2] 33 (0, 0))) := ⟨by (with_reducible repeat (first | refine blk_drewN ?_ _ | refine blk_drew ?_ | refine blk_alloc ?_ _)); refine blk_far ?_ NB151_155.out _; (with_reducible repeat (first | refine blk_drewN ?_ _ | refine blk_drew ?_ | refine blk_alloc ?_ _)); refine blk_far ?_ NB151_155.out _; (with_reducible repeat (first | refine blk_drewN ?_ _ | refine blk_drew ?_ | refine blk_alloc ?_ _)); refine blk_far ?_ NB151_155.out _; (with_reducible repeat (first | refine blk_drewN ?_ _ | refine blk_drew ?_ | refine blk_alloc ?_ _)); refine blk_far ?_ NB151_155.out _; (with_reducible repeat (first | refine blk_drewN ?_ _ | refine blk_drew ?_ | refine blk_alloc ?_ _)); exact BK151.out⟩
                 have n1_ : Aside0 (((((w23.setCell ⟨gb155, 0, none⟩ (.string ((rd_T45 l0_1 x4_3).f0))).setCell ⟨gb155, 1, none⟩ (.int .i64 ((rd_T45 l0_1 x4_3).f1))).setCell ⟨gb155, 2, none⟩ (.int .i64 ((rd_T45 l0_1 x4_3).f2))).setCell ⟨gb155, 3, none⟩ (.bool ((rd_T45 l0_1 x4_3).f3))).heap[gb155]? = some (.cells #[.string ((rd_T45 l0_1 x4_3).f0), .int .i64 ((rd_T45 l0_1 x4_3).f1), .int .i64 ((rd_T45 l0_1 x4_3).f2), .bool ((rd_T45 l0_1 x4_3).f3)] 45 (0, 0))) := ⟨by (with_reducible repeat (first | refine blk_drewN ?_ _ | refine blk_drew ?_ | refine blk_alloc ?_ _)); refine blk_put (cs := #[.string ((rd_T45 l0_1 x4_3).f0), .int .i64 ((rd_T45 l0_1 x4_3).f1), .int .i64 ((rd_T45 l0_1 x4_3).f2), .bool false]) ?_ 3 _ rfl; (with_reducible repeat (first | refine blk_drewN ?_ _ | refine blk_drew ?_ | refine blk_alloc ?_ _)); refine blk_put (cs := #[.string ((rd_T45 l0_1 x4_3).f0), .int .i64 ((rd_T45 l0_1 x4_3).f1), .int .i64 0, .bool false]) ?_ 2 _ rfl; (with_reducible repeat (first | refine blk_drewN ?_ _ | refine blk_drew ?_ | refine blk_alloc ?_ _)); refine blk_put (cs := #[.string ((rd_T45 l0_1 x4_3).f0), .int .i64 0, .int .i64 0, .bool false]) ?_ 1 _ rfl; (with_reducible repeat (first | refine blk_drewN ?_ _ | refine blk_drew ?_ | refine blk_alloc ?_ _)); refine blk_put (cs := #[.string (⟨#[]⟩ : ByteArray), .int .i64 0, .int .i64 0, .bool false]) ?_ 0 _ rfl; (with_reducible repeat (first | refine blk_drewN ?_ _ | refine blk_drew ?_ | refine blk_alloc ?_ _)); exact BK155.out⟩
                 have n2_ : Aside0 (Below w.heap.size w ((((w23.setCell ⟨gb155, 0, none⟩ (.string ((rd_T45 l0_1 x4_3).f0))).setCell ⟨gb155, 1, none⟩ (.int .i64 ((rd_T45 l0_1 x4_3).f1))).setCell ⟨gb155, 2, none⟩ (.int .i64 ((rd_T45 l0_1 x4_3).f2))).setCell ⟨gb155, 3, none⟩ (.bool ((rd_T45 l0_1 x4_3).f3)))) := ⟨zb _⟩
                 (try clear BK151)
                 (try clear BK155)
                 (try clear HB)
                 generalize ((((w23.setCell ⟨gb155, 0, none⟩ (.string ((rd_T45 l0_1 x4_3).f0))).setCell ⟨gb155, 1, none⟩ (.int .i64 ((rd_T45 l0_1 x4_3).f1))).setCell ⟨gb155, 2, none⟩ (.int .i64 ((rd_T45 l0_1 x4_3).f2))).setCell ⟨gb155, 3, none⟩ (.bool ((rd_T45 l0_1 x4_3).f3))) = w34 at n0_ n1_ n2_ ⊢
                 have BK151 := n0_
                 have BK155 := n1_
                 have HB := n2_
                 clear n0_ n1_ n2_
                 have n0_ := Aside0.mk (blk_drew BK151.out)
                 have n1_ := Aside0.mk (blk_drew BK155.out)
                 have n2_ := Aside0.mk (below_drew1 HB.out)
                 clear BK151
                 clear BK155
                 clear HB
                 have BK151 := n0_
                 have BK155 := n1_
                 have HB := n2_
                 clear n0_ n1_ n2_
                 have p157 : 0 ≤ ((ji29) : Int) := of_decide_eq_true (za _)
                 have q157 : (ji29) < (l0_1.length : Int) := of_decide_eq_true (za _)
                 obtain ⟨ad157, e157, hx157_0, hx157_1, hx157_2, hx157_3⟩ := at_T45 HR0_1.out (ji29) p157 q157
                 have hw157_3 := hx157_3
                 have hw157_2 := hx157_2
                 have hw157_1 := hx157_1
                 have hw157_0 := hx157_0
                 obtain rfl : ad154 = ad157 := (by injection e157)
                 replace hx157_0 := (HB.out.cell (World.block_lt_of_cell? w _ hx157_0)).trans hx157_0
                 replace hx157_1 := (HB.out.cell (World.block_lt_of_cell? w _ hx157_1)).trans hx157_1
                 replace hx157_2 := (HB.out.cell (World.block_lt_of_cell? w _ hx157_2)).trans hx157_2
                 replace hx157_3 := (HB.out.cell (World.block_lt_of_cell? w _ hx157_3)).trans hx157_3
                 replace p157 := eq_true p157
                 replace q157 := eq_true q157
                 refine start_ (n := 30) (S := fun w' => w'.cell? ⟨gb155, 0, none⟩ = some (.string ((rd_T45 l0_1 x4_3).f0)) ∧ w'.cell? ⟨gb155, 1, none⟩ = some (.int .i64 ((rd_T45 l0_1 x4_3).f1)) ∧ w'.cell? ⟨gb155, 2, none⟩ = some (.int .i64 ((rd_T45 l0_1 x4_3).f2)) ∧ w'.cell? ⟨gb155, 3, none⟩ = some (.bool ((rd_T45 l0_1 x4_3).f3)) ∧ w'.cell? ⟨gb151, 0, none⟩ = some (.slice A0_0 l0_0.length c0_0) ∧ w'.cell? ⟨gb151, 1, none⟩ = some (.slice (some ad154) l0_1.length c0_1) ∧ w'.cell? ⟨gb151, 2, none⟩ = some (.slice A0_2 l0_2.length c0_2) ∧ w'.cell? (ad154.add (((ji29)).toNat * 4)) = some (.string ((rd_T45 l0_1 (ji29)).f0)) ∧ w'.cell? ⟨(ad154.add (((ji29)).toNat * 4)).block, (ad154.add (((ji29)).toNat * 4)).off + 1, none⟩ = some (.int .i64 ((rd_T45 l0_1 (ji29)).f1)) ∧ w'.cell? ⟨(ad154.add (((ji29)).toNat * 4)).block, (ad154.add (((ji29)).toNat * 4)).off + 2, none⟩ = some (.int .i64 ((rd_T45 l0_1 (ji29)).f2)) ∧ w'.cell? ⟨(ad154.add (((ji29)).toNat * 4)).block, (ad154.add (((ji29)).toNat * 4)).off + 3, none⟩ = some (.bool ((rd_T45 l0_1 (ji29)).f3))) (ds := []) (zm 30 0) (by kernel_rfl) rfl rfl ⟨(blk_cell BK155.out 0).trans rfl, (blk_cell BK155.out 1).trans rfl, (blk_cell BK155.out 2).trans rfl, (blk_cell BK155.out 3).trans rfl, (blk_cell BK151.out 0).trans rfl, (blk_cell BK151.out 1).trans rfl, (blk_cell BK151.out 2).trans rfl, ((HB.out.cell (World.block_lt_of_cell? w _ hw157_0)).trans hw157_0), ((HB.out.cell (World.block_lt_of_cell? w _ hw157_1)).trans hw157_1), ((HB.out.cell (World.block_lt_of_cell? w _ hw157_2)).trans hw157_2), ((HB.out.cell (World.block_lt_of_cell? w _ hw157_3)).trans hw157_3)⟩ (fun hHeld => ?_); refine with_tabW spec_ObjectOk.tab12 spec_ObjectOk.bits12 (fun HT_ HW_ => ?_)
                 generalize w34.drew = w35 at BK151 BK155 HB hx157_0 hx157_1 hx157_2 hx157_3 hHeld ⊢
                 refine zp 0 49 (zm 30 1) ?_
                 refine take_ (i := 1) (N := some 50) (v := ?_) (a' := ?_) (zm 30 3) rfl rfl (take_ofW HT_.out HW_.out (by kernel_rfl)) (fun _ _ _ h => h) (Or.inl ⟨by rfl, ?_⟩) hHeld ?_ ?_
                 rotate_left
                 ·rintro w' ⟨s0, s1, s2, s3, s4, s5, s6, s7, s8, s9, s10⟩
                  go_simp
                  with_reducible rfl
                 rotate_left
                 ·simp only [Act.put, List.setIfInBounds_toArray, List.set_cons_zero, List.set_cons_succ, i64_w, i32_w]
                  rfl
                 refine one_ (i := 2) (N := some 51) (zm 30 7) rfl rfl (one_of HT_.out (by kernel_rfl)) (by decide) (fun K hK => ?_)
                 refine zi Try.func13 #[.string ((rd_T45 l0_1 x4_3).f0)] ?_
                 with_reducible refine (spec_NameOk.calls k3 ((rd_T45 l0_1 x4_3).f0) true _ A26.out).mono ?_
                 rintro e w' ⟨rfl, ⟨nd, rfl⟩⟩
                 refine ⟨_, rfl, ?_⟩
                 refine hK.out _ _ ⟨(blk_cell BK155.out 0).trans rfl, (blk_cell BK155.out 1).trans rfl, (blk_cell BK155.out 2).trans rfl, (blk_cell BK155.out 3).trans rfl, (blk_cell BK151.out 0).trans rfl, (blk_cell BK151.out 1).trans rfl, (blk_cell BK151.out 2).trans rfl, ((HB.out.cell (World.block_lt_of_cell? w _ hw157_0)).trans hw157_0), ((HB.out.cell (World.block_lt_of_cell? w _ hw157_1)).trans hw157_1), ((HB.out.cell (World.block_lt_of_cell? w _ hw157_2)).trans hw157_2), ((HB.out.cell (World.block_lt_of_cell? w _ hw157_3)).trans hw157_3)⟩ (fun hHeld => ?_)
                 clear hK K
                 refine zq ?_
                 refine zp 3 52 (zm 30 15) ?_
                 refine zp 4 53 (zm 30 31) ?_
                 refine zp 5 54 (zm 30 63) ?_
                 refine zp 6 55 (zm 30 127) ?_
                 refine zp 7 56 (zm 30 255) ?_
                 refine zp 8 57 (zm 30 511) ?_
                 refine zp 10 59 (zm 30 1535) ?_
                 refine zp 11 60 (zm 30 3583) ?_
                 refine zp 15 64 (zm 30 36351) ?_
                 refine take_ (i := 9) (N := some 58) (v := ?_) (a' := ?_) (zm 30 36863) rfl rfl (take_ofW HT_.out HW_.out (by kernel_rfl)) (fun _ _ _ h => h) (Or.inl ⟨by rfl, ?_⟩) hHeld ?_ ?_
                 rotate_left
                 ·rintro w' ⟨s0, s1, s2, s3, s4, s5, s6, s7, s8, s9, s10⟩
                  go_simp
                  with_reducible rfl
                 rotate_left
                 ·simp only [Act.put, List.setIfInBounds_toArray, List.set_cons_zero, List.set_cons_succ, i64_w, i32_w]
                  rfl
                 refine zp 12 61 (zm 30 40959) ?_
                 refine zp 13 62 (zm 30 49151) ?_
                 refine take_ (i := 14) (N := some 63) (v := ?_) (a' := ?_) (zm 30 65535) rfl rfl (take_ofW HT_.out HW_.out (by kernel_rfl)) (fun _ _ _ h => h) (Or.inl ⟨by rfl, ?_⟩) hHeld ?_ ?_
                 rotate_left
                 ·rintro w' ⟨s0, s1, s2, s3, s4, s5, s6, s7, s8, s9, s10⟩
                  go_simp
                  with_reducible rfl
                 rotate_left
                 ·simp only [Act.put, List.setIfInBounds_toArray, List.set_cons_zero, List.set_cons_succ, i64_w, i32_w]
                  rfl
                 refine take_ (i := 16) (N := some 65) (v := ?_) (a' := ?_) (zm 30 131071) rfl rfl (take_ofW HT_.out HW_.out (by kernel_rfl)) (fun _ _ _ h => h) (Or.inl ⟨by rfl, ?_⟩) hHeld ?_ ?_
                 rotate_left
                 ·rintro w' ⟨s0, s1, s2, s3, s4, s5, s6, s7, s8, s9, s10⟩
                  go_simp
                  with_reducible rfl
                 rotate_left
                 ·simp only [Act.put, List.setIfInBounds_toArray, List.set_cons_zero, List.set_cons_succ, i64_w, i32_w]
                  rfl
                 refine zp 17 66 (zm 30 262143) ?_
                 refine zp 18 67 (zm 30 524287) ?_
                 refine zp 19 68 (zm 30 1048575) ?_
                 refine zp 20 69 (zm 30 2097151) ?_
                 refine zp 21 70 (zm 30 4194303) ?_
                 refine zp 23 72 (zm 30 12582911) ?_
                 refine take_ (i := 22) (N := some 71) (v := ?_) (a' := ?_) (zm 30 16777215) rfl rfl (take_ofW HT_.out HW_.out (by kernel_rfl)) (fun _ _ _ h => h) (Or.inl ⟨by rfl, ?_⟩) hHeld ?_ ?_
                 rotate_left
                 ·rintro w' ⟨s0, s1, s2, s3, s4, s5, s6, s7, s8, s9, s10⟩
                  go_simp
                  with_reducible rfl
                 rotate_left
                 ·simp only [Act.put, List.setIfInBounds_toArray, List.set_cons_zero, List.set_cons_succ, i64_w, i32_w]
                  rfl
                 refine take_ (i := 24) (N := some 73) (v := ?_) (a' := ?_) (zm 30 33554431) rfl rfl (take_ofW HT_.out HW_.out (by kernel_rfl)) (fun _ _ _ h => h) (Or.inl ⟨by rfl, ?_⟩) hHeld ?_ ?_
                 rotate_left
                 ·rintro w' ⟨s0, s1, s2, s3, s4, s5, s6, s7, s8, s9, s10⟩
                  go_simp
                  with_reducible rfl
                 rotate_left
                 ·simp only [Act.put, List.setIfInBounds_toArray, List.set_cons_zero, List.set_cons_succ, i64_w, i32_w]
                  rfl
                 refine zp 25 74 (zm 30 67108863) ?_
                 refine zp 26 75 (zm 30 134217727) ?_
                 refine one_ (i := 27) (N := some 76) (zm 30 268435455) rfl rfl (one_of HT_.out (by kernel_rfl)) (by decide) (fun K hK => ?_)
                 refine zi Try.func14 #[.int .i64 ((rd_T45 l0_1 x4_3).f1), .int .i64 (-1), .int .i64 (wrap64 ((l0_0.length : Int) - 1))] ?_
                 with_reducible refine (spec_l1In.calls ((rd_T45 l0_1 x4_3).f1) (-1) (wrap64 ((l0_0.length : Int) - 1)) t158 _ A33.out).mono ?_
                 rintro e w' ⟨rfl, ⟨nd, rfl⟩⟩
                 refine ⟨_, rfl, ?_⟩
                 refine hK.out _ _ ⟨(blk_cell BK155.out 0).trans rfl, (blk_cell BK155.out 1).trans rfl, (blk_cell BK155.out 2).trans rfl, (blk_cell BK155.out 3).trans rfl, (blk_cell BK151.out 0).trans rfl, (blk_cell BK151.out 1).trans rfl, (blk_cell BK151.out 2).trans rfl, ((HB.out.cell (World.block_lt_of_cell? w _ hw157_0)).trans hw157_0), ((HB.out.cell (World.block_lt_of_cell? w _ hw157_1)).trans hw157_1), ((HB.out.cell (World.block_lt_of_cell? w _ hw157_2)).trans hw157_2), ((HB.out.cell (World.block_lt_of_cell? w _ hw157_3)).trans hw157_3)⟩ (fun hHeld => ?_)
                 clear hK K
                 refine zq ?_
                 refine zp 28 77 (zm 30 536870911) ?_
                 refine zp 29 78 (zm 30 1073741823) ?_
                 refine done_ (done_of HT_.out (by kernel_rfl)) ?_
                 try go_wp2
                 go_meet
                 case rel => exact ⟨_, (!t158), (zE _), H', ⟨by have := HJ1.out; have := HK2.out; have := HK3.out; first | omega | exact Nat.le_refl _⟩, ⟨by (with_reducible repeat (first | refine blk_drewN ?_ _ | refine blk_drew ?_ | refine blk_alloc ?_ _)); exact BK151.out⟩, ⟨by (with_reducible repeat (first | refine blk_drewN ?_ _ | refine blk_drew ?_ | refine blk_alloc ?_ _)); exact BK155.out⟩, ⟨zb _⟩⟩
                ·rw [if_neg c32] at H
                 have c32b0 : (Op.bytesLess (((rd_T45 l0_1 (ji29)).f0).toList) (((rd_T45 l0_1 x4_3).f0).toList)) = false := by simpa using c32
                 have hgeq_ : ∀ W_ : World, (binOp BinOp.geq 9 (.string ((rd_T45 l0_1 (ji29)).f0)) (.string ((rd_T45 l0_1 x4_3).f0))).run Try.prog W_ = .ok (.bool (!false)) W_ := fun W_ => by rw [spec_SectionOk.geqS, c32b0]
                 clear c32
                 have H' := Aside0.mk H
                 clear H
                 try go_wp2
                 have n0_ : Aside0 (((((w23.setCell ⟨gb155, 0, none⟩ (.string ((rd_T45 l0_1 x4_3).f0))).setCell ⟨gb155, 1, none⟩ (.int .i64 ((rd_T45 l0_1 x4_3).f1))).setCell ⟨gb155, 2, none⟩ (.int .i64 ((rd_T45 l0_1 x4_3).f2))).setCell ⟨gb155, 3, none⟩ (.bool ((rd_T45 l0_1 x4_3).f3))).heap[gb151]? = some (.cells #[.slice A0_0 l0_0.length c0_0, .slice (some ad154) l0_1.length c0_1, .slice A0_2 l0_2.length c0_2] 33 (0, 0))) := ⟨by (with_reducible repeat (first | refine blk_drewN ?_ _ | refine blk_drew ?_ | refine blk_alloc ?_ _)); refine blk_far ?_ NB151_155.out _; (with_reducible repeat (first | refine blk_drewN ?_ _ | refine blk_drew ?_ | refine blk_alloc ?_ _)); refine blk_far ?_ NB151_155.out _; (with_reducible repeat (first | refine blk_drewN ?_ _ | refine blk_drew ?_ | refine blk_alloc ?_ _)); refine blk_far ?_ NB151_155.out _; (with_reducible repeat (first | refine blk_drewN ?_ _ | refine blk_drew ?_ | refine blk_alloc ?_ _)); refine blk_far ?_ NB151_155.out _; (with_reducible repeat (first | refine blk_drewN ?_ _ | refine blk_drew ?_ | refine blk_alloc ?_ _)); exact BK151.out⟩
                 have n1_ : Aside0 (((((w23.setCell ⟨gb155, 0, none⟩ (.string ((rd_T45 l0_1 x4_3).f0))).setCell ⟨gb155, 1, none⟩ (.int .i64 ((rd_T45 l0_1 x4_3).f1))).setCell ⟨gb155, 2, none⟩ (.int .i64 ((rd_T45 l0_1 x4_3).f2))).setCell ⟨gb155, 3, none⟩ (.bool ((rd_T45 l0_1 x4_3).f3))).heap[gb155]? = some (.cells #[.string ((rd_T45 l0_1 x4_3).f0), .int .i64 ((rd_T45 l0_1 x4_3).f1), .int .i64 ((rd_T45 l0_1 x4_3).f2), .bool ((rd_T45 l0_1 x4_3).f3)] 45 (0, 0))) := ⟨by (with_reducible repeat (first | refine blk_drewN ?_ _ | refine blk_drew ?_ | refine blk_alloc ?_ _)); refine blk_put (cs := #[.string ((rd_T45 l0_1 x4_3).f0), .int .i64 ((rd_T45 l0_1 x4_3).f1), .int .i64 ((rd_T45 l0_1 x4_3).f2), .bool false]) ?_ 3 _ rfl; (with_reducible repeat (first | refine blk_drewN ?_ _ | refine blk_drew ?_ | refine blk_alloc ?_ _)); refine blk_put (cs := #[.string ((rd_T45 l0_1 x4_3).f0), .int .i64 ((rd_T45 l0_1 x4_3).f1), .int .i64 0, .bool false]) ?_ 2 _ rfl; (with_reducible repeat (first | refine blk_drewN ?_ _ | refine blk_drew ?_ | refine blk_alloc ?_ _)); refine blk_put (cs := #[.string ((rd_T45 l0_1 x4_3).f0), .int .i64 0, .int .i64 0, .bool false]) ?_ 1 _ rfl; (with_reducible repeat (first | refine blk_drewN ?_ _ | refine blk_drew ?_ | refine blk_alloc ?_ _)); refine blk_put (cs := #[.string (⟨#[]⟩ : ByteArray), .int .i64 0, .int .i64 0, .bool false]) ?_ 0 _ rfl; (with_reducible repeat (first | refine blk_drewN ?_ _ | refine blk_drew ?_ | refine blk_alloc ?_ _)); exact BK155.out⟩
                 have n2_ : Aside0 (Below w.heap.size w ((((w23.setCell ⟨gb155, 0, none⟩ (.string ((rd_T45 l0_1 x4_3).f0))).setCell ⟨gb155, 1, none⟩ (.int .i64 ((rd_T45 l0_1 x4_3).f1))).setCell ⟨gb155, 2, none⟩ (.int .i64 ((rd_T45 l0_1 x4_3).f2))).setCell ⟨gb155, 3, none⟩ (.bool ((rd_T45 l0_1 x4_3).f3)))) := ⟨zb _⟩
                 (try clear BK151)
                 (try clear BK155)
                 (try clear HB)
                 generalize ((((w23.setCell ⟨gb155, 0, none⟩ (.string ((rd_T45 l0_1 x4_3).f0))).setCell ⟨gb155, 1, none⟩ (.int .i64 ((rd_T45 l0_1 x4_3).f1))).setCell ⟨gb155, 2, none⟩ (.int .i64 ((rd_T45 l0_1 x4_3).f2))).setCell ⟨gb155, 3, none⟩ (.bool ((rd_T45 l0_1 x4_3).f3))) = w36 at n0_ n1_ n2_ ⊢
                 have BK151 := n0_
                 have BK155 := n1_
                 have HB := n2_
                 clear n0_ n1_ n2_
                 have n0_ := Aside0.mk (blk_drew BK151.out)
                 have n1_ := Aside0.mk (blk_drew BK155.out)
                 have n2_ := Aside0.mk (below_drew1 HB.out)
                 clear BK151
                 clear BK155
                 clear HB
                 have BK151 := n0_
                 have BK155 := n1_
                 have HB := n2_
                 clear n0_ n1_ n2_
                 have p157 : 0 ≤ ((ji29) : Int) := of_decide_eq_true (za _)
                 have q157 : (ji29) < (l0_1.length : Int) := of_decide_eq_true (za _)
                 obtain ⟨ad157, e157, hx157_0, hx157_1, hx157_2, hx157_3⟩ := at_T45 HR0_1.out (ji29) p157 q157
                 have hw157_3 := hx157_3
                 have hw157_2 := hx157_2
                 have hw157_1 := hx157_1
                 have hw157_0 := hx157_0
                 obtain rfl : ad154 = ad157 := (by injection e157)
                 replace hx157_0 := (HB.out.cell (World.block_lt_of_cell? w _ hx157_0)).trans hx157_0
                 replace hx157_1 := (HB.out.cell (World.block_lt_of_cell? w _ hx157_1)).trans hx157_1
                 replace hx157_2 := (HB.out.cell (World.block_lt_of_cell? w _ hx157_2)).trans hx157_2
                 replace hx157_3 := (HB.out.cell (World.block_lt_of_cell? w _ hx157_3)).trans hx157_3
                 replace p157 := eq_true p157
                 replace q157 := eq_true q157
                 refine start_ (n := 30) (S := fun w' => w'.cell? ⟨gb155, 0, none⟩ = some (.string ((rd_T45 l0_1 x4_3).f0)) ∧ w'.cell? ⟨gb155, 1, none⟩ = some (.int .i64 ((rd_T45 l0_1 x4_3).f1)) ∧ w'.cell? ⟨gb155, 2, none⟩ = some (.int .i64 ((rd_T45 l0_1 x4_3).f2)) ∧ w'.cell? ⟨gb155, 3, none⟩ = some (.bool ((rd_T45 l0_1 x4_3).f3)) ∧ w'.cell? ⟨gb151, 0, none⟩ = some (.slice A0_0 l0_0.length c0_0) ∧ w'.cell? ⟨gb151, 1, none⟩ = some (.slice (some ad154) l0_1.length c0_1) ∧ w'.cell? ⟨gb151, 2, none⟩ = some (.slice A0_2 l0_2.length c0_2) ∧ w'.cell? (ad154.add (((ji29)).toNat * 4)) = some (.string ((rd_T45 l0_1 (ji29)).f0)) ∧ w'.cell? ⟨(ad154.add (((ji29)).toNat * 4)).block, (ad154.add (((ji29)).toNat * 4)).off + 1, none⟩ = some (.int .i64 ((rd_T45 l0_1 (ji29)).f1)) ∧ w'.cell? ⟨(ad154.add (((ji29)).toNat * 4)).block, (ad154.add (((ji29)).toNat * 4)).off + 2, none⟩ = some (.int .i64 ((rd_T45 l0_1 (ji29)).f2)) ∧ w'.cell? ⟨(ad154.add (((ji29)).toNat * 4)).block, (ad154.add (((ji29)).toNat * 4)).off + 3, none⟩ = some (.bool ((rd_T45 l0_1 (ji29)).f3))) (ds := []) (zm 30 0) (by kernel_rfl) rfl rfl ⟨(blk_cell BK155.out 0).trans rfl, (blk_cell BK155.out 1).trans rfl, (blk_cell BK155.out 2).trans rfl, (blk_cell BK155.out 3).trans rfl, (blk_cell BK151.out 0).trans rfl, (blk_cell BK151.out 1).trans rfl, (blk_cell BK151.out 2).trans rfl, ((HB.out.cell (World.block_lt_of_cell? w _ hw157_0)).trans hw157_0), ((HB.out.cell (World.block_lt_of_cell? w _ hw157_1)).trans hw157_1), ((HB.out.cell (World.block_lt_of_cell? w _ hw157_2)).trans hw157_2), ((HB.out.cell (World.block_lt_of_cell? w _ hw157_3)).trans hw157_3)⟩ (fun hHeld => ?_); refine with_tabW spec_ObjectOk.tab12 spec_ObjectOk.bits12 (fun HT_ HW_ => ?_)
                 generalize w36.drew = w37 at BK151 BK155 HB hx157_0 hx157_1 hx157_2 hx157_3 hHeld ⊢
                 refine zp 0 49 (zm 30 1) ?_
                 refine take_ (i := 1) (N := some 50) (v := ?_) (a' := ?_) (zm 30 3) rfl rfl (take_ofW HT_.out HW_.out (by kernel_rfl)) (fun _ _ _ h => h) (Or.inl ⟨by rfl, ?_⟩) hHeld ?_ ?_
                 rotate_left
                 ·rintro w' ⟨s0, s1, s2, s3, s4, s5, s6, s7, s8, s9, s10⟩
                  go_simp
                  with_reducible rfl
                 rotate_left
                 ·simp only [Act.put, List.setIfInBounds_toArray, List.set_cons_zero, List.set_cons_succ, i64_w, i32_w]
                  rfl
                 refine one_ (i := 2) (N := some 51) (zm 30 7) rfl rfl (one_of HT_.out (by kernel_rfl)) (by decide) (fun K hK => ?_)
                 refine zi Try.func13 #[.string ((rd_T45 l0_1 x4_3).f0)] ?_
                 with_reducible refine (spec_NameOk.calls k3 ((rd_T45 l0_1 x4_3).f0) true _ A26.out).mono ?_
                 rintro e w' ⟨rfl, ⟨nd, rfl⟩⟩
                 refine ⟨_, rfl, ?_⟩
                 refine hK.out _ _ ⟨(blk_cell BK155.out 0).trans rfl, (blk_cell BK155.out 1).trans rfl, (blk_cell BK155.out 2).trans rfl, (blk_cell BK155.out 3).trans rfl, (blk_cell BK151.out 0).trans rfl, (blk_cell BK151.out 1).trans rfl, (blk_cell BK151.out 2).trans rfl, ((HB.out.cell (World.block_lt_of_cell? w _ hw157_0)).trans hw157_0), ((HB.out.cell (World.block_lt_of_cell? w _ hw157_1)).trans hw157_1), ((HB.out.cell (World.block_lt_of_cell? w _ hw157_2)).trans hw157_2), ((HB.out.cell (World.block_lt_of_cell? w _ hw157_3)).trans hw157_3)⟩ (fun hHeld => ?_)
                 clear hK K
                 refine zq ?_
                 refine zp 3 52 (zm 30 15) ?_
                 refine zp 4 53 (zm 30 31) ?_
                 refine zp 5 54 (zm 30 63) ?_
                 refine zp 6 55 (zm 30 127) ?_
                 refine zp 7 56 (zm 30 255) ?_
                 refine zp 8 57 (zm 30 511) ?_
                 refine zp 10 59 (zm 30 1535) ?_
                 refine zp 11 60 (zm 30 3583) ?_
                 refine zp 15 64 (zm 30 36351) ?_
                 refine take_ (i := 9) (N := some 58) (v := ?_) (a' := ?_) (zm 30 36863) rfl rfl (take_ofW HT_.out HW_.out (by kernel_rfl)) (fun _ _ _ h => h) (Or.inl ⟨by rfl, ?_⟩) hHeld ?_ ?_
                 rotate_left
                 ·rintro w' ⟨s0, s1, s2, s3, s4, s5, s6, s7, s8, s9, s10⟩
                  go_simp
                  with_reducible rfl
                 rotate_left
                 ·simp only [Act.put, List.setIfInBounds_toArray, List.set_cons_zero, List.set_cons_succ, i64_w, i32_w]
                  rfl
                 refine zp 12 61 (zm 30 40959) ?_
                 refine zp 13 62 (zm 30 49151) ?_
                 refine take_ (i := 14) (N := some 63) (v := ?_) (a' := ?_) (zm 30 65535) rfl rfl (take_ofW HT_.out HW_.out (by kernel_rfl)) (fun _ _ _ h => h) (Or.inl ⟨by rfl, ?_⟩) hHeld ?_ ?_
                 rotate_left
                 ·rintro w' ⟨s0, s1, s2, s3, s4, s5, s6, s7, s8, s9, s10⟩
                  go_simp
                  with_reducible rfl
                 rotate_left
                 ·simp only [Act.put, List.setIfInBounds_toArray, List.set_cons_zero, List.set_cons_succ, i64_w, i32_w]
                  rfl
                 refine take_ (i := 16) (N := some 65) (v := ?_) (a' := ?_) (zm 30 131071) rfl rfl (take_ofW HT_.out HW_.out (by kernel_rfl)) (fun _ _ _ h => h) (Or.inl ⟨by rfl, ?_⟩) hHeld ?_ ?_
                 rotate_left
                 ·rintro w' ⟨s0, s1, s2, s3, s4, s5, s6, s7, s8, s9, s10⟩
                  go_simp
                  with_reducible rfl
                 rotate_left
                 ·simp only [Act.put, List.setIfInBounds_toArray, List.set_cons_zero, List.set_cons_succ, i64_w, i32_w]
                  rfl
                 refine zp 17 66 (zm 30 262143) ?_
                 refine zp 18 67 (zm 30 524287) ?_
                 refine zp 19 68 (zm 30 1048575) ?_
                 refine zp 20 69 (zm 30 2097151) ?_
                 refine zu 21 70 (zm 30 4194303) ?_
                 refine zu 22 71 (zm 30 8388607) ?_
                 refine zu 23 72 (zm 30 16777215) ?_
                 refine zu 24 73 (zm 30 33554431) ?_
                 refine zu 25 74 (zm 30 67108863) ?_
                 refine zu 26 75 (zm 30 134217727) ?_
                 refine zu 27 76 (zm 30 268435455) ?_
                 refine zu 28 77 (zm 30 536870911) ?_
                 refine zp 29 78 (zm 30 1073741823) ?_
                 refine done_ (done_of HT_.out (by kernel_rfl)) ?_
                 try go_wp2
                 go_meet
                 case rel => exact ⟨_, (true), (zE _), H', ⟨by have := HJ1.out; have := HK2.out; have := HK3.out; first | omega | exact Nat.le_refl _⟩, ⟨by (with_reducible repeat (first | refine blk_drewN ?_ _ | refine blk_drew ?_ | refine blk_alloc ?_ _)); exact BK151.out⟩, ⟨by (with_reducible repeat (first | refine blk_drewN ?_ _ | refine blk_drew ?_ | refine blk_alloc ?_ _)); exact BK155.out⟩, ⟨zb _⟩⟩
               ·rw [if_neg c31] at H
                exact absurd H (by simp)
              ·rw [if_neg c30] at H
               exact absurd H (by simp)
             ·rw [if_neg c28] at H
              have c28b0 : decide (0 < x4_3) = false := decide_eq_false c28
              clear c28
              (first | rw [c28b0] | (simp only [i64_w, i32_w]; rw [c28b0]) | skip)
              obtain ⟨t159, A380, H⟩ := Option.bind_eq_some_iff.mp H
              have A38 := Aside0.mk A380
              clear A380
              have H' := Aside0.mk H
              clear H
              try go_wp2
              have n0_ : Aside0 (((((w23.setCell ⟨gb155, 0, none⟩ (.string ((rd_T45 l0_1 x4_3).f0))).setCell ⟨gb155, 1, none⟩ (.int .i64 ((rd_T45 l0_1 x4_3).f1))).setCell ⟨gb155, 2, none⟩ (.int .i64 ((rd_T45 l0_1 x4_3).f2))).setCell ⟨gb155, 3, none⟩ (.bool ((rd_T45 l0_1 x4_3).f3))).heap[gb151]? = some (.cells #[.slice A0_0 l0_0.length c0_0, .slice (some ad154) l0_1.length c0_1, .slice A0_2 l0_2.length c0_2] 33 (0, 0))) := ⟨by (with_reducible repeat (first | refine blk_drewN ?_ _ | refine blk_drew ?_ | refine blk_alloc ?_ _)); refine blk_far ?_ NB151_155.out _; (with_reducible repeat (first | refine blk_drewN ?_ _ | refine blk_drew ?_ | refine blk_alloc ?_ _)); refine blk_far ?_ NB151_155.out _; (with_reducible repeat (first | refine blk_drewN ?_ _ | refine blk_drew ?_ | refine blk_alloc ?_ _)); refine blk_far ?_ NB151_155.out _; (with_reducible repeat (first | refine blk_drewN ?_ _ | refine blk_drew ?_ | refine blk_alloc ?_ _)); refine blk_far ?_ NB151_155.out _; (with_reducible repeat (first | refine blk_drewN ?_ _ | refine blk_drew ?_ | refine blk_alloc ?_ _)); exact BK151.out⟩
              have n1_ : Aside0 (((((w23.setCell ⟨gb155, 0, none⟩ (.string ((rd_T45 l0_1 x4_3).f0))).setCell ⟨gb155, 1, none⟩ (.int .i64 ((rd_T45 l0_1 x4_3).f1))).setCell ⟨gb155, 2, none⟩ (.int .i64 ((rd_T45 l0_1 x4_3).f2))).setCell ⟨gb155, 3, none⟩ (.bool ((rd_T45 l0_1 x4_3).f3))).heap[gb155]? = some (.cells #[.string ((rd_T45 l0_1 x4_3).f0), .int .i64 ((rd_T45 l0_1 x4_3).f1), .int .i64 ((rd_T45 l0_1 x4_3).f2), .bool ((rd_T45 l0_1 x4_3).f3)] 45 (0, 0))) := ⟨by (with_reducible repeat (first | refine blk_drewN ?_ _ | refine blk_drew ?_ | refine blk_alloc ?_ _)); refine blk_put (cs := #[.string ((rd_T45 l0_1 x4_3).f0), .int .i64 ((rd_T45 l0_1 x4_3).f1), .int .i64 ((rd_T45 l0_1 x4_3).f2), .bool false]) ?_ 3 _ rfl; (with_reducible repeat (first | refine blk_drewN ?_ _ | refine blk_drew ?_ | refine blk_alloc ?_ _)); refine blk_put (cs := #[.string ((rd_T45 l0_1 x4_3).f0), .int .i64 ((rd_T45 l0_1 x4_3).f1), .int .i64 0, .bool false]) ?_ 2 _ rfl; (with_reducible repeat (first | refine blk_drewN ?_ _ | refine blk_drew ?_ | refine blk_alloc ?_ _)); refine blk_put (cs := #[.string ((rd_T45 l0_1 x4_3).f0), .int .i64 0, .int .i64 0, .bool false]) ?_ 1 _ rfl; (with_reducible repeat (first | refine blk_drewN ?_ _ | refine blk_drew ?_ | refine blk_alloc ?_ _)); refine blk_put (cs := #[.string (⟨#[]⟩ : ByteArray), .int .i64 0, .int .i64 0, .bool false]) ?_ 0 _ rfl; (with_reducible repeat (first | refine blk_drewN ?_ _ | refine blk_drew ?_ | refine blk_alloc ?_ _)); exact BK155.out⟩
              have n2_ : Aside0 (Below w.heap.size w ((((w23.setCell ⟨gb155, 0, none⟩ (.string ((rd_T45 l0_1 x4_3).f0))).setCell ⟨gb155, 1, none⟩ (.int .i64 ((rd_T45 l0_1 x4_3).f1))).setCell ⟨gb155, 2, none⟩ (.int .i64 ((rd_T45 l0_1 x4_3).f2))).setCell ⟨gb155, 3, none⟩ (.bool ((rd_T45 l0_1 x4_3).f3)))) := ⟨zb _⟩
              (try clear BK151)
              (try clear BK155)
              (try clear HB)
              generalize ((((w23.setCell ⟨gb155, 0, none⟩ (.string ((rd_T45 l0_1 x4_3).f0))).setCell ⟨gb155, 1, none⟩ (.int .i64 ((rd_T45 l0_1 x4_3).f1))).setCell ⟨gb155, 2, none⟩ (.int .i64 ((rd_T45 l0_1 x4_3).f2))).setCell ⟨gb155, 3, none⟩ (.bool ((rd_T45 l0_1 x4_3).f3))) = w39 at n0_ n1_ n2_ ⊢
              have BK151 := n0_
              have BK155 := n1_
              have HB := n2_
              clear n0_ n1_ n2_
              have n0_ := Aside0.mk (blk_drew BK151.out)
              have n1_ := Aside0.mk (blk_drew BK155.out)
              have n2_ := Aside0.mk (below_drew1 HB.out)
              clear BK151
              clear BK155
              clear HB
              have BK151 := n0_
              have BK155 := n1_
              have HB := n2_
              clear n0_ n1_ n2_
              refine start_ (n := 30) (S := fun w' => w'.cell? ⟨gb155, 0, none⟩ = some (.string ((rd_T45 l0_1 x4_3).f0)) ∧ w'.cell? ⟨gb155, 1, none⟩ = some (.int .i64 ((rd_T45 l0_1 x4_3).f1)) ∧ w'.cell? ⟨gb155, 2, none⟩ = some (.int .i64 ((rd_T45 l0_1 x4_3).f2)) ∧ w'.cell? ⟨gb155, 3, none⟩ = some (.bool ((rd_T45 l0_1 x4_3).f3)) ∧ w'.cell? ⟨gb151, 0, none⟩ = some (.slice A0_0 l0_0.length c0_0) ∧ w'.cell? ⟨gb151, 1, none⟩ = some (.slice (some ad154) l0_1.length c0_1) ∧ w'.cell? ⟨gb151, 2, none⟩ = some (.slice A0_2 l0_2.length c0_2)) (ds := []) (zm 30 0) (by kernel_rfl) rfl rfl ⟨(blk_cell BK155.out 0).trans rfl, (blk_cell BK155.out 1).trans rfl, (blk_cell BK155.out 2).trans rfl, (blk_cell BK155.out 3).trans rfl, (blk_cell BK151.out 0).trans rfl, (blk_cell BK151.out 1).trans rfl, (blk_cell BK151.out 2).trans rfl⟩ (fun hHeld => ?_); refine with_tabW spec_ObjectOk.tab12 spec_ObjectOk.bits12 (fun HT_ HW_ => ?_)
              generalize w39.drew = w40 at BK151 BK155 HB hHeld ⊢
              refine zp 0 49 (zm 30 1) ?_
              refine take_ (i := 1) (N := some 50) (v := ?_) (a' := ?_) (zm 30 3) rfl rfl (take_ofW HT_.out HW_.out (by kernel_rfl)) (fun _ _ _ h => h) (Or.inl ⟨by rfl, ?_⟩) hHeld ?_ ?_
              rotate_left
              ·rintro w' ⟨s0, s1, s2, s3, s4, s5, s6⟩
               go_simp
               with_reducible rfl
              rotate_left
              ·simp only [Act.put, List.setIfInBounds_toArray, List.set_cons_zero, List.set_cons_succ, i64_w, i32_w]
               rfl
              refine one_ (i := 2) (N := some 51) (zm 30 7) rfl rfl (one_of HT_.out (by kernel_rfl)) (by decide) (fun K hK => ?_)
              refine zi Try.func13 #[.string ((rd_T45 l0_1 x4_3).f0)] ?_
              with_reducible refine (spec_NameOk.calls k3 ((rd_T45 l0_1 x4_3).f0) true _ A26.out).mono ?_
              rintro e w' ⟨rfl, ⟨nd, rfl⟩⟩
              refine ⟨_, rfl, ?_⟩
              refine hK.out _ _ ⟨(blk_cell BK155.out 0).trans rfl, (blk_cell BK155.out 1).trans rfl, (blk_cell BK155.out 2).trans rfl, (blk_cell BK155.out 3).trans rfl, (blk_cell BK151.out 0).trans rfl, (blk_cell BK151.out 1).trans rfl, (blk_cell BK151.out 2).trans rfl⟩ (fun hHeld => ?_)
              clear hK K
              refine zq ?_
              refine zp 3 52 (zm 30 15) ?_
              refine zp 4 53 (zm 30 31) ?_
              refine zp 5 54 (zm 30 63) ?_
              refine zp 6 55 (zm 30 127) ?_
              refine zp 7 56 (zm 30 255) ?_
              refine zu 8 57 (zm 30 511) ?_
              refine zu 9 58 (zm 30 1023) ?_
              refine zu 10 59 (zm 30 2047) ?_
              refine zu 11 60 (zm 30 4095) ?_
              refine zu 12 61 (zm 30 8191) ?_
              refine zu 13 62 (zm 30 16383) ?_
              refine zu 14 63 (zm 30 32767) ?_
              refine zu 15 64 (zm 30 65535) ?_
              refine zu 16 65 (zm 30 131071) ?_
              refine zu 17 66 (zm 30 262143) ?_
              refine zp 18 67 (zm 30 524287) ?_
              refine zp 19 68 (zm 30 1048575) ?_
              refine zp 20 69 (zm 30 2097151) ?_
              refine zp 21 70 (zm 30 4194303) ?_
              refine zp 23 72 (zm 30 12582911) ?_
              refine take_ (i := 22) (N := some 71) (v := ?_) (a' := ?_) (zm 30 16777215) rfl rfl (take_ofW HT_.out HW_.out (by kernel_rfl)) (fun _ _ _ h => h) (Or.inl ⟨by rfl, ?_⟩) hHeld ?_ ?_
              rotate_left
              ·rintro w' ⟨s0, s1, s2, s3, s4, s5, s6⟩
               go_simp
               with_reducible rfl
              rotate_left
              ·simp only [Act.put, List.setIfInBounds_toArray, List.set_cons_zero, List.set_cons_succ, i64_w, i32_w]
               rfl
              refine take_ (i := 24) (N := some 73) (v := ?_) (a' := ?_) (zm 30 33554431) rfl rfl (take_ofW HT_.out HW_.out (by kernel_rfl)) (fun _ _ _ h => h) (Or.inl ⟨by rfl, ?_⟩) hHeld ?_ ?_
              rotate_left
              ·rintro w' ⟨s0, s1, s2, s3, s4, s5, s6⟩
               go_simp
               with_reducible rfl
              rotate_left
              ·simp only [Act.put, List.setIfInBounds_toArray, List.set_cons_zero, List.set_cons_succ, i64_w, i32_w]
               rfl
              refine zp 25 74 (zm 30 67108863) ?_
              refine zp 26 75 (zm 30 134217727) ?_
              refine one_ (i := 27) (N := some 76) (zm 30 268435455) rfl rfl (one_of HT_.out (by kernel_rfl)) (by decide) (fun K hK => ?_)
              refine zi Try.func14 #[.int .i64 ((rd_T45 l0_1 x4_3).f1), .int .i64 (-1), .int .i64 (wrap64 ((l0_0.length : Int) - 1))] ?_
              with_reducible refine (spec_l1In.calls ((rd_T45 l0_1 x4_3).f1) (-1) (wrap64 ((l0_0.length : Int) - 1)) t159 _ A38.out).mono ?_
              rintro e w' ⟨rfl, ⟨nd, rfl⟩⟩
              refine ⟨_, rfl, ?_⟩
              refine hK.out _ _ ⟨(blk_cell BK155.out 0).trans rfl, (blk_cell BK155.out 1).trans rfl, (blk_cell BK155.out 2).trans rfl, (blk_cell BK155.out 3).trans rfl, (blk_cell BK151.out 0).trans rfl, (blk_cell BK151.out 1).trans rfl, (blk_cell BK151.out 2).trans rfl⟩ (fun hHeld => ?_)
              clear hK K
              refine zq ?_
              refine zp 28 77 (zm 30 536870911) ?_
              refine zp 29 78 (zm 30 1073741823) ?_
              refine done_ (done_of HT_.out (by kernel_rfl)) ?_
              try go_wp2
              go_meet
              case rel => exact ⟨_, (!t159), (zE _), H', ⟨by have := HJ1.out; have := HK2.out; have := HK3.out; first | omega | exact Nat.le_refl _⟩, ⟨by (with_reducible repeat (first | refine blk_drewN ?_ _ | refine blk_drew ?_ | refine blk_alloc ?_ _)); exact BK151.out⟩, ⟨by (with_reducible repeat (first | refine blk_drewN ?_ _ | refine blk_drew ?_ | refine blk_alloc ?_ _)); exact BK155.out⟩, ⟨zb _⟩⟩
            ·replace c27 := Bool.eq_false_iff.mpr c27
             subst c27
             rw [if_neg (show ¬ (false = true) by decide)] at H
             have H' := Aside0.mk H
             clear H
             try go_wp2
             have n0_ : Aside0 (((((w23.setCell ⟨gb155, 0, none⟩ (.string ((rd_T45 l0_1 x4_3).f0))).setCell ⟨gb155, 1, none⟩ (.int .i64 ((rd_T45 l0_1 x4_3).f1))).setCell ⟨gb155, 2, none⟩ (.int .i64 ((rd_T45 l0_1 x4_3).f2))).setCell ⟨gb155, 3, none⟩ (.bool ((rd_T45 l0_1 x4_3).f3))).heap[gb151]? = some (.cells #[.slice A0_0 l0_0.length c0_0, .slice (some ad154) l0_1.length c0_1, .slice A0_2 l0_2.length c0_2] 33 (0, 0))) := ⟨by (with_reducible repeat (first | refine blk_drewN ?_ _ | refine blk_drew ?_ | refine blk_alloc ?_ _)); refine blk_far ?_ NB151_155.out _; (with_reducible repeat (first | refine blk_drewN ?_ _ | refine blk_drew ?_ | refine blk_alloc ?_ _)); refine blk_far ?_ NB151_155.out _; (with_reducible repeat (first | refine blk_drewN ?_ _ | refine blk_drew ?_ | refine blk_alloc ?_ _)); refine blk_far ?_ NB151_155.out _; (with_reducible repeat (first | refine blk_drewN ?_ _ | refine blk_drew ?_ | refine blk_alloc ?_ _)); refine blk_far ?_ NB151_155.out _; (with_reducible repeat (first | refine blk_drewN ?_ _ | refine blk_drew ?_ | refine blk_alloc ?_ _)); exact BK151.out⟩
             have n1_ : Aside0 (((((w23.setCell ⟨gb155, 0, none⟩ (.string ((rd_T45 l0_1 x4_3).f0))).setCell ⟨gb155, 1, none⟩ (.int .i64 ((rd_T45 l0_1 x4_3).f1))).setCell ⟨gb155, 2, none⟩ (.int .i64 ((rd_T45 l0_1 x4_3).f2))).setCell ⟨gb155, 3, none⟩ (.bool ((rd_T45 l0_1 x4_3).f3))).heap[gb155]? = some (.cells #[.string ((rd_T45 l0_1 x4_3).f0), .int .i64 ((rd_T45 l0_1 x4_3).f1), .int .i64 ((rd_T45 l0_1 x4_3).f2), .bool ((rd_T45 l0_1 x4_3).f3)] 45 (0, 0))) := ⟨by (with_reducible repeat (first | refine blk_drewN ?_ _ | refine blk_drew ?_ | refine blk_alloc ?_ _)); refine blk_put (cs := #[.string ((rd_T45 l0_1 x4_3).f0), .int .i64 ((rd_T45 l0_1 x4_3).f1), .int .i64 ((rd_T45 l0_1 x4_3).f2), .bool false]) ?_ 3 _ rfl; (with_reducible repeat (first | refine blk_drewN ?_ _ | refine blk_drew ?_ | refine blk_alloc ?_ _)); refine blk_put (cs := #[.string ((rd_T45 l0_1 x4_3).f0), .int .i64 ((rd_T45 l0_1 x4_3).f1), .int .i64 0, .bool false]) ?_ 2 _ rfl; (with_reducible repeat (first | refine blk_drewN ?_ _ | refine blk_drew ?_ | refine blk_alloc ?_ _)); refine blk_put (cs := #[.string ((rd_T45 l0_1 x4_3).f0), .int .i64 0, .int .i64 0, .bool false]) ?_ 1 _ rfl; (with_reducible repeat (first | refine blk_drewN ?_ _ | refine blk_drew ?_ | refine blk_alloc ?_ _)); refine blk_put (cs := #[.string (⟨#[]⟩ : ByteArray), .int .i64 0, .int .i64 0, .bool false]) ?_ 0 _ rfl; (with_reducible repeat (first | refine blk_drewN ?_ _ | refine blk_drew ?_ | refine blk_alloc ?_ _)); exact BK155.out⟩
             have n2_ : Aside0 (Below w.heap.size w ((((w23.setCell ⟨gb155, 0, none⟩ (.string ((rd_T45 l0_1 x4_3).f0))).setCell ⟨gb155, 1, none⟩ (.int .i64 ((rd_T45 l0_1 x4_3).f1))).setCell ⟨gb155, 2, none⟩ (.int .i64 ((rd_T45 l0_1 x4_3).f2))).setCell ⟨gb155, 3, none⟩ (.bool ((rd_T45 l0_1 x4_3).f3)))) := ⟨zb _⟩
             (try clear BK151)
             (try clear BK155)
             (try clear HB)
             generalize ((((w23.setCell ⟨gb155, 0, none⟩ (.string ((rd_T45 l0_1 x4_3).f0))).setCell ⟨gb155, 1, none⟩ (.int .i64 ((rd_T45 l0_1 x4_3).f1))).setCell ⟨gb155, 2, none⟩ (.int .i64 ((rd_T45 l0_1 x4_3).f2))).setCell ⟨gb155, 3, none⟩ (.bool ((rd_T45 l0_1 x4_3).f3))) = w41 at n0_ n1_ n2_ ⊢
             have BK151 := n0_
             have BK155 := n1_
             have HB := n2_
             clear n0_ n1_ n2_
             have n0_ := Aside0.mk (blk_drew BK151.out)
             have n1_ := Aside0.mk (blk_drew BK155.out)
             have n2_ := Aside0.mk (below_drew1 HB.out)
             clear BK151
             clear BK155
             clear HB
             have BK151 := n0_
             have BK155 := n1_
             have HB := n2_
             clear n0_ n1_ n2_
             refine start_ (n := 30) (S := fun w' => w'.cell? ⟨gb155, 0, none⟩ = some (.string ((rd_T45 l0_1 x4_3).f0)) ∧ w'.cell? ⟨gb155, 1, none⟩ = some (.int .i64 ((rd_T45 l0_1 x4_3).f1)) ∧ w'.cell? ⟨gb155, 2, none⟩ = some (.int .i64 ((rd_T45 l0_1 x4_3).f2)) ∧ w'.cell? ⟨gb155, 3, none⟩ = some (.bool ((rd_T45 l0_1 x4_3).f3))) (ds := []) (zm 30 0) (by kernel_rfl) rfl rfl ⟨(blk_cell BK155.out 0).trans rfl, (blk_cell BK155.out 1).trans rfl, (blk_cell BK155.out 2).trans rfl, (blk_cell BK155.out 3).trans rfl⟩ (fun hHeld => ?_); refine with_tabW spec_ObjectOk.tab12 spec_ObjectOk.bits12 (fun HT_ HW_ => ?_)
             generalize w41.drew = w42 at BK151 BK155 HB hHeld ⊢
             refine zp 0 49 (zm 30 1) ?_
             refine take_ (i := 1) (N := some 50) (v := ?_) (a' := ?_) (zm 30 3) rfl rfl (take_ofW HT_.out HW_.out (by kernel_rfl)) (fun _ _ _ h => h) (Or.inl ⟨by rfl, ?_⟩) hHeld ?_ ?_
             rotate_left
             ·rintro w' ⟨s0, s1, s2, s3⟩
              go_simp
              with_reducible rfl
             rotate_left
             ·simp only [Act.put, List.setIfInBounds_toArray, List.set_cons_zero, List.set_cons_succ, i64_w, i32_w]
              rfl
             refine one_ (i := 2) (N := some 51) (zm 30 7) rfl rfl (one_of HT_.out (by kernel_rfl)) (by decide) (fun K hK => ?_)
             refine zi Try.func13 #[.string ((rd_T45 l0_1 x4_3).f0)] ?_
             with_reducible refine (spec_NameOk.calls k3 ((rd_T45 l0_1 x4_3).f0) false _ A26.out).mono ?_
             rintro e w' ⟨rfl, ⟨nd, rfl⟩⟩
             refine ⟨_, rfl, ?_⟩
             refine hK.out _ _ ⟨(blk_cell BK155.out 0).trans rfl, (blk_cell BK155.out 1).trans rfl, (blk_cell BK155.out 2).trans rfl, (blk_cell BK155.out 3).trans rfl⟩ (fun hHeld => ?_)
             clear hK K
             refine zq ?_
             refine zp 3 52 (zm 30 15) ?_
             refine zp 4 53 (zm 30 31) ?_
             refine zu 5 54 (zm 30 63) ?_
             refine zu 6 55 (zm 30 127) ?_
             refine zu 7 56 (zm 30 255) ?_
             refine zu 8 57 (zm 30 511) ?_
             refine zu 9 58 (zm 30 1023) ?_
             refine zu 10 59 (zm 30 2047) ?_
             refine zu 11 60 (zm 30 4095) ?_
             refine zu 12 61 (zm 30 8191) ?_
             refine zu 13 62 (zm 30 16383) ?_
             refine zu 14 63 (zm 30 32767) ?_
             refine zu 15 64 (zm 30 65535) ?_
             refine zu 16 65 (zm 30 131071) ?_
             refine zu 17 66 (zm 30 262143) ?_
             refine zu 18 67 (zm 30 524287) ?_
             refine zp 19 68 (zm 30 1048575) ?_
             refine zp 20 69 (zm 30 2097151) ?_
             refine zu 21 70 (zm 30 4194303) ?_
             refine zu 22 71 (zm 30 8388607) ?_
             refine zu 23 72 (zm 30 16777215) ?_
             refine zu 24 73 (zm 30 33554431) ?_
             refine zu 25 74 (zm 30 67108863) ?_
             refine zu 26 75 (zm 30 134217727) ?_
             refine zu 27 76 (zm 30 268435455) ?_
             refine zu 28 77 (zm 30 536870911) ?_
             refine zp 29 78 (zm 30 1073741823) ?_
             refine done_ (done_of HT_.out (by kernel_rfl)) ?_
             try go_wp2
             go_meet
             case rel => exact ⟨_, (true), (zE _), H', ⟨by have := HJ1.out; have := HK2.out; have := HK3.out; first | omega | exact Nat.le_refl _⟩, ⟨by (with_reducible repeat (first | refine blk_drewN ?_ _ | refine blk_drew ?_ | refine blk_alloc ?_ _)); exact BK151.out⟩, ⟨by (with_reducible repeat (first | refine blk_drewN ?_ _ | refine blk_drew ?_ | refine blk_alloc ?_ _)); exact BK155.out⟩, ⟨zb _⟩⟩
           case rest =>
            clear HC21
            try clear c1
            try clear c2
            try clear p2
            try clear c3
            try clear p6
            try clear c13
            try clear c14
            try clear c27
            try clear c28
            try clear c28b0
            try clear c30
            try clear c31
            obtain ⟨kq, x78_20, rfl, HA, HJ20, BK151, BK155, HB⟩ := hcut
            cases kq with
            | zero => exact absurd HA.out (by simp [spec_ObjectOk.j3])
            | succ kj20 =>
             have H := HA.out
             clear HA
             simp only [spec_ObjectOk.j3] at H
             by_cases c43 : x78_20 = true
             ·subst c43
              rw [if_pos rfl] at H
              obtain rfl := Option.some.inj H
              go_wp2
              go_ret
              exact ⟨ze _, zb _⟩
             ·replace c43 := Bool.eq_false_iff.mpr c43
              subst c43
              rw [if_neg (show ¬ (false = true) by decide)] at H
              by_cases c44 : ((rd_T45 l0_1 x4_3).f1) ≥ 0
              ·rw [if_pos c44] at H
               have c44b0 : decide (0 ≤ ((rd_T45 l0_1 x4_3).f1)) = true := decide_eq_true c44
               clear c44
               by_cases c45 : 0 ≤ ((rd_T45 l0_1 x4_3).f1)
               ·rw [if_pos c45] at H
                have c45b0 : decide (0 ≤ ((rd_T45 l0_1 x4_3).f1)) = true := decide_eq_true c45
                clear c45
                by_cases c46 : ((rd_T45 l0_1 x4_3).f1) < (l0_0.length : Int)
                ·rw [if_pos c46] at H
                 have c46b0 : decide (((rd_T45 l0_1 x4_3).f1) < (l0_0.length : Int)) = true := decide_eq_true c46
                 clear c46
                 obtain ⟨t161, A470, H⟩ := Option.bind_eq_some_iff.mp H
                 have A47 := Aside0.mk A470
                 clear A470
                 by_cases c48 : t161 = true
                 ·subst c48
                  rw [if_pos rfl] at H
                  by_cases c49 : ((rd_T45 l0_1 x4_3).f1) < 0
                  ·rw [if_pos c49] at H
                   have c49b0 : decide (((rd_T45 l0_1 x4_3).f1) < 0) = true := decide_eq_true c49
                   clear c49
                   obtain ⟨t162, A500, H⟩ := Option.bind_eq_some_iff.mp H
                   have A50 := Aside0.mk A500
                   clear A500
                   by_cases c51 : t162 = true
                   ·subst c51
                    rw [if_pos rfl] at H
                    have H' := Aside0.mk H
                    clear H
                    try go_wp2
                    have n0_ := Aside0.mk (blk_drew BK151.out)
                    have n1_ := Aside0.mk (blk_drew BK155.out)
                    have n2_ := Aside0.mk (below_drew1 HB.out)
                    clear BK151
                    clear BK155
                    clear HB
                    have BK151 := n0_
                    have BK155 := n1_
                    have HB := n2_
                    clear n0_ n1_ n2_
                    have p160 : 0 ≤ (((rd_T45 l0_1 x4_3).f1) : Int) := of_decide_eq_true (za _)
                    have q160 : ((rd_T45 l0_1 x4_3).f1) < (l0_0.length : Int) := of_decide_eq_true (za _)
                    obtain ⟨ad160, A160_5, c160_5, e160, hx160_0, hx160_1, hx160_2, hx160_3, hx160_4, hx160_5, hl160_5, hi160_5⟩ := at_T43 HR0_0.out ((rd_T45 l0_1 x4_3).f1) p160 q160
                    have hw160_5 := hx160_5
                    have hw160_4 := hx160_4
                    have hw160_3 := hx160_3
                    have hw160_2 := hx160_2
                    have hw160_1 := hx160_1
                    have hw160_0 := hx160_0
                    cases e160
                    replace hx160_0 := (HB.out.cell (World.block_lt_of_cell? w _ hx160_0)).trans hx160_0
                    replace hx160_1 := (HB.out.cell (World.block_lt_of_cell? w _ hx160_1)).trans hx160_1
                    replace hx160_2 := (HB.out.cell (World.block_lt_of_cell? w _ hx160_2)).trans hx160_2
                    replace hx160_3 := (HB.out.cell (World.block_lt_of_cell? w _ hx160_3)).trans hx160_3
                    replace hx160_4 := (HB.out.cell (World.block_lt_of_cell? w _ hx160_4)).trans hx160_4
                    replace hx160_5 := (HB.out.cell (World.block_lt_of_cell? w _ hx160_5)).trans hx160_5
                    have HR160_5 := Aside0.mk hi160_5
                    have HC160_5 := Aside0.mk hl160_5
                    clear hi160_5 hl160_5
                    replace p160 := eq_true p160
                    replace q160 := eq_true q160
                    refine start_ (n := 28) (S := fun w' => w'.cell? ⟨gb155, 0, none⟩ = some (.string ((rd_T45 l0_1 x4_3).f0)) ∧ w'.cell? ⟨gb155, 1, none⟩ = some (.int .i64 ((rd_T45 l0_1 x4_3).f1)) ∧ w'.cell? ⟨gb155, 2, none⟩ = some (.int .i64 ((rd_T45 l0_1 x4_3).f2)) ∧ w'.cell? ⟨gb155, 3, none⟩ = some (.bool ((rd_T45 l0_1 x4_3).f3)) ∧ w'.cell? ⟨gb151, 0, none⟩ = some (.slice (some ad160) l0_0.length c0_0) ∧ w'.cell? ⟨gb151, 1, none⟩ = some (.slice (some ad154) l0_1.length c0_1) ∧ w'.cell? ⟨gb151, 2, none⟩ = some (.slice A0_2 l0_2.length c0_2) ∧ w'.cell? (ad160.add ((((rd_T45 l0_1 x4_3).f1)).toNat * 6)) = some (.string ((rd_T43 l0_0 ((rd_T45 l0_1 x4_3).f1)).f0)) ∧ w'.cell? ⟨(ad160.add ((((rd_T45 l0_1 x4_3).f1)).toNat * 6)).block, (ad160.add ((((rd_T45 l0_1 x4_3).f1)).toNat * 6)).off + 1, none⟩ = some (.int .i64 ((rd_T43 l0_0 ((rd_T45 l0_1 x4_3).f1)).f1)) ∧ w'.cell? ⟨(ad160.add ((((rd_T45 l0_1 x4_3).f1)).toNat * 6)).block, (ad160.add ((((rd_T45 l0_1 x4_3).f1)).toNat * 6)).off + 2, none⟩ = some (.int .i64 ((rd_T43 l0_0 ((rd_T45 l0_1 x4_3).f1)).f2)) ∧ w'.cell? ⟨(ad160.add ((((rd_T45 l0_1 x4_3).f1)).toNat * 6)).block, (ad160.add ((((rd_T45 l0_1 x4_3).f1)).toNat * 6)).off + 3, none⟩ = some (.int .i64 ((rd_T43 l0_0 ((rd_T45 l0_1 x4_3).f1)).f3)) ∧ w'.cell? ⟨(ad160.add ((((rd_T45 l0_1 x4_3).f1)).toNat * 6)).block, (ad160.add ((((rd_T45 l0_1 x4_3).f1)).toNat * 6)).off + 4, none⟩ = some (.string ((rd_T43 l0_0 ((rd_T45 l0_1 x4_3).f1)).f4)) ∧ w'.cell? ⟨(ad160.add ((((rd_T45 l0_1 x4_3).f1)).toNat * 6)).block, (ad160.add ((((rd_T45 l0_1 x4_3).f1)).toNat * 6)).off + 5, none⟩ = some (.slice A160_5 ((rd_T43 l0_0 ((rd_T45 l0_1 x4_3).f1)).f5).length c160_5)) (ds := []) (zm 28 0) (by kernel_rfl) rfl rfl ⟨(blk_cell BK155.out 0).trans rfl, (blk_cell BK155.out 1).trans rfl, (blk_cell BK155.out 2).trans rfl, (blk_cell BK155.out 3).trans rfl, (blk_cell BK151.out 0).trans rfl, (blk_cell BK151.out 1).trans rfl, (blk_cell BK151.out 2).trans rfl, ((HB.out.cell (World.block_lt_of_cell? w _ hw160_0)).trans hw160_0), ((HB.out.cell (World.block_lt_of_cell? w _ hw160_1)).trans hw160_1), ((HB.out.cell (World.block_lt_of_cell? w _ hw160_2)).trans hw160_2), ((HB.out.cell (World.block_lt_of_cell? w _ hw160_3)).trans hw160_3), ((HB.out.cell (World.block_lt_of_cell? w _ hw160_4)).trans hw160_4), ((HB.out.cell (World.block_lt_of_cell? w _ hw160_5)).trans hw160_5)⟩ (fun hHeld => ?_); refine with_tabW spec_ObjectOk.tab14 spec_ObjectOk.bits14 (fun HT_ HW_ => ?_)
                    generalize wc.drew = w52 at BK151 BK155 HB HR160_5 hx160_0 hx160_1 hx160_2 hx160_3 hx160_4 hx160_5 hHeld ⊢
                    refine zp 0 79 (zm 28 1) ?_
                    refine take_ (i := 1) (N := some 80) (v := ?_) (a' := ?_) (zm 28 3) rfl rfl (take_ofW HT_.out HW_.out (by kernel_rfl)) (fun _ _ _ h => h) (Or.inl ⟨by rfl, ?_⟩) hHeld ?_ ?_
                    rotate_left
                    ·rintro w' ⟨s0, s1, s2, s3, s4, s5, s6, s7, s8, s9, s10, s11, s12⟩
                     go_simp
                     with_reducible rfl
                    rotate_left
                    ·simp only [Act.put, List.setIfInBounds_toArray, List.set_cons_zero, List.set_cons_succ, i64_w, i32_w]
                     rfl
                    refine zp 2 81 (zm 28 7) ?_
                    refine zp 3 82 (zm 28 15) ?_
                    refine zp 4 83 (zm 28 31) ?_
                    refine zp 6 85 (zm 28 95) ?_
                    refine zp 8 87 (zm 28 351) ?_
                    refine take_ (i := 5) (N := some 84) (v := ?_) (a' := ?_) (zm 28 383) rfl rfl (take_ofW HT_.out HW_.out (by kernel_rfl)) (fun _ _ _ h => h) (Or.inl ⟨by rfl, ?_⟩) hHeld ?_ ?_
                    rotate_left
                    ·rintro w' ⟨s0, s1, s2, s3, s4, s5, s6, s7, s8, s9, s10, s11, s12⟩
                     go_simp
                     with_reducible rfl
                    rotate_left
                    ·simp only [Act.put, List.setIfInBounds_toArray, List.set_cons_zero, List.set_cons_succ, i64_w, i32_w]
                     rfl
                    refine take_ (i := 7) (N := some 86) (v := ?_) (a' := ?_) (zm 28 511) rfl rfl (take_ofW HT_.out HW_.out (by kernel_rfl)) (fun _ _ _ h => h) (Or.inl ⟨by rfl, ?_⟩) hHeld ?_ ?_
                    rotate_left
                    ·rintro w' ⟨s0, s1, s2, s3, s4, s5, s6, s7, s8, s9, s10, s11, s12⟩
                     go_simp
                     with_reducible rfl
                    rotate_left
                    ·simp only [Act.put, List.setIfInBounds_toArray, List.set_cons_zero, List.set_cons_succ, i64_w, i32_w]
                     rfl
                    refine take_ (i := 9) (N := some 88) (v := ?_) (a' := ?_) (zm 28 1023) rfl rfl (take_ofW HT_.out HW_.out (by kernel_rfl)) (fun _ _ _ h => h) (Or.inl ⟨by rfl, ?_⟩) hHeld ?_ ?_
                    rotate_left
                    ·rintro w' ⟨s0, s1, s2, s3, s4, s5, s6, s7, s8, s9, s10, s11, s12⟩
                     go_simp
                     with_reducible rfl
                    rotate_left
                    ·simp only [Act.put, List.setIfInBounds_toArray, List.set_cons_zero, List.set_cons_succ, i64_w, i32_w]
                     rfl
                    refine zp 10 89 (zm 28 2047) ?_
                    refine zp 11 90 (zm 28 4095) ?_
                    refine take_ (i := 12) (N := some 91) (v := ?_) (a' := ?_) (zm 28 8191) rfl rfl (take_ofW HT_.out HW_.out (by kernel_rfl)) (fun _ _ _ h => h) (Or.inl ⟨by rfl, ?_⟩) hHeld ?_ ?_
                    rotate_left
                    ·rintro w' ⟨s0, s1, s2, s3, s4, s5, s6, s7, s8, s9, s10, s11, s12⟩
                     go_simp
                     with_reducible rfl
                    rotate_left
                    ·simp only [Act.put, List.setIfInBounds_toArray, List.set_cons_zero, List.set_cons_succ, i64_w, i32_w]
                     rfl
                    refine zp 13 92 (zm 28 16383) ?_
                    refine one_ (i := 14) (N := some 93) (zm 28 32767) rfl rfl (one_of HT_.out (by kernel_rfl)) (by decide) (fun K hK => ?_)
                    refine zi Try.func14 #[.int .i64 ((rd_T45 l0_1 x4_3).f2), .int .i64 0, .int .i64 (((rd_T43 l0_0 ((rd_T45 l0_1 x4_3).f1)).f4).size : Int)] ?_
                    with_reducible refine (spec_l1In.calls ((rd_T45 l0_1 x4_3).f2) 0 (((rd_T43 l0_0 ((rd_T45 l0_1 x4_3).f1)).f4).size : Int) true _ A47.out).mono ?_
                    rintro e w' ⟨rfl, ⟨nd, rfl⟩⟩
                    refine ⟨_, rfl, ?_⟩
                    refine hK.out _ _ ⟨(blk_cell BK155.out 0).trans rfl, (blk_cell BK155.out 1).trans rfl, (blk_cell BK155.out 2).trans rfl, (blk_cell BK155.out 3).trans rfl, (blk_cell BK151.out 0).trans rfl, (blk_cell BK151.out 1).trans rfl, (blk_cell BK151.out 2).trans rfl, ((HB.out.cell (World.block_lt_of_cell? w _ hw160_0)).trans hw160_0), ((HB.out.cell (World.block_lt_of_cell? w _ hw160_1)).trans hw160_1), ((HB.out.cell (World.block_lt_of_cell? w _ hw160_2)).trans hw160_2), ((HB.out.cell (World.block_lt_of_cell? w _ hw160_3)).trans hw160_3), ((HB.out.cell (World.block_lt_of_cell? w _ hw160_4)).trans hw160_4), ((HB.out.cell (World.block_lt_of_cell? w _ hw160_5)).trans hw160_5)⟩ (fun hHeld => ?_)
                    clear hK K
                    refine zq ?_
                    refine zp 15 94 (zm 28 65535) ?_
                    refine zp 16 95 (zm 28 131071) ?_
                    refine zp 17 96 (zm 28 262143) ?_
                    refine zp 18 97 (zm 28 524287) ?_
                    refine take_ (i := 19) (N := some 98) (v := ?_) (a' := ?_) (zm 28 1048575) rfl rfl (take_ofW HT_.out HW_.out (by kernel_rfl)) (fun _ _ _ h => h) (Or.inl ⟨by rfl, ?_⟩) hHeld ?_ ?_
                    rotate_left
                    ·rintro w' ⟨s0, s1, s2, s3, s4, s5, s6, s7, s8, s9, s10, s11, s12⟩
                     go_simp
                     with_reducible rfl
                    rotate_left
                    ·simp only [Act.put, List.setIfInBounds_toArray, List.set_cons_zero, List.set_cons_succ, i64_w, i32_w]
                     rfl
                    refine zp 20 99 (zm 28 2097151) ?_
                    refine zp 21 100 (zm 28 4194303) ?_
                    refine zp 22 101 (zm 28 8388607) ?_
                    refine take_ (i := 23) (N := some 102) (v := ?_) (a' := ?_) (zm 28 16777215) rfl rfl (take_ofW HT_.out HW_.out (by kernel_rfl)) (fun _ _ _ h => h) (Or.inl ⟨by rfl, ?_⟩) hHeld ?_ ?_
                    rotate_left
                    ·rintro w' ⟨s0, s1, s2, s3, s4, s5, s6, s7, s8, s9, s10, s11, s12⟩
                     go_simp
                     with_reducible rfl
                    rotate_left
                    ·simp only [Act.put, List.setIfInBounds_toArray, List.set_cons_zero, List.set_cons_succ, i64_w, i32_w]
                     rfl
                    refine one_ (i := 24) (N := some 103) (zm 28 33554431) rfl rfl (one_of HT_.out (by kernel_rfl)) (by decide) (fun K hK => ?_)
                    refine zi Try.func14 #[.int .i64 ((rd_T45 l0_1 x4_3).f2), .int .i64 (-2147483648), .int .i64 2147483647] ?_
                    with_reducible refine (spec_l1In.calls ((rd_T45 l0_1 x4_3).f2) (-2147483648) 2147483647 true _ A50.out).mono ?_
                    rintro e w' ⟨rfl, ⟨nd, rfl⟩⟩
                    refine ⟨_, rfl, ?_⟩
                    refine hK.out _ _ ⟨(blk_cell BK155.out 0).trans rfl, (blk_cell BK155.out 1).trans rfl, (blk_cell BK155.out 2).trans rfl, (blk_cell BK155.out 3).trans rfl, (blk_cell BK151.out 0).trans rfl, (blk_cell BK151.out 1).trans rfl, (blk_cell BK151.out 2).trans rfl, ((HB.out.cell (World.block_lt_of_cell? w _ hw160_0)).trans hw160_0), ((HB.out.cell (World.block_lt_of_cell? w _ hw160_1)).trans hw160_1), ((HB.out.cell (World.block_lt_of_cell? w _ hw160_2)).trans hw160_2), ((HB.out.cell (World.block_lt_of_cell? w _ hw160_3)).trans hw160_3), ((HB.out.cell (World.block_lt_of_cell? w _ hw160_4)).trans hw160_4), ((HB.out.cell (World.block_lt_of_cell? w _ hw160_5)).trans hw160_5)⟩ (fun hHeld => ?_)
                    clear hK K
                    refine zq ?_
                    refine zp 25 104 (zm 28 67108863) ?_
                    refine zp 26 105 (zm 28 134217727) ?_
                    refine zp 27 106 (zm 28 268435455) ?_
                    refine done_ (done_of HT_.out (by kernel_rfl)) ?_
                    try go_wp2
                    go_roundg kj20
                    case measure => have := HJ1.out; have := HK2.out; have := HK3.out; have := HJ20.out; omega
                    case rel => exact ⟨(wrap64 (x4_3 + 1)), (zE _), H', ⟨by have := HJ1.out; have := HK2.out; have := HK3.out; have := HJ20.out; omega⟩, ⟨by (with_reducible repeat (first | refine blk_drewN ?_ _ | refine blk_drew ?_ | refine blk_alloc ?_ _)); exact BK151.out⟩, ⟨zb _⟩⟩
                   ·replace c51 := Bool.eq_false_iff.mpr c51
                    subst c51
                    rw [if_neg (show ¬ (false = true) by decide)] at H
                    obtain rfl := Option.some.inj H
                    try go_wp2
                    have n0_ := Aside0.mk (blk_drew BK151.out)
                    have n1_ := Aside0.mk (blk_drew BK155.out)
                    have n2_ := Aside0.mk (below_drew1 HB.out)
                    clear BK151
                    clear BK155
                    clear HB
                    have BK151 := n0_
                    have BK155 := n1_
                    have HB := n2_
                    clear n0_ n1_ n2_
                    have p160 : 0 ≤ (((rd_T45 l0_1 x4_3).f1) : Int) := of_decide_eq_true (za _)
                    have q160 : ((rd_T45 l0_1 x4_3).f1) < (l0_0.length : Int) := of_decide_eq_true (za _)
                    obtain ⟨ad160, A160_5, c160_5, e160, hx160_0, hx160_1, hx160_2, hx160_3, hx160_4, hx160_5, hl160_5, hi160_5⟩ := at_T43 HR0_0.out ((rd_T45 l0_1 x4_3).f1) p160 q160
                    have hw160_5 := hx160_5
                    have hw160_4 := hx160_4
                    have hw160_3 := hx160_3
                    have hw160_2 := hx160_2
                    have hw160_1 := hx160_1
                    have hw160_0 := hx160_0
                    cases e160
                    replace hx160_0 := (HB.out.cell (World.block_lt_of_cell? w _ hx160_0)).trans hx160_0
                    replace hx160_1 := (HB.out.cell (World.block_lt_of_cell? w _ hx160_1)).trans hx160_1
                    replace hx160_2 := (HB.out.cell (World.block_lt_of_cell? w _ hx160_2)).trans hx160_2
                    replace hx160_3 := (HB.out.cell (World.block_lt_of_cell? w _ hx160_3)).trans hx160_3
                    replace hx160_4 := (HB.out.cell (World.block_lt_of_cell? w _ hx160_4)).trans hx160_4
                    replace hx160_5 := (HB.out.cell (World.block_lt_of_cell? w _ hx160_5)).trans hx160_5
                    have HR160_5 := Aside0.mk hi160_5
                    have HC160_5 := Aside0.mk hl160_5
                    clear hi160_5 hl160_5
                    replace p160 := eq_true p160
                    replace q160 := eq_true q160
                    refine start_ (n := 28) (S := fun w' => w'.cell? ⟨gb155, 0, none⟩ = some (.string ((rd_T45 l0_1 x4_3).f0)) ∧ w'.cell? ⟨gb155, 1, none⟩ = some (.int .i64 ((rd_T45 l0_1 x4_3).f1)) ∧ w'.cell? ⟨gb155, 2, none⟩ = some (.int .i64 ((rd_T45 l0_1 x4_3).f2)) ∧ w'.cell? ⟨gb155, 3, none⟩ = some (.bool ((rd_T45 l0_1 x4_3).f3)) ∧ w'.cell? ⟨gb151, 0, none⟩ = some (.slice (some ad160) l0_0.length c0_0) ∧ w'.cell? ⟨gb151, 1, none⟩ = some (.slice (some ad154) l0_1.length c0_1) ∧ w'.cell? ⟨gb151, 2, none⟩ = some (.slice A0_2 l0_2.length c0_2) ∧ w'.cell? (ad160.add ((((rd_T45 l0_1 x4_3).f1)).toNat * 6)) = some (.string ((rd_T43 l0_0 ((rd_T45 l0_1 x4_3).f1)).f0)) ∧ w'.cell? ⟨(ad160.add ((((rd_T45 l0_1 x4_3).f1)).toNat * 6)).block, (ad160.add ((((rd_T45 l0_1 x4_3).f1)).toNat * 6)).off + 1, none⟩ = some (.int .i64 ((rd_T43 l0_0 ((rd_T45 l0_1 x4_3).f1)).f1)) ∧ w'.cell? ⟨(ad160.add ((((rd_T45 l0_1 x4_3).f1)).toNat * 6)).block, (ad160.add ((((rd_T45 l0_1 x4_3).f1)).toNat * 6)).off + 2, none⟩ = some (.int .i64 ((rd_T43 l0_0 ((rd_T45 l0_1 x4_3).f1)).f2)) ∧ w'.cell? ⟨(ad160.add ((((rd_T45 l0_1 x4_3).f1)).toNat * 6)).block, (ad160.add ((((rd_T45 l0_1 x4_3).f1)).toNat * 6)).off + 3, none⟩ = some (.int .i64 ((rd_T43 l0_0 ((rd_T45 l0_1 x4_3).f1)).f3)) ∧ w'.cell? ⟨(ad160.add ((((rd_T45 l0_1 x4_3).f1)).toNat * 6)).block, (ad160.add ((((rd_T45 l0_1 x4_3).f1)).toNat * 6)).off + 4, none⟩ = some (.string ((rd_T43 l0_0 ((rd_T45 l0_1 x4_3).f1)).f4)) ∧ w'.cell? ⟨(ad160.add ((((rd_T45 l0_1 x4_3).f1)).toNat * 6)).block, (ad160.add ((((rd_T45 l0_1 x4_3).f1)).toNat * 6)).off + 5, none⟩ = some (.slice A160_5 ((rd_T43 l0_0 ((rd_T45 l0_1 x4_3).f1)).f5).length c160_5)) (ds := []) (zm 28 0) (by kernel_rfl) rfl rfl ⟨(blk_cell BK155.out 0).trans rfl, (blk_cell BK155.out 1).trans rfl, (blk_cell BK155.out 2).trans rfl, (blk_cell BK155.out 3).trans rfl, (blk_cell BK151.out 0).trans rfl, (blk_cell BK151.out 1).trans rfl, (blk_cell BK151.out 2).trans rfl, ((HB.out.cell (World.block_lt_of_cell? w _ hw160_0)).trans hw160_0), ((HB.out.cell (World.block_lt_of_cell? w _ hw160_1)).trans hw160_1), ((HB.out.cell (World.block_lt_of_cell? w _ hw160_2)).trans hw160_2), ((HB.out.cell (World.block_lt_of_cell? w _ hw160_3)).trans hw160_3), ((HB.out.cell (World.block_lt_of_cell? w _ hw160_4)).trans hw160_4), ((HB.out.cell (World.block_lt_of_cell? w _ hw160_5)).trans hw160_5)⟩ (fun hHeld => ?_); refine with_tabW spec_ObjectOk.tab14 spec_ObjectOk.bits14 (fun HT_ HW_ => ?_)
                    generalize wc.drew = w53 at BK151 BK155 HB HR160_5 hx160_0 hx160_1 hx160_2 hx160_3 hx160_4 hx160_5 hHeld ⊢
                    refine zp 0 79 (zm 28 1) ?_
                    refine take_ (i := 1) (N := some 80) (v := ?_) (a' := ?_) (zm 28 3) rfl rfl (take_ofW HT_.out HW_.out (by kernel_rfl)) (fun _ _ _ h => h) (Or.inl ⟨by rfl, ?_⟩) hHeld ?_ ?_
                    rotate_left
                    ·rintro w' ⟨s0, s1, s2, s3, s4, s5, s6, s7, s8, s9, s10, s11, s12⟩
                     go_simp
                     with_reducible rfl
                    rotate_left
                    ·simp only [Act.put, List.setIfInBounds_toArray, List.set_cons_zero, List.set_cons_succ, i64_w, i32_w]
                     rfl
                    refine zp 2 81 (zm 28 7) ?_
                    refine zp 3 82 (zm 28 15) ?_
                    refine zp 4 83 (zm 28 31) ?_
                    refine zp 6 85 (zm 28 95) ?_
                    refine zp 8 87 (zm 28 351) ?_
                    refine take_ (i := 5) (N := some 84) (v := ?_) (a' := ?_) (zm 28 383) rfl rfl (take_ofW HT_.out HW_.out (by kernel_rfl)) (fun _ _ _ h => h) (Or.inl ⟨by rfl, ?_⟩) hHeld ?_ ?_
                    rotate_left
                    ·rintro w' ⟨s0, s1, s2, s3, s4, s5, s6, s7, s8, s9, s10, s11, s12⟩
                     go_simp
                     with_reducible rfl
                    rotate_left
                    ·simp only [Act.put, List.setIfInBounds_toArray, List.set_cons_zero, List.set_cons_succ, i64_w, i32_w]
                     rfl
                    refine take_ (i := 7) (N := some 86) (v := ?_) (a' := ?_) (zm 28 511) rfl rfl (take_ofW HT_.out HW_.out (by kernel_rfl)) (fun _ _ _ h => h) (Or.inl ⟨by rfl, ?_⟩) hHeld ?_ ?_
                    rotate_left
                    ·rintro w' ⟨s0, s1, s2, s3, s4, s5, s6, s7, s8, s9, s10, s11, s12⟩
                     go_simp
                     with_reducible rfl
                    rotate_left
                    ·simp only [Act.put, List.setIfInBounds_toArray, List.set_cons_zero, List.set_cons_succ, i64_w, i32_w]
                     rfl
                    refine take_ (i := 9) (N := some 88) (v := ?_) (a' := ?_) (zm 28 1023) rfl rfl (take_ofW HT_.out HW_.out (by kernel_rfl)) (fun _ _ _ h => h) (Or.inl ⟨by rfl, ?_⟩) hHeld ?_ ?_
                    rotate_left
                    ·rintro w' ⟨s0, s1, s2, s3, s4, s5, s6, s7, s8, s9, s10, s11, s12⟩
                     go_simp
                     with_reducible rfl
                    rotate_left
                    ·simp only [Act.put, List.setIfInBounds_toArray, List.set_cons_zero, List.set_cons_succ, i64_w, i32_w]
                     rfl
                    refine zp 10 89 (zm 28 2047) ?_
                    refine zp 11 90 (zm 28 4095) ?_
                    refine take_ (i := 12) (N := some 91) (v := ?_) (a' := ?_) (zm 28 8191) rfl rfl (take_ofW HT_.out HW_.out (by kernel_rfl)) (fun _ _ _ h => h) (Or.inl ⟨by rfl, ?_⟩) hHeld ?_ ?_
                    rotate_left
                    ·rintro w' ⟨s0, s1, s2, s3, s4, s5, s6, s7, s8, s9, s10, s11, s12⟩
                     go_simp
                     with_reducible rfl
                    rotate_left
                    ·simp only [Act.put, List.setIfInBounds_toArray, List.set_cons_zero, List.set_cons_succ, i64_w, i32_w]
                     rfl
                    refine zp 13 92 (zm 28 16383) ?_
                    refine one_ (i := 14) (N := some 93) (zm 28 32767) rfl rfl (one_of HT_.out (by kernel_rfl)) (by decide) (fun K hK => ?_)
                    refine zi Try.func14 #[.int .i64 ((rd_T45 l0_1 x4_3).f2), .int .i64 0, .int .i64 (((rd_T43 l0_0 ((rd_T45 l0_1 x4_3).f1)).f4).size : Int)] ?_
                    with_reducible refine (spec_l1In.calls ((rd_T45 l0_1 x4_3).f2) 0 (((rd_T43 l0_0 ((rd_T45 l0_1 x4_3).f1)).f4).size : Int) true _ A47.out).mono ?_
                    rintro e w' ⟨rfl, ⟨nd, rfl⟩⟩
                    refine ⟨_, rfl, ?_⟩
                    refine hK.out _ _ ⟨(blk_cell BK155.out 0).trans rfl, (blk_cell BK155.out 1).trans rfl, (blk_cell BK155.out 2).trans rfl, (blk_cell BK155.out 3).trans rfl, (blk_cell BK151.out 0).trans rfl, (blk_cell BK151.out 1).trans rfl, (blk_cell BK151.out 2).trans rfl, ((HB.out.cell (World.block_lt_of_cell? w _ hw160_0)).trans hw160_0), ((HB.out.cell (World.block_lt_of_cell? w _ hw160_1)).trans hw160_1), ((HB.out.cell (World.block_lt_of_cell? w _ hw160_2)).trans hw160_2), ((HB.out.cell (World.block_lt_of_cell? w _ hw160_3)).trans hw160_3), ((HB.out.cell (World.block_lt_of_cell? w _ hw160_4)).trans hw160_4), ((HB.out.cell (World.block_lt_of_cell? w _ hw160_5)).trans hw160_5)⟩ (fun hHeld => ?_)
                    clear hK K
                    refine zq ?_
                    refine zp 15 94 (zm 28 65535) ?_
                    refine zp 16 95 (zm 28 131071) ?_
                    refine zp 17 96 (zm 28 262143) ?_
                    refine zp 18 97 (zm 28 524287) ?_
                    refine take_ (i := 19) (N := some 98) (v := ?_) (a' := ?_) (zm 28 1048575) rfl rfl (take_ofW HT_.out HW_.out (by kernel_rfl)) (fun _ _ _ h => h) (Or.inl ⟨by rfl, ?_⟩) hHeld ?_ ?_
                    rotate_left
                    ·rintro w' ⟨s0, s1, s2, s3, s4, s5, s6, s7, s8, s9, s10, s11, s12⟩
                     go_simp
                     with_reducible rfl
                    rotate_left
                    ·simp only [Act.put, List.setIfInBounds_toArray, List.set_cons_zero, List.set_cons_succ, i64_w, i32_w]
                     rfl
                    refine zp 20 99 (zm 28 2097151) ?_
                    refine zp 21 100 (zm 28 4194303) ?_
                    refine zp 22 101 (zm 28 8388607) ?_
                    refine take_ (i := 23) (N := some 102) (v := ?_) (a' := ?_) (zm 28 16777215) rfl rfl (take_ofW HT_.out HW_.out (by kernel_rfl)) (fun _ _ _ h => h) (Or.inl ⟨by rfl, ?_⟩) hHeld ?_ ?_
                    rotate_left
                    ·rintro w' ⟨s0, s1, s2, s3, s4, s5, s6, s7, s8, s9, s10, s11, s12⟩
                     go_simp
                     with_reducible rfl
                    rotate_left
                    ·simp only [Act.put, List.setIfInBounds_toArray, List.set_cons_zero, List.set_cons_succ, i64_w, i32_w]
                     rfl
                    refine one_ (i := 24) (N := some 103) (zm 28 33554431) rfl rfl (one_of HT_.out (by kernel_rfl)) (by decide) (fun K hK => ?_)
                    refine zi Try.func14 #[.int .i64 ((rd_T45 l0_1 x4_3).f2), .int .i64 (-2147483648), .int .i64 2147483647] ?_
                    with_reducible refine (spec_l1In.calls ((rd_T45 l0_1 x4_3).f2) (-2147483648) 2147483647 false _ A50.out).mono ?_
                    rintro e w' ⟨rfl, ⟨nd, rfl⟩⟩
                    refine ⟨_, rfl, ?_⟩
                    refine hK.out _ _ ⟨(blk_cell BK155.out 0).trans rfl, (blk_cell BK155.out 1).trans rfl, (blk_cell BK155.out 2).trans rfl, (blk_cell BK155.out 3).trans rfl, (blk_cell BK151.out 0).trans rfl, (blk_cell BK151.out 1).trans rfl, (blk_cell BK151.out 2).trans rfl, ((HB.out.cell (World.block_lt_of_cell? w _ hw160_0)).trans hw160_0), ((HB.out.cell (World.block_lt_of_cell? w _ hw160_1)).trans hw160_1), ((HB.out.cell (World.block_lt_of_cell? w _ hw160_2)).trans hw160_2), ((HB.out.cell (World.block_lt_of_cell? w _ hw160_3)).trans hw160_3), ((HB.out.cell (World.block_lt_of_cell? w _ hw160_4)).trans hw160_4), ((HB.out.cell (World.block_lt_of_cell? w _ hw160_5)).trans hw160_5)⟩ (fun hHeld => ?_)
                    clear hK K
                    refine zq ?_
                    refine zp 25 104 (zm 28 67108863) ?_
                    refine zp 26 105 (zm 28 134217727) ?_
                    refine zp 27 106 (zm 28 268435455) ?_
                    refine done_ (done_of HT_.out (by kernel_rfl)) ?_
                    try go_wp2
                    go_ret
                    exact ⟨ze _, zb _⟩
                  ·rw [if_neg c49] at H
                   have c49b0 : decide (((rd_T45 l0_1 x4_3).f1) < 0) = false := decide_eq_false c49
                   clear c49
                   have H' := Aside0.mk H
                   clear H
                   try go_wp2
                   have n0_ := Aside0.mk (blk_drew BK151.out)
                   have n1_ := Aside0.mk (blk_drew BK155.out)
                   have n2_ := Aside0.mk (below_drew1 HB.out)
                   clear BK151
                   clear BK155
                   clear HB
                   have BK151 := n0_
                   have BK155 := n1_
                   have HB := n2_
                   clear n0_ n1_ n2_
                   have p160 : 0 ≤ (((rd_T45 l0_1 x4_3).f1) : Int) := of_decide_eq_true (za _)
                   have q160 : ((rd_T45 l0_1 x4_3).f1) < (l0_0.length : Int) := of_decide_eq_true (za _)
                   obtain ⟨ad160, A160_5, c160_5, e160, hx160_0, hx160_1, hx160_2, hx160_3, hx160_4, hx160_5, hl160_5, hi160_5⟩ := at_T43 HR0_0.out ((rd_T45 l0_1 x4_3).f1) p160 q160
                   have hw160_5 := hx160_5
                   have hw160_4 := hx160_4
                   have hw160_3 := hx160_3
                   have hw160_2 := hx160_2
                   have hw160_1 := hx160_1
                   have hw160_0 := hx160_0
                   cases e160
                   replace hx160_0 := (HB.out.cell (World.block_lt_of_cell? w _ hx160_0)).trans hx160_0
                   replace hx160_1 := (HB.out.cell (World.block_lt_of_cell? w _ hx160_1)).trans hx160_1
                   replace hx160_2 := (HB.out.cell (World.block_lt_of_cell? w _ hx160_2)).trans hx160_2
                   replace hx160_3 := (HB.out.cell (World.block_lt_of_cell? w _ hx160_3)).trans hx160_3
                   replace hx160_4 := (HB.out.cell (World.block_lt_of_cell? w _ hx160_4)).trans hx160_4
                   replace hx160_5 := (HB.out.cell (World.block_lt_of_cell? w _ hx160_5)).trans hx160_5
                   have HR160_5 := Aside0.mk hi160_5
                   have HC160_5 := Aside0.mk hl160_5
                   clear hi160_5 hl160_5
                   replace p160 := eq_true p160
                   replace q160 := eq_true q160
                   refine start_ (n := 28) (S := fun w' => w'.cell? ⟨gb155, 0, none⟩ = some (.string ((rd_T45 l0_1 x4_3).f0)) ∧ w'.cell? ⟨gb155, 1, none⟩ = some (.int .i64 ((rd_T45 l0_1 x4_3).f1)) ∧ w'.cell? ⟨gb155, 2, none⟩ = some (.int .i64 ((rd_T45 l0_1 x4_3).f2)) ∧ w'.cell? ⟨gb155, 3, none⟩ = some (.bool ((rd_T45 l0_1 x4_3).f3)) ∧ w'.cell? ⟨gb151, 0, none⟩ = some (.slice (some ad160) l0_0.length c0_0) ∧ w'.cell? ⟨gb151, 1, none⟩ = some (.slice (some ad154) l0_1.length c0_1) ∧ w'.cell? ⟨gb151, 2, none⟩ = some (.slice A0_2 l0_2.length c0_2) ∧ w'.cell? (ad160.add ((((rd_T45 l0_1 x4_3).f1)).toNat * 6)) = some (.string ((rd_T43 l0_0 ((rd_T45 l0_1 x4_3).f1)).f0)) ∧ w'.cell? ⟨(ad160.add ((((rd_T45 l0_1 x4_3).f1)).toNat * 6)).block, (ad160.add ((((rd_T45 l0_1 x4_3).f1)).toNat * 6)).off + 1, none⟩ = some (.int .i64 ((rd_T43 l0_0 ((rd_T45 l0_1 x4_3).f1)).f1)) ∧ w'.cell? ⟨(ad160.add ((((rd_T45 l0_1 x4_3).f1)).toNat * 6)).block, (ad160.add ((((rd_T45 l0_1 x4_3).f1)).toNat * 6)).off + 2, none⟩ = some (.int .i64 ((rd_T43 l0_0 ((rd_T45 l0_1 x4_3).f1)).f2)) ∧ w'.cell? ⟨(ad160.add ((((rd_T45 l0_1 x4_3).f1)).toNat * 6)).block, (ad160.add ((((rd_T45 l0_1 x4_3).f1)).toNat * 6)).off + 3, none⟩ = some (.int .i64 ((rd_T43 l0_0 ((rd_T45 l0_1 x4_3).f1)).f3)) ∧ w'.cell? ⟨(ad160.add ((((rd_T45 l0_1 x4_3).f1)).toNat * 6)).block, (ad160.add ((((rd_T45 l0_1 x4_3).f1)).toNat * 6)).off + 4, none⟩ = some (.string ((rd_T43 l0_0 ((rd_T45 l0_1 x4_3).f1)).f4)) ∧ w'.cell? ⟨(ad160.add ((((rd_T45 l0_1 x4_3).f1)).toNat * 6)).block, (ad160.add ((((rd_T45 l0_1 x4_3).f1)).toNat * 6)).off + 5, none⟩ = some (.slice A160_5 ((rd_T43 l0_0 ((rd_T45 l0_1 x4_3).f1)).f5).length c160_5)) (ds := []) (zm 28 0) (by kernel_rfl) rfl rfl ⟨(blk_cell BK155.out 0).trans rfl, (blk_cell BK155.out 1).trans rfl, (blk_cell BK155.out 2).trans rfl, (blk_cell BK155.out 3).trans rfl, (blk_cell BK151.out 0).trans rfl, (blk_cell BK151.out 1).trans rfl, (blk_cell BK151.out 2).trans rfl, ((HB.out.cell (World.block_lt_of_cell? w _ hw160_0)).trans hw160_0), ((HB.out.cell (World.block_lt_of_cell? w _ hw160_1)).trans hw160_1), ((HB.out.cell (World.block_lt_of_cell? w _ hw160_2)).trans hw160_2), ((HB.out.cell (World.block_lt_of_cell? w _ hw160_3)).trans hw160_3), ((HB.out.cell (World.block_lt_of_cell? w _ hw160_4)).trans hw160_4), ((HB.out.cell (World.block_lt_of_cell? w _ hw160_5)).trans hw160_5)⟩ (fun hHeld => ?_); refine with_tabW spec_ObjectOk.tab14 spec_ObjectOk.bits14 (fun HT_ HW_ => ?_)
                   generalize wc.drew = w54 at BK151 BK155 HB HR160_5 hx160_0 hx160_1 hx160_2 hx160_3 hx160_4 hx160_5 hHeld ⊢
                   refine zp 0 79 (zm 28 1) ?_
                   refine take_ (i := 1) (N := some 80) (v := ?_) (a' := ?_) (zm 28 3) rfl rfl (take_ofW HT_.out HW_.out (by kernel_rfl)) (fun _ _ _ h => h) (Or.inl ⟨by rfl, ?_⟩) hHeld ?_ ?_
                   rotate_left
                   ·rintro w' ⟨s0, s1, s2, s3, s4, s5, s6, s7, s8, s9, s10, s11, s12⟩
                    go_simp
                    with_reducible rfl
                   rotate_left
                   ·simp only [Act.put, List.setIfInBounds_toArray, List.set_cons_zero, List.set_cons_succ, i64_w, i32_w]
                    rfl
                   refine zp 2 81 (zm 28 7) ?_
                   refine zp 3 82 (zm 28 15) ?_
                   refine zp 4 83 (zm 28 31) ?_
                   refine zp 6 85 (zm 28 95) ?_
                   refine zp 8 87 (zm 28 351) ?_
                   refine take_ (i := 5) (N := some 84) (v := ?_) (a' := ?_) (zm 28 383) rfl rfl (take_ofW HT_.out HW_.out (by kernel_rfl)) (fun _ _ _ h => h) (Or.inl ⟨by rfl, ?_⟩) hHeld ?_ ?_
                   rotate_left
                   ·rintro w' ⟨s0, s1, s2, s3, s4, s5, s6, s7, s8, s9, s10, s11, s12⟩
                    go_simp
                    with_reducible rfl
                   rotate_left
                   ·simp only [Act.put, List.setIfInBounds_toArray, List.set_cons_zero, List.set_cons_succ, i64_w, i32_w]
                    rfl
                   refine take_ (i := 7) (N := some 86) (v := ?_) (a' := ?_) (zm 28 511) rfl rfl (take_ofW HT_.out HW_.out (by kernel_rfl)) (fun _ _ _ h => h) (Or.inl ⟨by rfl, ?_⟩) hHeld ?_ ?_
                   rotate_left
                   ·rintro w' ⟨s0, s1, s2, s3, s4, s5, s6, s7, s8, s9, s10, s11, s12⟩
                    go_simp
                    with_reducible rfl
                   rotate_left
                   ·simp only [Act.put, List.setIfInBounds_toArray, List.set_cons_zero, List.set_cons_succ, i64_w, i32_w]
                    rfl
                   refine take_ (i := 9) (N := some 88) (v := ?_) (a' := ?_) (zm 28 1023) rfl rfl (take_ofW HT_.out HW_.out (by kernel_rfl)) (fun _ _ _ h => h) (Or.inl ⟨by rfl, ?_⟩) hHeld ?_ ?_
                   rotate_left
                   ·rintro w' ⟨s0, s1, s2, s3, s4, s5, s6, s7, s8, s9, s10, s11, s12⟩
                    go_simp
                    with_reducible rfl
                   rotate_left
                   ·simp only [Act.put, List.setIfInBounds_toArray, List.set_cons_zero, List.set_cons_succ, i64_w, i32_w]
                    rfl
                   refine zp 10 89 (zm 28 2047) ?_
                   refine zp 11 90 (zm 28 4095) ?_
                   refine take_ (i := 12) (N := some 91) (v := ?_) (a' := ?_) (zm 28 8191) rfl rfl (take_ofW HT_.out HW_.out (by kernel_rfl)) (fun _ _ _ h => h) (Or.inl ⟨by rfl, ?_⟩) hHeld ?_ ?_
                   rotate_left
                   ·rintro w' ⟨s0, s1, s2, s3, s4, s5, s6, s7, s8, s9, s10, s11, s12⟩
                    go_simp
                    with_reducible rfl
                   rotate_left
                   ·simp only [Act.put, List.setIfInBounds_toArray, List.set_cons_zero, List.set_cons_succ, i64_w, i32_w]
                    rfl
                   refine zp 13 92 (zm 28 16383) ?_
                   refine one_ (i := 14) (N := some 93) (zm 28 32767) rfl rfl (one_of HT_.out (by kernel_rfl)) (by decide) (fun K hK => ?_)
                   refine zi Try.func14 #[.int .i64 ((rd_T45 l0_1 x4_3).f2), .int .i64 0, .int .i64 (((rd_T43 l0_0 ((rd_T45 l0_1 x4_3).f1)).f4).size : Int)] ?_
                   with_reducible refine (spec_l1In.calls ((rd_T45 l0_1 x4_3).f2) 0 (((rd_T43 l0_0 ((rd_T45 l0_1 x4_3).f1)).f4).size : Int) true _ A47.out).mono ?_
                   rintro e w' ⟨rfl, ⟨nd, rfl⟩⟩
                   refine ⟨_, rfl, ?_⟩
                   refine hK.out _ _ ⟨(blk_cell BK155.out 0).trans rfl, (blk_cell BK155.out 1).trans rfl, (blk_cell BK155.out 2).trans rfl, (blk_cell BK155.out 3).trans rfl, (blk_cell BK151.out 0).trans rfl, (blk_cell BK151.out 1).trans rfl, (blk_cell BK151.out 2).trans rfl, ((HB.out.cell (World.block_lt_of_cell? w _ hw160_0)).trans hw160_0), ((HB.out.cell (World.block_lt_of_cell? w _ hw160_1)).trans hw160_1), ((HB.out.cell (World.block_lt_of_cell? w _ hw160_2)).trans hw160_2), ((HB.out.cell (World.block_lt_of_cell? w _ hw160_3)).trans hw160_3), ((HB.out.cell (World.block_lt_of_cell? w _ hw160_4)).trans hw160_4), ((HB.out.cell (World.block_lt_of_cell? w _ hw160_5)).trans hw160_5)⟩ (fun hHeld => ?_)
                   clear hK K
                   refine zq ?_
                   refine zp 15 94 (zm 28 65535) ?_
                   refine zp 16 95 (zm 28 131071) ?_
                   refine zp 17 96 (zm 28 262143) ?_
                   refine zp 18 97 (zm 28 524287) ?_
                   refine take_ (i := 19) (N := some 98) (v := ?_) (a' := ?_) (zm 28 1048575) rfl rfl (take_ofW HT_.out HW_.out (by kernel_rfl)) (fun _ _ _ h => h) (Or.inl ⟨by rfl, ?_⟩) hHeld ?_ ?_
                   rotate_left
                   ·rintro w' ⟨s0, s1, s2, s3, s4, s5, s6, s7, s8, s9, s10, s11, s12⟩
                    go_simp
                    with_reducible rfl
                   rotate_left
                   ·simp only [Act.put, List.setIfInBounds_toArray, List.set_cons_zero, List.set_cons_succ, i64_w, i32_w]
                    rfl
                   refine zp 20 99 (zm 28 2097151) ?_
                   refine zp 21 100 (zm 28 4194303) ?_
                   refine zu 22 101 (zm 28 8388607) ?_
                   refine zu 23 102 (zm 28 16777215) ?_
                   refine zu 24 103 (zm 28 33554431) ?_
                   refine zu 25 104 (zm 28 67108863) ?_
                   refine zp 26 105 (zm 28 134217727) ?_
                   refine zp 27 106 (zm 28 268435455) ?_
                   refine done_ (done_of HT_.out (by kernel_rfl)) ?_
                   try go_wp2
                   go_roundg kj20
                   case measure => have := HJ1.out; have := HK2.out; have := HK3.out; have := HJ20.out; omega
                   case rel => exact ⟨(wrap64 (x4_3 + 1)), (zE _), H', ⟨by have := HJ1.out; have := HK2.out; have := HK3.out; have := HJ20.out; omega⟩, ⟨by (with_reducible repeat (first | refine blk_drewN ?_ _ | refine blk_drew ?_ | refine blk_alloc ?_ _)); exact BK151.out⟩, ⟨zb _⟩⟩
                 ·replace c48 := Bool.eq_false_iff.mpr c48
                  subst c48
                  rw [if_neg (show ¬ (false = true) by decide)] at H
                  obtain rfl := Option.some.inj H
                  try go_wp2
                  have n0_ := Aside0.mk (blk_drew BK151.out)
                  have n1_ := Aside0.mk (blk_drew BK155.out)
                  have n2_ := Aside0.mk (below_drew1 HB.out)
                  clear BK151
                  clear BK155
                  clear HB
                  have BK151 := n0_
                  have BK155 := n1_
                  have HB := n2_
                  clear n0_ n1_ n2_
                  have p160 : 0 ≤ (((rd_T45 l0_1 x4_3).f1) : Int) := of_decide_eq_true (za _)
                  have q160 : ((rd_T45 l0_1 x4_3).f1) < (l0_0.length : Int) := of_decide_eq_true (za _)
                  obtain ⟨ad160, A160_5, c160_5, e160, hx160_0, hx160_1, hx160_2, hx160_3, hx160_4, hx160_5, hl160_5, hi160_5⟩ := at_T43 HR0_0.out ((rd_T45 l0_1 x4_3).f1) p160 q160
                  have hw160_5 := hx160_5
                  have hw160_4 := hx160_4
                  have hw160_3 := hx160_3
                  have hw160_2 := hx160_2
                  have hw160_1 := hx160_1
                  have hw160_0 := hx160_0
                  cases e160
                  replace hx160_0 := (HB.out.cell (World.block_lt_of_cell? w _ hx160_0)).trans hx160_0
                  replace hx160_1 := (HB.out.cell (World.block_lt_of_cell? w _ hx160_1)).trans hx160_1
                  replace hx160_2 := (HB.out.cell (World.block_lt_of_cell? w _ hx160_2)).trans hx160_2
                  replace hx160_3 := (HB.out.cell (World.block_lt_of_cell? w _ hx160_3)).trans hx160_3
                  replace hx160_4 := (HB.out.cell (World.block_lt_of_cell? w _ hx160_4)).trans hx160_4
                  replace hx160_5 := (HB.out.cell (World.block_lt_of_cell? w _ hx160_5)).trans hx160_5
                  have HR160_5 := Aside0.mk hi160_5
                  have HC160_5 := Aside0.mk hl160_5
                  clear hi160_5 hl160_5
                  replace p160 := eq_true p160
                  replace q160 := eq_true q160
                  refine start_ (n := 28) (S := fun w' => w'.cell? ⟨gb155, 0, none⟩ = some (.string ((rd_T45 l0_1 x4_3).f0)) ∧ w'.cell? ⟨gb155, 1, none⟩ = some (.int .i64 ((rd_T45 l0_1 x4_3).f1)) ∧ w'.cell? ⟨gb155, 2, none⟩ = some (.int .i64 ((rd_T45 l0_1 x4_3).f2)) ∧ w'.cell? ⟨gb155, 3, none⟩ = some (.bool ((rd_T45 l0_1 x4_3).f3)) ∧ w'.cell? ⟨gb151, 0, none⟩ = some (.slice (some ad160) l0_0.length c0_0) ∧ w'.cell? ⟨gb151, 1, none⟩ = some (.slice (some ad154) l0_1.length c0_1) ∧ w'.cell? ⟨gb151, 2, none⟩ = some (.slice A0_2 l0_2.length c0_2) ∧ w'.cell? (ad160.add ((((rd_T45 l0_1 x4_3).f1)).toNat * 6)) = some (.string ((rd_T43 l0_0 ((rd_T45 l0_1 x4_3).f1)).f0)) ∧ w'.cell? ⟨(ad160.add ((((rd_T45 l0_1 x4_3).f1)).toNat * 6)).block, (ad160.add ((((rd_T45 l0_1 x4_3).f1)).toNat * 6)).off + 1, none⟩ = some (.int .i64 ((rd_T43 l0_0 ((rd_T45 l0_1 x4_3).f1)).f1)) ∧ w'.cell? ⟨(ad160.add ((((rd_T45 l0_1 x4_3).f1)).toNat * 6)).block, (ad160.add ((((rd_T45 l0_1 x4_3).f1)).toNat * 6)).off + 2, none⟩ = some (.int .i64 ((rd_T43 l0_0 ((rd_T45 l0_1 x4_3).f1)).f2)) ∧ w'.cell? ⟨(ad160.add ((((rd_T45 l0_1 x4_3).f1)).toNat * 6)).block, (ad160.add ((((rd_T45 l0_1 x4_3).f1)).toNat * 6)).off + 3, none⟩ = some (.int .i64 ((rd_T43 l0_0 ((rd_T45 l0_1 x4_3).f1)).f3)) ∧ w'.cell? ⟨(ad160.add ((((rd_T45 l0_1 x4_3).f1)).toNat * 6)).block, (ad160.add ((((rd_T45 l0_1 x4_3).f1)).toNat * 6)).off + 4, none⟩ = some (.string ((rd_T43 l0_0 ((rd_T45 l0_1 x4_3).f1)).f4)) ∧ w'.cell? ⟨(ad160.add ((((rd_T45 l0_1 x4_3).f1)).toNat * 6)).block, (ad160.add ((((rd_T45 l0_1 x4_3).f1)).toNat * 6)).off + 5, none⟩ = some (.slice A160_5 ((rd_T43 l0_0 ((rd_T45 l0_1 x4_3).f1)).f5).length c160_5)) (ds := []) (zm 28 0) (by kernel_rfl) rfl rfl ⟨(blk_cell BK155.out 0).trans rfl, (blk_cell BK155.out 1).trans rfl, (blk_cell BK155.out 2).trans rfl, (blk_cell BK155.out 3).trans rfl, (blk_cell BK151.out 0).trans rfl, (blk_cell BK151.out 1).trans rfl, (blk_cell BK151.out 2).trans rfl, ((HB.out.cell (World.block_lt_of_cell? w _ hw160_0)).trans hw160_0), ((HB.out.cell (World.block_lt_of_cell? w _ hw160_1)).trans hw160_1), ((HB.out.cell (World.block_lt_of_cell? w _ hw160_2)).trans hw160_2), ((HB.out.cell (World.block_lt_of_cell? w _ hw160_3)).trans hw160_3), ((HB.out.cell (World.block_lt_of_cell? w _ hw160_4)).trans hw160_4), ((HB.out.cell (World.block_lt_of_cell? w _ hw160_5)).trans hw160_5)⟩ (fun hHeld => ?_); refine with_tabW spec_ObjectOk.tab14 spec_ObjectOk.bits14 (fun HT_ HW_ => ?_)
                  generalize wc.drew = w55 at BK151 BK155 HB HR160_5 hx160_0 hx160_1 hx160_2 hx160_3 hx160_4 hx160_5 hHeld ⊢
                  refine zp 0 79 (zm 28 1) ?_
                  refine take_ (i := 1) (N := some 80) (v := ?_) (a' := ?_) (zm 28 3) rfl rfl (take_ofW HT_.out HW_.out (by kernel_rfl)) (fun _ _ _ h => h) (Or.inl ⟨by rfl, ?_⟩) hHeld ?_ ?_
                  rotate_left
                  ·rintro w' ⟨s0, s1, s2, s3, s4, s5, s6, s7, s8, s9, s10, s11, s12⟩
                   go_simp
                   with_reducible rfl
                  rotate_left
                  ·simp only [Act.put, List.setIfInBounds_toArray, List.set_cons_zero, List.set_cons_succ, i64_w, i32_w]
                   rfl
                  refine zp 2 81 (zm 28 7) ?_
                  refine zp 3 82 (zm 28 15) ?_
                  refine zp 4 83 (zm 28 31) ?_
                  refine zp 6 85 (zm 28 95) ?_
                  refine zp 8 87 (zm 28 351) ?_
                  refine take_ (i := 5) (N := some 84) (v := ?_) (a' := ?_) (zm 28 383) rfl rfl (take_ofW HT_.out HW_.out (by kernel_rfl)) (fun _ _ _ h => h) (Or.inl ⟨by rfl, ?_⟩) hHeld ?_ ?_
                  rotate_left
                  ·rintro w' ⟨s0, s1, s2, s3, s4, s5, s6, s7, s8, s9, s10, s11, s12⟩
                   go_simp
                   with_reducible rfl
                  rotate_left
                  ·simp only [Act.put, List.setIfInBounds_toArray, List.set_cons_zero, List.set_cons_succ, i64_w, i32_w]
                   rfl
                  refine take_ (i := 7) (N := some 86) (v := ?_) (a' := ?_) (zm 28 511) rfl rfl (take_ofW HT_.out HW_.out (by kernel_rfl)) (fun _ _ _ h => h) (Or.inl ⟨by rfl, ?_⟩) hHeld ?_ ?_
                  rotate_left
                  ·rintro w' ⟨s0, s1, s2, s3, s4, s5, s6, s7, s8, s9, s10, s11, s12⟩
                   go_simp
                   with_reducible rfl
                  rotate_left
                  ·simp only [Act.put, List.setIfInBounds_toArray, List.set_cons_zero, List.set_cons_succ, i64_w, i32_w]
                   rfl
                  refine take_ (i := 9) (N := some 88) (v := ?_) (a' := ?_) (zm 28 1023) rfl rfl (take_ofW HT_.out HW_.out (by kernel_rfl)) (fun _ _ _ h => h) (Or.inl ⟨by rfl, ?_⟩) hHeld ?_ ?_
                  rotate_left
                  ·rintro w' ⟨s0, s1, s2, s3, s4, s5, s6, s7, s8, s9, s10, s11, s12⟩
                   go_simp
                   with_reducible rfl
                  rotate_left
                  ·simp only [Act.put, List.setIfInBounds_toArray, List.set_cons_zero, List.set_cons_succ, i64_w, i32_w]
                   rfl
                  refine zp 10 89 (zm 28 2047) ?_
                  refine zp 11 90 (zm 28 4095) ?_
                  refine take_ (i := 12) (N := some 91) (v := ?_) (a' := ?_) (zm 28 8191) rfl rfl (take_ofW HT_.out HW_.out (by kernel_rfl)) (fun _ _ _ h => h) (Or.inl ⟨by rfl, ?_⟩) hHeld ?_ ?_
                  rotate_left
                  ·rintro w' ⟨s0, s1, s2, s3, s4, s5, s6, s7, s8, s9, s10, s11, s12⟩
                   go_simp
                   with_reducible rfl
                  rotate_left
                  ·simp only [Act.put, List.setIfInBounds_toArray, List.set_cons_zero, List.set_cons_succ, i64_w, i32_w]
                   rfl
                  refine zp 13 92 (zm 28 16383) ?_
                  refine one_ (i := 14) (N := some 93) (zm 28 32767) rfl rfl (one_of HT_.out (by kernel_rfl)) (by decide) (fun K hK => ?_)
                  refine zi Try.func14 #[.int .i64 ((rd_T45 l0_1 x4_3).f2), .int .i64 0, .int .i64 (((rd_T43 l0_0 ((rd_T45 l0_1 x4_3).f1)).f4).size : Int)] ?_
                  with_reducible refine (spec_l1In.calls ((rd_T45 l0_1 x4_3).f2) 0 (((rd_T43 l0_0 ((rd_T45 l0_1 x4_3).f1)).f4).size : Int) false _ A47.out).mono ?_
                  rintro e w' ⟨rfl, ⟨nd, rfl⟩⟩
                  refine ⟨_, rfl, ?_⟩
                  refine hK.out _ _ ⟨(blk_cell BK155.out 0).trans rfl, (blk_cell BK155.out 1).trans rfl, (blk_cell BK155.out 2).trans rfl, (blk_cell BK155.out 3).trans rfl, (blk_cell BK151.out 0).trans rfl, (blk_cell BK151.out 1).trans rfl, (blk_cell BK151.out 2).trans rfl, ((HB.out.cell (World.block_lt_of_cell? w _ hw160_0)).trans hw160_0), ((HB.out.cell (World.block_lt_of_cell? w _ hw160_1)).trans hw160_1), ((HB.out.cell (World.block_lt_of_cell? w _ hw160_2)).trans hw160_2), ((HB.out.cell (World.block_lt_of_cell? w _ hw160_3)).trans hw160_3), ((HB.out.cell (World.block_lt_of_cell? w _ hw160_4)).trans hw160_4), ((HB.out.cell (World.block_lt_of_cell? w _ hw160_5)).trans hw160_5)⟩ (fun hHeld => ?_)
                  clear hK K
                  refine zq ?_
                  refine zp 15 94 (zm 28 65535) ?_
                  refine zp 16 95 (zm 28 131071) ?_
                  refine zp 17 96 (zm 28 262143) ?_
                  refine zu 18 97 (zm 28 524287) ?_
                  refine zu 19 98 (zm 28 1048575) ?_
                  refine zu 20 99 (zm 28 2097151) ?_
                  refine zu 21 100 (zm 28 4194303) ?_
                  refine zu 22 101 (zm 28 8388607) ?_
                  refine zu 23 102 (zm 28 16777215) ?_
                  refine zu 24 103 (zm 28 33554431) ?_
                  refine zu 25 104 (zm 28 67108863) ?_
                  refine zu 26 105 (zm 28 134217727) ?_
                  refine zp 27 106 (zm 28 268435455) ?_
                  refine done_ (done_of HT_.out (by kernel_rfl)) ?_
                  try go_wp2
                  go_ret
                  exact ⟨ze _, zb _⟩
                ·rw [if_neg c46] at H
                 exact absurd H (by simp)
               ·rw [if_neg c45] at H
                exact absurd H (by simp)
              ·rw [if_neg c44] at H
               have c44b0 : decide (0 ≤ ((rd_T45 l0_1 x4_3).f1)) = false := decide_eq_false c44
               clear c44
               by_cases c56 : ((rd_T45 l0_1 x4_3).f1) < 0
               ·rw [if_pos c56] at H
                have c56b0 : decide (((rd_T45 l0_1 x4_3).f1) < 0) = true := decide_eq_true c56
                clear c56
                obtain ⟨t163, A570, H⟩ := Option.bind_eq_some_iff.mp H
                have A57 := Aside0.mk A570
                clear A570
                by_cases c58 : t163 = true
                ·subst c58
                 rw [if_pos rfl] at H
                 have H' := Aside0.mk H
                 clear H
                 try go_wp2
                 have n0_ := Aside0.mk (blk_drew BK151.out)
                 have n1_ := Aside0.mk (blk_drew BK155.out)
                 have n2_ := Aside0.mk (below_drew1 HB.out)
                 clear BK151
                 clear BK155
                 clear HB
                 have BK151 := n0_
                 have BK155 := n1_
                 have HB := n2_
                 clear n0_ n1_ n2_
                 refine start_ (n := 28) (S := fun w' => w'.cell? ⟨gb155, 0, none⟩ = some (.string ((rd_T45 l0_1 x4_3).f0)) ∧ w'.cell? ⟨gb155, 1, none⟩ = some (.int .i64 ((rd_T45 l0_1 x4_3).f1)) ∧ w'.cell? ⟨gb155, 2, none⟩ = some (.int .i64 ((rd_T45 l0_1 x4_3).f2)) ∧ w'.cell? ⟨gb155, 3, none⟩ = some (.bool ((rd_T45 l0_1 x4_3).f3))) (ds := []) (zm 28 0) (by kernel_rfl) rfl rfl ⟨(blk_cell BK155.out 0).trans rfl, (blk_cell BK155.out 1).trans rfl, (blk_cell BK155.out 2).trans rfl, (blk_cell BK155.out 3).trans rfl⟩ (fun hHeld => ?_); refine with_tabW spec_ObjectOk.tab14 spec_ObjectOk.bits14 (fun HT_ HW_ => ?_)
                 generalize wc.drew = w59 at BK151 BK155 HB hHeld ⊢
                 refine zp 0 79 (zm 28 1) ?_
                 refine take_ (i := 1) (N := some 80) (v := ?_) (a' := ?_) (zm 28 3) rfl rfl (take_ofW HT_.out HW_.out (by kernel_rfl)) (fun _ _ _ h => h) (Or.inl ⟨by rfl, ?_⟩) hHeld ?_ ?_
                 rotate_left
                 ·rintro w' ⟨s0, s1, s2, s3⟩
                  go_simp
                  with_reducible rfl
                 rotate_left
                 ·simp only [Act.put, List.setIfInBounds_toArray, List.set_cons_zero, List.set_cons_succ, i64_w, i32_w]
                  rfl
                 refine zp 2 81 (zm 28 7) ?_
                 refine zp 3 82 (zm 28 15) ?_
                 refine zu 4 83 (zm 28 31) ?_
                 refine zu 5 84 (zm 28 63) ?_
                 refine zu 6 85 (zm 28 127) ?_
                 refine zu 7 86 (zm 28 255) ?_
                 refine zu 8 87 (zm 28 511) ?_
                 refine zu 9 88 (zm 28 1023) ?_
                 refine zu 10 89 (zm 28 2047) ?_
                 refine zu 11 90 (zm 28 4095) ?_
                 refine zu 12 91 (zm 28 8191) ?_
                 refine zu 13 92 (zm 28 16383) ?_
                 refine zu 14 93 (zm 28 32767) ?_
                 refine zu 15 94 (zm 28 65535) ?_
                 refine zp 16 95 (zm 28 131071) ?_
                 refine zp 17 96 (zm 28 262143) ?_
                 refine zp 18 97 (zm 28 524287) ?_
                 refine take_ (i := 19) (N := some 98) (v := ?_) (a' := ?_) (zm 28 1048575) rfl rfl (take_ofW HT_.out HW_.out (by kernel_rfl)) (fun _ _ _ h => h) (Or.inl ⟨by rfl, ?_⟩) hHeld ?_ ?_
                 rotate_left
                 ·rintro w' ⟨s0, s1, s2, s3⟩
                  go_simp
                  with_reducible rfl
                 rotate_left
                 ·simp only [Act.put, List.setIfInBounds_toArray, List.set_cons_zero, List.set_cons_succ, i64_w, i32_w]
                  rfl
                 refine zp 20 99 (zm 28 2097151) ?_
                 refine zp 21 100 (zm 28 4194303) ?_
                 refine zp 22 101 (zm 28 8388607) ?_
                 refine take_ (i := 23) (N := some 102) (v := ?_) (a' := ?_) (zm 28 16777215) rfl rfl (take_ofW HT_.out HW_.out (by kernel_rfl)) (fun _ _ _ h => h) (Or.inl ⟨by rfl, ?_⟩) hHeld ?_ ?_
                 rotate_left
                 ·rintro w' ⟨s0, s1, s2, s3⟩
                  go_simp
                  with_reducible rfl
                 rotate_left
                 ·simp only [Act.put, List.setIfInBounds_toArray, List.set_cons_zero, List.set_cons_succ, i64_w, i32_w]
                  rfl
                 refine one_ (i := 24) (N := some 103) (zm 28 33554431) rfl rfl (one_of HT_.out (by kernel_rfl)) (by decide) (fun K hK => ?_)
                 refine zi Try.func14 #[.int .i64 ((rd_T45 l0_1 x4_3).f2), .int .i64 (-2147483648), .int .i64 2147483647] ?_
                 with_reducible refine (spec_l1In.calls ((rd_T45 l0_1 x4_3).f2) (-2147483648) 2147483647 true _ A57.out).mono ?_
                 rintro e w' ⟨rfl, ⟨nd, rfl⟩⟩
                 refine ⟨_, rfl, ?_⟩
                 refine hK.out _ _ ⟨(blk_cell BK155.out 0).trans rfl, (blk_cell BK155.out 1).trans rfl, (blk_cell BK155.out 2).trans rfl, (blk_cell BK155.out 3).trans rfl⟩ (fun hHeld => ?_)
                 clear hK K
                 refine zq ?_
                 refine zp 25 104 (zm 28 67108863) ?_
                 refine zp 26 105 (zm 28 134217727) ?_
                 refine zp 27 106 (zm 28 268435455) ?_
                 refine done_ (done_of HT_.out (by kernel_rfl)) ?_
                 try go_wp2
                 go_roundg kj20
                 case measure => have := HJ1.out; have := HK2.out; have := HK3.out; have := HJ20.out; omega
                 case rel => exact ⟨(wrap64 (x4_3 + 1)), (zE _), H', ⟨by have := HJ1.out; have := HK2.out; have := HK3.out; have := HJ20.out; omega⟩, ⟨by (with_reducible repeat (first | refine blk_drewN ?_ _ | refine blk_drew ?_ | refine blk_alloc ?_ _)); exact BK151.out⟩, ⟨zb _⟩⟩
                ·replace c58 := Bool.eq_false_iff.mpr c58
                 subst c58
                 rw [if_neg (show ¬ (false = true) by decide)] at H
                 obtain rfl := Option.some.inj H
                 try go_wp2
                 have n0_ := Aside0.mk (blk_drew BK151.out)
                 have n1_ := Aside0.mk (blk_drew BK155.out)
                 have n2_ := Aside0.mk (below_drew1 HB.out)
                 clear BK151
                 clear BK155
                 clear HB
                 have BK151 := n0_
                 have BK155 := n1_
                 have HB := n2_
                 clear n0_ n1_ n2_
                 refine start_ (n := 28) (S := fun w' => w'.cell? ⟨gb155, 0, none⟩ = some (.string ((rd_T45 l0_1 x4_3).f0)) ∧ w'.cell? ⟨gb155, 1, none⟩ = some (.int .i64 ((rd_T45 l0_1 x4_3).f1)) ∧ w'.cell? ⟨gb155, 2, none⟩ = some (.int .i64 ((rd_T45 l0_1 x4_3).f2)) ∧ w'.cell? ⟨gb155, 3, none⟩ = some (.bool ((rd_T45 l0_1 x4_3).f3))) (ds := []) (zm 28 0) (by kernel_rfl) rfl rfl ⟨(blk_cell BK155.out 0).trans rfl, (blk_cell BK155.out 1).trans rfl, (blk_cell BK155.out 2).trans rfl, (blk_cell BK155.out 3).trans rfl⟩ (fun hHeld => ?_); refine with_tabW spec_ObjectOk.tab14 spec_ObjectOk.bits14 (fun HT_ HW_ => ?_)
                 generalize wc.drew = w60 at BK151 BK155 HB hHeld ⊢
                 refine zp 0 79 (zm 28 1) ?_
                 refine take_ (i := 1) (N := some 80) (v := ?_) (a' := ?_) (zm 28 3) rfl rfl (take_ofW HT_.out HW_.out (by kernel_rfl)) (fun _ _ _ h => h) (Or.inl ⟨by rfl, ?_⟩) hHeld ?_ ?_
                 rotate_left
                 ·rintro w' ⟨s0, s1, s2, s3⟩
                  go_simp
                  with_reducible rfl
                 rotate_left
                 ·simp only [Act.put, List.setIfInBounds_toArray, List.set_cons_zero, List.set_cons_succ, i64_w, i32_w]
                  rfl
                 refine zp 2 81 (zm 28 7) ?_
                 refine zp 3 82 (zm 28 15) ?_
                 refine zu 4 83 (zm 28 31) ?_
                 refine zu 5 84 (zm 28 63) ?_
                 refine zu 6 85 (zm 28 127) ?_
                 refine zu 7 86 (zm 28 255) ?_
                 refine zu 8 87 (zm 28 511) ?_
                 refine zu 9 88 (zm 28 1023) ?_
                 refine zu 10 89 (zm 28 2047) ?_
                 refine zu 11 90 (zm 28 4095) ?_
                 refine zu 12 91 (zm 28 8191) ?_
                 refine zu 13 92 (zm 28 16383) ?_
                 refine zu 14 93 (zm 28 32767) ?_
                 refine zu 15 94 (zm 28 65535) ?_
                 refine zp 16 95 (zm 28 131071) ?_
                 refine zp 17 96 (zm 28 262143) ?_
                 refine zp 18 97 (zm 28 524287) ?_
                 refine take_ (i := 19) (N := some 98) (v := ?_) (a' := ?_) (zm 28 1048575) rfl rfl (take_ofW HT_.out HW_.out (by kernel_rfl)) (fun _ _ _ h => h) (Or.inl ⟨by rfl, ?_⟩) hHeld ?_ ?_
                 rotate_left
                 ·rintro w' ⟨s0, s1, s2, s3⟩
                  go_simp
                  with_reducible rfl
                 rotate_left
                 ·simp only [Act.put, List.setIfInBounds_toArray, List.set_cons_zero, List.set_cons_succ, i64_w, i32_w]
                  rfl
                 refine zp 20 99 (zm 28 2097151) ?_
                 refine zp 21 100 (zm 28 4194303) ?_
                 refine zp 22 101 (zm 28 8388607) ?_
                 refine take_ (i := 23) (N := some 102) (v := ?_) (a' := ?_) (zm 28 16777215) rfl rfl (take_ofW HT_.out HW_.out (by kernel_rfl)) (fun _ _ _ h => h) (Or.inl ⟨by rfl, ?_⟩) hHeld ?_ ?_
                 rotate_left
                 ·rintro w' ⟨s0, s1, s2, s3⟩
                  go_simp
                  with_reducible rfl
                 rotate_left
                 ·simp only [Act.put, List.setIfInBounds_toArray, List.set_cons_zero, List.set_cons_succ, i64_w, i32_w]
                  rfl
                 refine one_ (i := 24) (N := some 103) (zm 28 33554431) rfl rfl (one_of HT_.out (by kernel_rfl)) (by decide) (fun K hK => ?_)
                 refine zi Try.func14 #[.int .i64 ((rd_T45 l0_1 x4_3).f2), .int .i64 (-2147483648), .int .i64 2147483647] ?_
                 with_reducible refine (spec_l1In.calls ((rd_T45 l0_1 x4_3).f2) (-2147483648) 2147483647 false _ A57.out).mono ?_
                 rintro e w' ⟨rfl, ⟨nd, rfl⟩⟩
                 refine ⟨_, rfl, ?_⟩
                 refine hK.out _ _ ⟨(blk_cell BK155.out 0).trans rfl, (blk_cell BK155.out 1).trans rfl, (blk_cell BK155.out 2).trans rfl, (blk_cell BK155.out 3).trans rfl⟩ (fun hHeld => ?_)
                 clear hK K
                 refine zq ?_
                 refine zp 25 104 (zm 28 67108863) ?_
                 refine zp 26 105 (zm 28 134217727) ?_
                 refine zp 27 106 (zm 28 268435455) ?_
                 refine done_ (done_of HT_.out (by kernel_rfl)) ?_
                 try go_wp2
                 go_ret
                 exact ⟨ze _, zb _⟩
               ·rw [if_neg c56] at H
                have c56b0 : decide (((rd_T45 l0_1 x4_3).f1) < 0) = false := decide_eq_false c56
                clear c56
                have H' := Aside0.mk H
                clear H
                try go_wp2
                have n0_ := Aside0.mk (blk_drew BK151.out)
                have n1_ := Aside0.mk (blk_drew BK155.out)
                have n2_ := Aside0.mk (below_drew1 HB.out)
                clear BK151
                clear BK155
                clear HB
                have BK151 := n0_
                have BK155 := n1_
                have HB := n2_
                clear n0_ n1_ n2_
                refine start_ (n := 28) (S := fun w' => w'.cell? ⟨gb155, 0, none⟩ = some (.string ((rd_T45 l0_1 x4_3).f0)) ∧ w'.cell? ⟨gb155, 1, none⟩ = some (.int .i64 ((rd_T45 l0_1 x4_3).f1)) ∧ w'.cell? ⟨gb155, 2, none⟩ = some (.int .i64 ((rd_T45 l0_1 x4_3).f2)) ∧ w'.cell? ⟨gb155, 3, none⟩ = some (.bool ((rd_T45 l0_1 x4_3).f3))) (ds := []) (zm 28 0) (by kernel_rfl) rfl rfl ⟨(blk_cell BK155.out 0).trans rfl, (blk_cell BK155.out 1).trans rfl, (blk_cell BK155.out 2).trans rfl, (blk_cell BK155.out 3).trans rfl⟩ (fun hHeld => ?_); refine with_tabW spec_ObjectOk.tab14 spec_ObjectOk.bits14 (fun HT_ HW_ => ?_)
                generalize wc.drew = w61 at BK151 BK155 HB hHeld ⊢
                refine zp 0 79 (zm 28 1) ?_
                refine take_ (i := 1) (N := some 80) (v := ?_) (a' := ?_) (zm 28 3) rfl rfl (take_ofW HT_.out HW_.out (by kernel_rfl)) (fun _ _ _ h => h) (Or.inl ⟨by rfl, ?_⟩) hHeld ?_ ?_
                rotate_left
                ·rintro w' ⟨s0, s1, s2, s3⟩
                 go_simp
                 with_reducible rfl
                rotate_left
                ·simp only [Act.put, List.setIfInBounds_toArray, List.set_cons_zero, List.set_cons_succ, i64_w, i32_w]
                 rfl
                refine zp 2 81 (zm 28 7) ?_
                refine zp 3 82 (zm 28 15) ?_
                refine zu 4 83 (zm 28 31) ?_
                refine zu 5 84 (zm 28 63) ?_
                refine zu 6 85 (zm 28 127) ?_
                refine zu 7 86 (zm 28 255) ?_
                refine zu 8 87 (zm 28 511) ?_
                refine zu 9 88 (zm 28 1023) ?_
                refine zu 10 89 (zm 28 2047) ?_
                refine zu 11 90 (zm 28 4095) ?_
                refine zu 12 91 (zm 28 8191) ?_
                refine zu 13 92 (zm 28 16383) ?_
                refine zu 14 93 (zm 28 32767) ?_
                refine zu 15 94 (zm 28 65535) ?_
                refine zp 16 95 (zm 28 131071) ?_
                refine zp 17 96 (zm 28 262143) ?_
                refine zp 18 97 (zm 28 524287) ?_
                refine take_ (i := 19) (N := some 98) (v := ?_) (a' := ?_) (zm 28 1048575) rfl rfl (take_ofW HT_.out HW_.out (by kernel_rfl)) (fun _ _ _ h => h) (Or.inl ⟨by rfl, ?_⟩) hHeld ?_ ?_
                rotate_left
                ·rintro w' ⟨s0, s1, s2, s3⟩
                 go_simp
                 with_reducible rfl
                rotate_left
                ·simp only [Act.put, List.setIfInBounds_toArray, List.set_cons_zero, List.set_cons_succ, i64_w, i32_w]
                 rfl
                refine zp 20 99 (zm 28 2097151) ?_
                refine zp 21 100 (zm 28 4194303) ?_
                refine zu 22 101 (zm 28 8388607) ?_
                refine zu 23 102 (zm 28 16777215) ?_
                refine zu 24 103 (zm 28 33554431) ?_
                refine zu 25 104 (zm 28 67108863) ?_
                refine zp 26 105 (zm 28 134217727) ?_
                refine zp 27 106 (zm 28 268435455) ?_
                refine done_ (done_of HT_.out (by kernel_rfl)) ?_
                try go_wp2
                go_roundg kj20
                case measure => have := HJ1.out; have := HK2.out; have := HK3.out; have := HJ20.out; omega
                case rel => exact ⟨(wrap64 (x4_3 + 1)), (zE _), H', ⟨by have := HJ1.out; have := HK2.out; have := HK3.out; have := HJ20.out; omega⟩, ⟨by (with_reducible repeat (first | refine blk_drewN ?_ _ | refine blk_drew ?_ | refine blk_alloc ?_ _)); exact BK151.out⟩, ⟨zb _⟩⟩
          ·rw [if_neg c20] at H
           exact absurd H (by simp)
         ·rw [if_neg c19] at H
          have c19b0 : decide (x4_3 < (l0_1.length : Int)) = false := decide_eq_false c19
          clear c19
          have H' := Aside0.mk H
          clear H
          have hcz62_0 := zc0 BK151
          have hcz62_1 := zc1 BK151
          have hcz62_2 := zc2 BK151
          have hfz62_0 := blk_frozen BK151.out 0
          have hfz62_1 := blk_frozen BK151.out 1
          have hfz62_2 := blk_frozen BK151.out 2
          go_wp2
          go_loopg [6] k3 (fun kq v6 w' => ∃ (x6_4 : Int), v6 = .int .i64 x6_4 ∧ Aside0 (spec_ObjectOk.l2 kq x6_4 l0_0 l0_1 l0_2 = some r) ∧ Aside0 (kq ≤ k3) ∧ Aside0 (w'.heap[gb151]? = some (.cells #[(.slice A0_0 l0_0.length c0_0), (.slice A0_1 l0_1.length c0_1), (.slice A0_2 l0_2.length c0_2)] 33 (0, 0))) ∧ Aside0 (Below w.heap.size w w'))
          case atStart => exact ⟨(0), (zE _), H', ⟨Nat.le_refl _⟩, ⟨by (with_reducible repeat (first | refine blk_drewN ?_ _ | refine blk_drew ?_ | refine blk_alloc ?_ _)); exact BK151.out⟩, ⟨zb _⟩⟩
          case round =>
           clear H'
           try clear c1
           try clear c2
           try clear p2
           try clear c5
           try clear p6
           try clear c14
           try clear c19
           try clear c19b0
           try clear c20
           try clear c56
           try clear c56b0
           try clear c58
           try clear hcz62_0
           try clear hcz62_1
           try clear hcz62_2
           try clear hfz62_0
           try clear hfz62_1
           try clear hfz62_2
           obtain ⟨x6_4, rfl, HA, HK4, BK151, HB⟩ := hrel
           cases gk with
           | zero => exact absurd HA.out (by simp [spec_ObjectOk.l2])
           | succ k4 =>
            have H := HA.out
            clear HA
            simp only [spec_ObjectOk.l2] at H
            by_cases c63 : x6_4 < (l0_2.length : Int)
            ·rw [if_pos c63] at H
             have c63b0 : decide (x6_4 < (l0_2.length : Int)) = true := decide_eq_true c63
             clear c63
             by_cases c64 : 0 ≤ x6_4
             ·rw [if_pos c64] at H
              have c64b0 : decide (0 ≤ x6_4) = true := decide_eq_true c64
              clear c64
              obtain ⟨t165, A650, H⟩ := Option.bind_eq_some_iff.mp H
              have A65 := Aside0.mk A650
              clear A650
              by_cases c66 : t165 = true
              ·subst c66
               rw [if_pos rfl] at H
               have H' := Aside0.mk H
               clear H
               have hcz67_0 := zc0 BK151
               have hcz67_1 := zc1 BK151
               have hcz67_2 := zc2 BK151
               have hfz67_0 := blk_frozen BK151.out 0
               have hfz67_1 := blk_frozen BK151.out 1
               have hfz67_2 := blk_frozen BK151.out 2
               have p164 : 0 ≤ (x6_4 : Int) := of_decide_eq_true (za _)
               have q164 : x6_4 < (l0_2.length : Int) := of_decide_eq_true (za _)
               obtain ⟨ad164, A164_0, c164_0, e164, hx164_0, hl164_0, hi164_0⟩ := at_L10 HR0_2.out x6_4 p164 q164
               cases e164
               replace hx164_0 := (HB.out.cell (World.block_lt_of_cell? w _ hx164_0)).trans hx164_0
               have HR164_0 := Aside0.mk hi164_0
               have HC164_0 := Aside0.mk hl164_0
               clear hi164_0 hl164_0
               replace p164 := eq_true p164
               replace q164 := eq_true q164
               go_wp2_with (first | ((with_reducible refine gate_callee (f := 15) rfl ?_); refine zc (some 119) Try.func15 #[.slice A164_0 (rd_L10 l0_2 x6_4).length c164_0] ?_; (with_reducible refine (spec_ExprOk.calls k4 _ _ (rd_L10 l0_2 x6_4) true _ ?side1 ?side2 A65.out).mono ?_); (case side1 => repeat (first | exact (Kd.C_below HR164_0.out HB.out) | (with_reducible refine Kd.C_alloc ?_ _) | (with_reducible refine Kd.C_drewN ?_ _) | (with_reducible refine Kd.C_drew ?_))); (case side2 => exact HC164_0.out); rintro e w68 ⟨rfl, hb⟩; refine ⟨_, rfl, ?_⟩; replace BK151 := zk BK151 hb; replace HB := zt w hb; (try clear hb); (try clear hb2); (try clear hk); (try clear hi)))
               go_roundg k4
               case measure => have := HJ1.out; have := HK2.out; have := HK3.out; have := HK4.out; omega
               case rel => exact ⟨(wrap64 (x6_4 + 1)), (zE _), H', ⟨by have := HJ1.out; have := HK2.out; have := HK3.out; have := HK4.out; omega⟩, ⟨by (with_reducible repeat (first | refine blk_drewN ?_ _ | refine blk_drew ?_ | refine blk_alloc ?_ _)); exact BK151.out⟩, ⟨zb _⟩⟩
              ·replace c66 := Bool.eq_false_iff.mpr c66
               subst c66
               rw [if_neg (show ¬ (false = true) by decide)] at H
               obtain rfl := Option.some.inj H
               have hcz69_0 := zc0 BK151
               have hcz69_1 := zc1 BK151
               have hcz69_2 := zc2 BK151
               have hfz69_0 := blk_frozen BK151.out 0
               have hfz69_1 := blk_frozen BK151.out 1
               have hfz69_2 := blk_frozen BK151.out 2
               have p164 : 0 ≤ (x6_4 : Int) := of_decide_eq_true (za _)
               have q164 : x6_4 < (l0_2.length : Int) := of_decide_eq_true (za _)
               obtain ⟨ad164, A164_0, c164_0, e164, hx164_0, hl164_0, hi164_0⟩ := at_L10 HR0_2.out x6_4 p164 q164
               cases e164
               replace hx164_0 := (HB.out.cell (World.block_lt_of_cell? w _ hx164_0)).trans hx164_0
               have HR164_0 := Aside0.mk hi164_0
               have HC164_0 := Aside0.mk hl164_0
               clear hi164_0 hl164_0
               replace p164 := eq_true p164
               replace q164 := eq_true q164
               go_wp2_with (first | ((with_reducible refine gate_callee (f := 15) rfl ?_); refine zc (some 119) Try.func15 #[.slice A164_0 (rd_L10 l0_2 x6_4).length c164_0] ?_; (with_reducible refine (spec_ExprOk.calls k4 _ _ (rd_L10 l0_2 x6_4) false _ ?side1 ?side2 A65.out).mono ?_); (case side1 => repeat (first | exact (Kd.C_below HR164_0.out HB.out) | (with_reducible refine Kd.C_alloc ?_ _) | (with_reducible refine Kd.C_drewN ?_ _) | (with_reducible refine Kd.C_drew ?_))); (case side2 => exact HC164_0.out); rintro e w70 ⟨rfl, hb⟩; refine ⟨_, rfl, ?_⟩; replace BK151 := zk BK151 hb; replace HB := zt w hb; (try clear hb); (try clear hb2); (try clear hk); (try clear hi)))
               go_ret
               exact ⟨ze _, zb _⟩
             ·rw [if_neg c64] at H
              exact absurd H (by simp)
            ·rw [if_neg c63] at H
             have c63b0 : decide (x6_4 < (l0_2.length : Int)) = false := decide_eq_false c63
             clear c63
             obtain rfl := Option.some.inj H
             have hcz71_0 := zc0 BK151
             have hcz71_1 := zc1 BK151
             have hcz71_2 := zc2 BK151
             have hfz71_0 := blk_frozen BK151.out 0
             have hfz71_1 := blk_frozen BK151.out 1
             have hfz71_2 := blk_frozen BK151.out 2
             go_wp2
             go_ret
             exact ⟨ze _, zb _⟩

end Go.Proofs.Ytbbngeooodcbcaa.PFnExactObjectOk
