/- What the Go functions that the law FnExactObjectOk reaches compute, function by function, and that Go comes to just that. -/
import Derived.Test.YtbbngeooodcbcaaPFnExactObjectOkx0
import Derived.Test.YtbbngeooodcbcaaAidZ
import Derived.Test.YtbbngeooodcbcaaPFnExactObjectOkx6
import Derived.Test.YtbbngeooodcbcaaPFnExactObjectOkx7
import Derived.Test.YtbbngeooodcbcaaPFnExactObjectOkx8
namespace Go.Proofs.Ytbbngeooodcbcaa.PFnExactObjectOk
open Go.RowKit Go.Proofs.Ytbbngeooodcbcaa.Z Go.Proofs.YtbbngeooodcbcaaW.PrintWords Go.Proofs.YtbbngeooodcbcaaW.PrintLast Go.Proofs.YtbbngeooodcbcaaW.PrintMore
attribute [local go_sem] max2_int min2_int max_two min_two max_three min_three max_four min_four   -- for this text's walks alone
set_option linter.unusedVariables false
set_option linter.unusedSimpArgs false

/-! ### impl_SectionOk: function 22 -/
mutual
def impl_SectionOk.j0 : Nat → Int → Bool → ByteArray → Int → Int → Int → ByteArray → List (S70) → Option (Bool)
  | 0, _, _, _, _, _, _, _, _ => none
  | k + 1, x3, x27, x273000, x273001, x273002, x273003, x273004, x273005 => if x27 = true then (some false) else (if x273001 = 2 then ((impl_noughts.f (x273004.size : Int)).bind fun t275 => (if x273004.toList = t275.toList then (impl_SectionOk.j1 k x3 (decide ((x273005.length : Int) > 0)) x273000 x273001 x273002 x273003 x273004 x273005) else (impl_SectionOk.j1 k x3 true x273000 x273001 x273002 x273003 x273004 x273005))) else (impl_SectionOk.j1 k x3 false x273000 x273001 x273002 x273003 x273004 x273005))
def impl_SectionOk.j1 : Nat → Int → Bool → ByteArray → Int → Int → Int → ByteArray → List (S70) → Option (Bool)
  | 0, _, _, _, _, _, _, _, _ => none
  | k + 1, x3, x45, x273000, x273001, x273002, x273003, x273004, x273005 => if x45 = true then (some false) else ((impl_baseOf.f x273001).bind fun t276 => (if x273003 = (-1) then (if x273002 = (-1) then ((impl_Patch.f k x273005 x273000 x273001 x273002 x273003 x273004 x273005).bind fun t277 => (some (!t277))) else (if x273001 = 1 then ((impl_within.f x273002 1 15).bind fun t278 => (if t278 = true then ((impl_Patch.f k x273005 x273000 x273001 x273002 x273003 x273004 x273005).bind fun t279 => (some (!t279))) else (some false))) else (some false))) else ((impl_within.f x273003 t276 (wrap64 ((wrap64 (t276 + 256)) - x3))).bind fun t280 => (if t280 = true then (if x273002 = (-1) then ((impl_Patch.f k x273005 x273000 x273001 x273002 x273003 x273004 x273005).bind fun t281 => (some (!t281))) else (if x273001 = 1 then ((impl_within.f x273002 1 15).bind fun t282 => (if t282 = true then ((impl_Patch.f k x273005 x273000 x273001 x273002 x273003 x273004 x273005).bind fun t283 => (some (!t283))) else (some false))) else (some false))) else (some false)))))
end
def impl_SectionOk.f (k : Nat) (a0_0 : ByteArray) (a0_1 : Int) (a0_2 : Int) (a0_3 : Int) (a0_4 : ByteArray) (l0_5 : List (S70)) : Option (Bool) := (impl_NameOk.f k a0_0).bind fun t273 => (if t273 = true then ((impl_within.f a0_1 0 2).bind fun t274 => (if t274 = true then (if (a0_4.size : Int) > 256 then (impl_SectionOk.j0 k (a0_4.size : Int) true a0_0 a0_1 a0_2 a0_3 a0_4 l0_5) else (impl_SectionOk.j0 k (a0_4.size : Int) (decide ((l0_5.length : Int) > 256)) a0_0 a0_1 a0_2 a0_3 a0_4 l0_5)) else (impl_SectionOk.j0 k (a0_4.size : Int) true a0_0 a0_1 a0_2 a0_3 a0_4 l0_5))) else (impl_SectionOk.j0 k (a0_4.size : Int) true a0_0 a0_1 a0_2 a0_3 a0_4 l0_5))
theorem impl_SectionOk.mono_l : ∀ k, (∀ y0 y1 y2 y3 y4 y5 y6 y7, LeO (impl_SectionOk.j0 k y0 y1 y2 y3 y4 y5 y6 y7) (impl_SectionOk.j0 (k + 1) y0 y1 y2 y3 y4 y5 y6 y7)) ∧ (∀ y0 y1 y2 y3 y4 y5 y6 y7, LeO (impl_SectionOk.j1 k y0 y1 y2 y3 y4 y5 y6 y7) (impl_SectionOk.j1 (k + 1) y0 y1 y2 y3 y4 y5 y6 y7))
  | 0 => ⟨fun _ _ _ _ _ _ _ _ r h => by simp [impl_SectionOk.j0] at h, fun _ _ _ _ _ _ _ _ r h => by simp [impl_SectionOk.j1] at h⟩
  | k + 1 => by
    obtain ⟨ih0, ih1⟩ := impl_SectionOk.mono_l k
    refine ⟨?_, ?_⟩
    · intro y0 y1 y2 y3 y4 y5 y6 y7
      unfold impl_SectionOk.j0
      repeat' first
      | (with_reducible exact ih0 _ _ _ _ _ _ _ _)
      | (with_reducible exact ih1 _ _ _ _ _ _ _ _)
      | (with_reducible exact impl_NameOk.mono _ _)
      | (with_reducible exact impl_Patch.mono _ _ _ _ _ _ _ _)
      | (with_reducible exact LeO.refl _)
      | (with_reducible exact LeO.none _)
      | (with_reducible refine LeO.ite ?_ ?_)
      | (with_reducible refine LeO.bind ?_ (fun _ => ?_))
      | exact ih0 _ _ _ _ _ _ _ _
      | exact ih1 _ _ _ _ _ _ _ _
      | exact impl_NameOk.mono _ _
      | exact impl_Patch.mono _ _ _ _ _ _ _ _
      | exact LeO.none _
      | refine LeO.ite ?_ ?_
      | refine LeO.bind ?_ (fun _ => ?_)
    · intro y0 y1 y2 y3 y4 y5 y6 y7
      unfold impl_SectionOk.j1
      repeat' first
      | (with_reducible exact ih0 _ _ _ _ _ _ _ _)
      | (with_reducible exact ih1 _ _ _ _ _ _ _ _)
      | (with_reducible exact impl_NameOk.mono _ _)
      | (with_reducible exact impl_Patch.mono _ _ _ _ _ _ _ _)
      | (with_reducible exact LeO.refl _)
      | (with_reducible exact LeO.none _)
      | (with_reducible refine LeO.ite ?_ ?_)
      | (with_reducible refine LeO.bind ?_ (fun _ => ?_))
      | exact ih0 _ _ _ _ _ _ _ _
      | exact ih1 _ _ _ _ _ _ _ _
      | exact impl_NameOk.mono _ _
      | exact impl_Patch.mono _ _ _ _ _ _ _ _
      | exact LeO.none _
      | refine LeO.ite ?_ ?_
      | refine LeO.bind ?_ (fun _ => ?_)
theorem impl_SectionOk.mono : ∀ a0 a1 a2 a3 a4 a5 k, LeO (impl_SectionOk.f k a0 a1 a2 a3 a4 a5) (impl_SectionOk.f (k + 1) a0 a1 a2 a3 a4 a5) := by
  intro a0 a1 a2 a3 a4 a5 k
  obtain ⟨ih0, ih1⟩ := impl_SectionOk.mono_l k
  unfold impl_SectionOk.f
  repeat' first
      | (with_reducible exact ih0 _ _ _ _ _ _ _ _)
      | (with_reducible exact ih1 _ _ _ _ _ _ _ _)
      | (with_reducible exact impl_NameOk.mono _ _)
      | (with_reducible exact impl_Patch.mono _ _ _ _ _ _ _ _)
      | (with_reducible exact LeO.refl _)
      | (with_reducible exact LeO.none _)
      | (with_reducible refine LeO.ite ?_ ?_)
      | (with_reducible refine LeO.bind ?_ (fun _ => ?_))
      | exact ih0 _ _ _ _ _ _ _ _
      | exact ih1 _ _ _ _ _ _ _ _
      | exact impl_NameOk.mono _ _
      | exact impl_Patch.mono _ _ _ _ _ _ _ _
      | exact LeO.none _
      | refine LeO.ite ?_ ?_
      | refine LeO.bind ?_ (fun _ => ?_)
def impl_SectionOk.T4 : Bool × List (List Nat × List Nat) := (true, [([], []), ([0], [0]), ([1], [1]), ([2], [2]), ([3], [3]), ([4, 3], [3, 4]), ([3], [3]), ([6, 3], [3, 6]), ([7, 3], [3, 7]), ([8, 3, 3], [3, 8]), ([5, 9, 3], [3, 5, 9]), ([10, 9, 3], [3, 10]), ([11], [11]), ([12, 11], [11, 12]), ([13, 11], [11, 13]), ([14, 11], [11, 14]), ([11, 15, 3], [3, 11, 15]), ([3, 16], [3, 16])])
def impl_SectionOk.B4 : List Nat := [0, 1, 3, 7, 15, 31, 15, 79, 207, 463, 1023, 2047, 4095, 8191, 16383, 32767, 65535, 131071]
theorem impl_SectionOk.tab4 : rtab .any (opsOf Try.f22 4) = impl_SectionOk.T4 := by kernel_rfl
theorem impl_SectionOk.bits4 : waitsOk impl_SectionOk.T4.2 impl_SectionOk.B4 = true := by kernel_rfl
set_option maxHeartbeats 8000000 in
set_option maxRecDepth 100000 in
theorem impl_SectionOk.calls (k : Nat) (a0_0 : ByteArray) (a0_1 : Int) (a0_2 : Int) (a0_3 : Int) (a0_4 : ByteArray) (A0_5 : Option Addr) (c0_5 : Nat) (l0_5 : List (S70)) (r : Bool) (w : World) (hr0_5 : Kd.C k70 w A0_5 l0_5.length l0_5) (hc0_5 : l0_5.length ≤ c0_5) (h : impl_SectionOk.f k a0_0 a0_1 a0_2 a0_3 a0_4 l0_5 = some r) :
 Calls Try.prog 22 #[.agg #[.string a0_0, .int .i64 a0_1, .int .i64 a0_2, .int .i64 a0_3, .string a0_4, .slice A0_5 l0_5.length c0_5]] w fun e w' => e = .returned (.bool r) ∧ Below w.heap.size w w' := by
 have hu43 := Try.underlying43
 have HR0_5 := Aside0.mk hr0_5
 have HC0_5 := Aside0.mk hc0_5
 clear hr0_5 hc0_5
 have HB := Aside0.mk (Below.refl w.heap.size w)
 have H : ((impl_NameOk.f k a0_0).bind fun t273 => (if t273 = true then ((impl_within.f a0_1 0 2).bind fun t274 => (if t274 = true then (if (a0_4.size : Int) > 256 then (impl_SectionOk.j0 k (a0_4.size : Int) true a0_0 a0_1 a0_2 a0_3 a0_4 l0_5) else (impl_SectionOk.j0 k (a0_4.size : Int) (decide ((l0_5.length : Int) > 256)) a0_0 a0_1 a0_2 a0_3 a0_4 l0_5)) else (impl_SectionOk.j0 k (a0_4.size : Int) true a0_0 a0_1 a0_2 a0_3 a0_4 l0_5))) else (impl_SectionOk.j0 k (a0_4.size : Int) true a0_0 a0_1 a0_2 a0_3 a0_4 l0_5))) = some r := h
 clear h
 have HC2 := Aside0.mk H
 clear H
 go_enter Try.func22, Try.ntmps22
 go_upto_region 2 with (first | ((with_reducible refine gate_dst (N := 1) rfl ?_); (try (refine gate_guard (by rfl) ?_; dsimp only)); refine zbx 1 #[.string a0_0, .int .i64 a0_1, .int .i64 a0_2, .int .i64 a0_3, .string a0_4, .slice A0_5 l0_5.length c0_5] 43 ?_; intro gb272 hg w3 hbox hb; have BK272 := Aside0.mk (hbox); have GW272 := zs w hg; have GE272 := GW272; replace HB := zt w hb; clear hb hbox hg; have hcz4_0 := zc0 BK272; have hcz4_1 := zc1 BK272; have hcz4_2 := zc2 BK272; have hcz4_3 := zc3 BK272; have hcz4_4 := zc4 BK272; have hcz4_5 := zc5 BK272; have hfz4_0 := blk_frozen BK272.out 0; have hfz4_1 := blk_frozen BK272.out 1; have hfz4_2 := blk_frozen BK272.out 2; have hfz4_3 := blk_frozen BK272.out 3; have hfz4_4 := blk_frozen BK272.out 4; have hfz4_5 := blk_frozen BK272.out 5))
 (try simp only [Act.put, List.setIfInBounds_toArray, List.set_cons_zero, List.set_cons_succ])
 go_cut [27] (fun v27 wc => ∃ (kq : Nat) (x27_1 : Bool), v27 = .bool x27_1 ∧ Aside0 (impl_SectionOk.j0 kq (a0_4.size : Int) x27_1 a0_0 a0_1 a0_2 a0_3 a0_4 l0_5 = some r) ∧ Aside0 (kq ≤ k) ∧ Aside0 (wc.heap[gb272]? = some (.cells #[.string a0_0, .int .i64 a0_1, .int .i64 a0_2, .int .i64 a0_3, .string a0_4, (.slice A0_5 l0_5.length c0_5)] 43 (0, 0))) ∧ Aside0 (Below w.heap.size w wc))
 case first =>
  have H := HC2.out
  clear HC2
  obtain ⟨t273, A50, H⟩ := Option.bind_eq_some_iff.mp H
  have A5 := Aside0.mk A50
  clear A50
  by_cases c6 : t273 = true
  ·subst c6
   rw [if_pos rfl] at H
   obtain ⟨t274, A70, H⟩ := Option.bind_eq_some_iff.mp H
   have A7 := Aside0.mk A70
   clear A70
   by_cases c8 : t274 = true
   ·subst c8
    rw [if_pos rfl] at H
    by_cases c9 : (a0_4.size : Int) > 256
    ·rw [if_pos c9] at H
     have c9b0 : decide (256 < (a0_4.size : Int)) = true := decide_eq_true c9
     have c9b1 : decide (256 < a0_4.size) = true := decide_eq_true (by omega)
     clear c9
     (first | rw [c9b0] | (simp only [i64_w, i32_w]; rw [c9b0]) | skip)
     have H' := Aside0.mk H
     clear H
     have hcz10_0 := zc0 BK272
     have hcz10_1 := zc1 BK272
     have hcz10_2 := zc2 BK272
     have hcz10_3 := zc3 BK272
     have hcz10_4 := zc4 BK272
     have hcz10_5 := zc5 BK272
     have hfz10_0 := blk_frozen BK272.out 0
     have hfz10_1 := blk_frozen BK272.out 1
     have hfz10_2 := blk_frozen BK272.out 2
     have hfz10_3 := blk_frozen BK272.out 3
     have hfz10_4 := blk_frozen BK272.out 4
     have hfz10_5 := blk_frozen BK272.out 5
     go_wp2_with (first | ((with_reducible refine gate_callee (f := 40) rfl ?_); refine zc (some 10) Try.func40 #[.string a0_0] ?_; (with_reducible refine (impl_NameOk.calls k a0_0 true _ A5.out).mono ?_); rintro e w' ⟨rfl, ⟨nd, rfl⟩⟩; refine ⟨_, rfl, ?_⟩) | (go_at_call 41; (with_reducible refine (impl_within.calls a0_1 0 2 true _ A7.out).mono ?_); rintro e w' ⟨rfl, ⟨nd, rfl⟩⟩))
     go_meet
     case rel => exact ⟨_, (true), (zE _), H', ⟨by first | omega | exact Nat.le_refl _⟩, ⟨by (with_reducible repeat (first | refine blk_drewN ?_ _ | refine blk_drew ?_ | refine blk_alloc ?_ _)); exact BK272.out⟩, ⟨zb _⟩⟩
    ·rw [if_neg c9] at H
     have c9b0 : decide (256 < (a0_4.size : Int)) = false := decide_eq_false c9
     have c9b1 : decide (256 < a0_4.size) = false := decide_eq_false (by omega)
     clear c9
     (first | rw [c9b0] | (simp only [i64_w, i32_w]; rw [c9b0]) | skip)
     have H' := Aside0.mk H
     clear H
     have hcz11_0 := zc0 BK272
     have hcz11_1 := zc1 BK272
     have hcz11_2 := zc2 BK272
     have hcz11_3 := zc3 BK272
     have hcz11_4 := zc4 BK272
     have hcz11_5 := zc5 BK272
     have hfz11_0 := blk_frozen BK272.out 0
     have hfz11_1 := blk_frozen BK272.out 1
     have hfz11_2 := blk_frozen BK272.out 2
     have hfz11_3 := blk_frozen BK272.out 3
     have hfz11_4 := blk_frozen BK272.out 4
     have hfz11_5 := blk_frozen BK272.out 5
     go_wp2_with (first | ((with_reducible refine gate_callee (f := 40) rfl ?_); refine zc (some 10) Try.func40 #[.string a0_0] ?_; (with_reducible refine (impl_NameOk.calls k a0_0 true _ A5.out).mono ?_); rintro e w' ⟨rfl, ⟨nd, rfl⟩⟩; refine ⟨_, rfl, ?_⟩) | (go_at_call 41; (with_reducible refine (impl_within.calls a0_1 0 2 true _ A7.out).mono ?_); rintro e w' ⟨rfl, ⟨nd, rfl⟩⟩))
     go_meet
     case rel => exact ⟨_, (decide ((l0_5.length : Int) > 256)), (zE _), H', ⟨by first | omega | exact Nat.le_refl _⟩, ⟨by (with_reducible repeat (first | refine blk_drewN ?_ _ | refine blk_drew ?_ | refine blk_alloc ?_ _)); exact BK272.out⟩, ⟨zb _⟩⟩
   ·replace c8 := Bool.eq_false_iff.mpr c8
    subst c8
    rw [if_neg (show ¬ (false = true) by decide)] at H
    have H' := Aside0.mk H
    clear H
    have hcz12_0 := zc0 BK272
    have hcz12_1 := zc1 BK272
    have hcz12_2 := zc2 BK272
    have hcz12_3 := zc3 BK272
    have hcz12_4 := zc4 BK272
    have hcz12_5 := zc5 BK272
    have hfz12_0 := blk_frozen BK272.out 0
    have hfz12_1 := blk_frozen BK272.out 1
    have hfz12_2 := blk_frozen BK272.out 2
    have hfz12_3 := blk_frozen BK272.out 3
    have hfz12_4 := blk_frozen BK272.out 4
    have hfz12_5 := blk_frozen BK272.out 5
    go_wp2_with (first | ((with_reducible refine gate_callee (f := 40) rfl ?_); refine zc (some 10) Try.func40 #[.string a0_0] ?_; (with_reducible refine (impl_NameOk.calls k a0_0 true _ A5.out).mono ?_); rintro e w' ⟨rfl, ⟨nd, rfl⟩⟩; refine ⟨_, rfl, ?_⟩) | (go_at_call 41; (with_reducible refine (impl_within.calls a0_1 0 2 false _ A7.out).mono ?_); rintro e w' ⟨rfl, ⟨nd, rfl⟩⟩))
    go_meet
    case rel => exact ⟨_, (true), (zE _), H', ⟨by first | omega | exact Nat.le_refl _⟩, ⟨by (with_reducible repeat (first | refine blk_drewN ?_ _ | refine blk_drew ?_ | refine blk_alloc ?_ _)); exact BK272.out⟩, ⟨zb _⟩⟩
  ·replace c6 := Bool.eq_false_iff.mpr c6
   subst c6
   rw [if_neg (show ¬ (false = true) by decide)] at H
   have H' := Aside0.mk H
   clear H
   have hcz13_0 := zc0 BK272
   have hcz13_1 := zc1 BK272
   have hcz13_2 := zc2 BK272
   have hcz13_3 := zc3 BK272
   have hcz13_4 := zc4 BK272
   have hcz13_5 := zc5 BK272
   have hfz13_0 := blk_frozen BK272.out 0
   have hfz13_1 := blk_frozen BK272.out 1
   have hfz13_2 := blk_frozen BK272.out 2
   have hfz13_3 := blk_frozen BK272.out 3
   have hfz13_4 := blk_frozen BK272.out 4
   have hfz13_5 := blk_frozen BK272.out 5
   go_wp2_with (first | ((with_reducible refine gate_callee (f := 40) rfl ?_); refine zc (some 10) Try.func40 #[.string a0_0] ?_; (with_reducible refine (impl_NameOk.calls k a0_0 false _ A5.out).mono ?_); rintro e w' ⟨rfl, ⟨nd, rfl⟩⟩; refine ⟨_, rfl, ?_⟩))
   go_meet
   case rel => exact ⟨_, (true), (zE _), H', ⟨by first | omega | exact Nat.le_refl _⟩, ⟨by (with_reducible repeat (first | refine blk_drewN ?_ _ | refine blk_drew ?_ | refine blk_alloc ?_ _)); exact BK272.out⟩, ⟨zb _⟩⟩
 case rest =>
  clear HC2
  try clear c2
  try clear p2
  try clear c4
  try clear c6
  try clear c8
  try clear c9
  try clear c9b0
  try clear c9b1
  try clear hcz10_0
  try clear hcz10_1
  try clear hcz10_2
  try clear hcz10_3
  try clear hcz10_4
  try clear hcz10_5
  try clear hcz11_0
  try clear hcz11_1
  try clear hcz11_2
  try clear hcz11_3
  try clear hcz11_4
  try clear hcz11_5
  try clear hcz12_0
  try clear hcz12_1
  try clear hcz12_2
  try clear hcz12_3
  try clear hcz12_4
  try clear hcz12_5
  try clear hcz13_0
  try clear hcz13_1
  try clear hcz13_2
  try clear hcz13_3
  try clear hcz13_4
  try clear hcz13_5
  try clear hcz4_0
  try clear hcz4_1
  try clear hcz4_2
  try clear hcz4_3
  try clear hcz4_4
  try clear hcz4_5
  try clear hfz10_0
  try clear hfz10_1
  try clear hfz10_2
  try clear hfz10_3
  try clear hfz10_4
  try clear hfz10_5
  try clear hfz11_0
  try clear hfz11_1
  try clear hfz11_2
  try clear hfz11_3
  try clear hfz11_4
  try clear hfz11_5
  try clear hfz12_0
  try clear hfz12_1
  try clear hfz12_2
  try clear hfz12_3
  try clear hfz12_4
  try clear hfz12_5
  try clear hfz13_0
  try clear hfz13_1
  try clear hfz13_2
  try clear hfz13_3
  try clear hfz13_4
  try clear hfz13_5
  try clear hfz4_0
  try clear hfz4_1
  try clear hfz4_2
  try clear hfz4_3
  try clear hfz4_4
  try clear hfz4_5
  obtain ⟨kq, x27_1, rfl, HA, HJ1, BK272, HB⟩ := hcut
  cases kq with
  | zero => exact absurd HA.out (by simp [impl_SectionOk.j0])
  | succ kj1 =>
   have H := HA.out
   clear HA
   simp only [impl_SectionOk.j0] at H
   by_cases c14 : x27_1 = true
   ·subst c14
    rw [if_pos rfl] at H
    obtain rfl := Option.some.inj H
    go_wp2
    go_ret
    exact ⟨ze _, zb _⟩
   ·replace c14 := Bool.eq_false_iff.mpr c14
    subst c14
    rw [if_neg (show ¬ (false = true) by decide)] at H
    have HC15 := Aside0.mk H
    clear H
    go_upto_region 4 with (fail)
    go_cut [45] (fun v45 wc => ∃ (kq : Nat) (x45_14 : Bool), v45 = .bool x45_14 ∧ Aside0 (impl_SectionOk.j1 kq (a0_4.size : Int) x45_14 a0_0 a0_1 a0_2 a0_3 a0_4 l0_5 = some r) ∧ Aside0 (kq ≤ kj1) ∧ Aside0 (wc.heap[gb272]? = some (.cells #[.string a0_0, .int .i64 a0_1, .int .i64 a0_2, .int .i64 a0_3, .string a0_4, (.slice A0_5 l0_5.length c0_5)] 43 (0, 0))) ∧ Aside0 (Below w.heap.size w wc))
    case first =>
     have H := HC15.out
     clear HC15
     by_cases c16 : a0_1 = 2
     ·rw [if_pos c16] at H
      have c16b0 : (a0_1 == 2) = true := beq_iff_eq.mpr c16
      have c16b1 : (a0_1 != 2) = false := bne_eq_false_iff_eq.mpr c16
      clear c16
      (first | rw [c16b0] | (simp only [i64_w, i32_w]; rw [c16b0]) | skip)
      obtain ⟨t275, A170, H⟩ := Option.bind_eq_some_iff.mp H
      have A17 := Aside0.mk A170
      clear A170
      by_cases c18 : a0_4.toList = t275.toList
      ·rw [if_pos c18] at H
       have c18b0 : (a0_4.toList == t275.toList) = true := beq_iff_eq.mpr c18
       have c18b1 : (a0_4.toList != t275.toList) = false := bne_eq_false_iff_eq.mpr c18
       clear c18
       have H' := Aside0.mk H
       clear H
       try go_wp2
       have n0_ := Aside0.mk (blk_drew BK272.out)
       have n1_ := Aside0.mk (below_drew1 HB.out)
       clear BK272
       clear HB
       have BK272 := n0_
       have HB := n1_
       clear n0_ n1_
       refine start_ (n := 18) (S := fun w' => w'.cell? ⟨gb272, 0, none⟩ = some (.string a0_0) ∧ w'.cell? ⟨gb272, 1, none⟩ = some (.int .i64 a0_1) ∧ w'.cell? ⟨gb272, 2, none⟩ = some (.int .i64 a0_2) ∧ w'.cell? ⟨gb272, 3, none⟩ = some (.int .i64 a0_3) ∧ w'.cell? ⟨gb272, 4, none⟩ = some (.string a0_4) ∧ w'.cell? ⟨gb272, 5, none⟩ = some (.slice A0_5 l0_5.length c0_5)) (ds := []) (zm 18 0) (by kernel_rfl) rfl rfl ⟨(blk_cell BK272.out 0).trans rfl, (blk_cell BK272.out 1).trans rfl, (blk_cell BK272.out 2).trans rfl, (blk_cell BK272.out 3).trans rfl, (blk_cell BK272.out 4).trans rfl, (blk_cell BK272.out 5).trans rfl⟩ (fun hHeld => ?_); refine with_tabW impl_SectionOk.tab4 impl_SectionOk.bits4 (fun HT_ HW_ => ?_)
       generalize wc.drew = w19 at BK272 HB hHeld ⊢
       refine zp 0 28 (zm 18 1) ?_
       refine take_ (i := 1) (N := some 29) (v := ?_) (a' := ?_) (zm 18 3) rfl rfl (take_ofW HT_.out HW_.out (by kernel_rfl)) (fun _ _ _ h => h) (Or.inl ⟨by rfl, ?_⟩) hHeld ?_ ?_
       rotate_left
       ·rintro w' ⟨s0, s1, s2, s3, s4, s5⟩
        go_simp
        with_reducible rfl
       rotate_left
       ·simp only [Act.put, List.setIfInBounds_toArray, List.set_cons_zero, List.set_cons_succ, i64_w, i32_w]
        rfl
       refine zp 2 30 (zm 18 7) ?_
       refine zp 3 31 (zm 18 15) ?_
       refine zp 4 32 (zm 18 31) ?_
       refine zp 6 34 (zm 18 95) ?_
       refine take_ (i := 5) (N := some 33) (v := ?_) (a' := ?_) (zm 18 127) rfl rfl (take_ofW HT_.out HW_.out (by kernel_rfl)) (fun _ _ _ h => h) (Or.inl ⟨by rfl, ?_⟩) hHeld ?_ ?_
       rotate_left
       ·rintro w' ⟨s0, s1, s2, s3, s4, s5⟩
        go_simp
        with_reducible rfl
       rotate_left
       ·simp only [Act.put, List.setIfInBounds_toArray, List.set_cons_zero, List.set_cons_succ, i64_w, i32_w]
        rfl
       refine take_ (i := 7) (N := some 35) (v := ?_) (a' := ?_) (zm 18 255) rfl rfl (take_ofW HT_.out HW_.out (by kernel_rfl)) (fun _ _ _ h => h) (Or.inl ⟨by rfl, ?_⟩) hHeld ?_ ?_
       rotate_left
       ·rintro w' ⟨s0, s1, s2, s3, s4, s5⟩
        go_simp
        with_reducible rfl
       rotate_left
       ·simp only [Act.put, List.setIfInBounds_toArray, List.set_cons_zero, List.set_cons_succ, i64_w, i32_w]
        rfl
       refine zp 8 36 (zm 18 511) ?_
       refine one_ (i := 9) (N := some 37) (zm 18 1023) rfl rfl (one_of HT_.out (by kernel_rfl)) (by decide) (fun K hK => ?_)
       refine zi Try.func43 #[.int .i64 (a0_4.size : Int)] ?_
       with_reducible refine (impl_noughts.calls (a0_4.size : Int) t275 _ A17.out).mono ?_
       rintro e w20 ⟨rfl, hb⟩
       refine ⟨_, rfl, ?_⟩
       have n0_ := zk BK272 hb
       have n1_ := zt w hb
       clear BK272
       clear HB
       have BK272 := n0_
       have HB := n1_
       clear n0_ n1_
       (try clear hb)
       (try clear hb2)
       (try clear hk)
       (try clear hi)
       refine hK.out _ _ ⟨(blk_cell BK272.out 0).trans rfl, (blk_cell BK272.out 1).trans rfl, (blk_cell BK272.out 2).trans rfl, (blk_cell BK272.out 3).trans rfl, (blk_cell BK272.out 4).trans rfl, (blk_cell BK272.out 5).trans rfl⟩ (fun hHeld => ?_)
       clear hK K
       refine zq ?_
       refine zp 10 38 (zm 18 2047) ?_
       refine zp 11 39 (zm 18 4095) ?_
       refine zp 12 40 (zm 18 8191) ?_
       refine take_ (i := 13) (N := some 41) (v := ?_) (a' := ?_) (zm 18 16383) rfl rfl (take_ofW HT_.out HW_.out (by kernel_rfl)) (fun _ _ _ h => h) (Or.inl ⟨by rfl, ?_⟩) hHeld ?_ ?_
       rotate_left
       ·rintro w' ⟨s0, s1, s2, s3, s4, s5⟩
        go_simp
        with_reducible rfl
       rotate_left
       ·simp only [Act.put, List.setIfInBounds_toArray, List.set_cons_zero, List.set_cons_succ, i64_w, i32_w]
        rfl
       refine zp 14 42 (zm 18 32767) ?_
       refine zp 15 43 (zm 18 65535) ?_
       refine zp 16 44 (zm 18 131071) ?_
       refine zp 17 45 (zm 18 262143) ?_
       refine done_ (done_of HT_.out (by kernel_rfl)) ?_
       try go_wp2
       go_meet
       case rel => exact ⟨_, (decide ((l0_5.length : Int) > 0)), (zE _), H', ⟨by have := HJ1.out; first | omega | exact Nat.le_refl _⟩, ⟨by (with_reducible repeat (first | refine blk_drewN ?_ _ | refine blk_drew ?_ | refine blk_alloc ?_ _)); exact BK272.out⟩, ⟨zb _⟩⟩
      ·rw [if_neg c18] at H
       have c18b0 : (a0_4.toList == t275.toList) = false := beq_eq_false_iff_ne.mpr c18
       have c18b1 : (a0_4.toList != t275.toList) = true := bne_iff_ne.mpr c18
       have H' := Aside0.mk H
       clear H
       try go_wp2
       have n0_ := Aside0.mk (blk_drew BK272.out)
       have n1_ := Aside0.mk (below_drew1 HB.out)
       clear BK272
       clear HB
       have BK272 := n0_
       have HB := n1_
       clear n0_ n1_
       refine start_ (n := 18) (S := fun w' => w'.cell? ⟨gb272, 0, none⟩ = some (.string a0_0) ∧ w'.cell? ⟨gb272, 1, none⟩ = some (.int .i64 a0_1) ∧ w'.cell? ⟨gb272, 2, none⟩ = some (.int .i64 a0_2) ∧ w'.cell? ⟨gb272, 3, none⟩ = some (.int .i64 a0_3) ∧ w'.cell? ⟨gb272, 4, none⟩ = some (.string a0_4) ∧ w'.cell? ⟨gb272, 5, none⟩ = some (.slice A0_5 l0_5.length c0_5)) (ds := []) (zm 18 0) (by kernel_rfl) rfl rfl ⟨(blk_cell BK272.out 0).trans rfl, (blk_cell BK272.out 1).trans rfl, (blk_cell BK272.out 2).trans rfl, (blk_cell BK272.out 3).trans rfl, (blk_cell BK272.out 4).trans rfl, (blk_cell BK272.out 5).trans rfl⟩ (fun hHeld => ?_); refine with_tabW impl_SectionOk.tab4 impl_SectionOk.bits4 (fun HT_ HW_ => ?_)
       generalize wc.drew = w21 at BK272 HB hHeld ⊢
       refine zp 0 28 (zm 18 1) ?_
       refine take_ (i := 1) (N := some 29) (v := ?_) (a' := ?_) (zm 18 3) rfl rfl (take_ofW HT_.out HW_.out (by kernel_rfl)) (fun _ _ _ h => h) (Or.inl ⟨by rfl, ?_⟩) hHeld ?_ ?_
       rotate_left
       ·rintro w' ⟨s0, s1, s2, s3, s4, s5⟩
        go_simp
        with_reducible rfl
       rotate_left
       ·simp only [Act.put, List.setIfInBounds_toArray, List.set_cons_zero, List.set_cons_succ, i64_w, i32_w]
        rfl
       refine zp 2 30 (zm 18 7) ?_
       refine zp 3 31 (zm 18 15) ?_
       refine zp 4 32 (zm 18 31) ?_
       refine zp 6 34 (zm 18 95) ?_
       refine take_ (i := 5) (N := some 33) (v := ?_) (a' := ?_) (zm 18 127) rfl rfl (take_ofW HT_.out HW_.out (by kernel_rfl)) (fun _ _ _ h => h) (Or.inl ⟨by rfl, ?_⟩) hHeld ?_ ?_
       rotate_left
       ·rintro w' ⟨s0, s1, s2, s3, s4, s5⟩
        go_simp
        with_reducible rfl
       rotate_left
       ·simp only [Act.put, List.setIfInBounds_toArray, List.set_cons_zero, List.set_cons_succ, i64_w, i32_w]
        rfl
       refine take_ (i := 7) (N := some 35) (v := ?_) (a' := ?_) (zm 18 255) rfl rfl (take_ofW HT_.out HW_.out (by kernel_rfl)) (fun _ _ _ h => h) (Or.inl ⟨by rfl, ?_⟩) hHeld ?_ ?_
       rotate_left
       ·rintro w' ⟨s0, s1, s2, s3, s4, s5⟩
        go_simp
        with_reducible rfl
       rotate_left
       ·simp only [Act.put, List.setIfInBounds_toArray, List.set_cons_zero, List.set_cons_succ, i64_w, i32_w]
        rfl
       refine zp 8 36 (zm 18 511) ?_
       refine one_ (i := 9) (N := some 37) (zm 18 1023) rfl rfl (one_of HT_.out (by kernel_rfl)) (by decide) (fun K hK => ?_)
       refine zi Try.func43 #[.int .i64 (a0_4.size : Int)] ?_
       with_reducible refine (impl_noughts.calls (a0_4.size : Int) t275 _ A17.out).mono ?_
       rintro e w22 ⟨rfl, hb⟩
       refine ⟨_, rfl, ?_⟩
       have n0_ := zk BK272 hb
       have n1_ := zt w hb
       clear BK272
       clear HB
       have BK272 := n0_
       have HB := n1_
       clear n0_ n1_
       (try clear hb)
       (try clear hb2)
       (try clear hk)
       (try clear hi)
       refine hK.out _ _ ⟨(blk_cell BK272.out 0).trans rfl, (blk_cell BK272.out 1).trans rfl, (blk_cell BK272.out 2).trans rfl, (blk_cell BK272.out 3).trans rfl, (blk_cell BK272.out 4).trans rfl, (blk_cell BK272.out 5).trans rfl⟩ (fun hHeld => ?_)
       clear hK K
       refine zq ?_
       refine zp 10 38 (zm 18 2047) ?_
       refine zp 11 39 (zm 18 4095) ?_
       refine zu 12 40 (zm 18 8191) ?_
       refine zu 13 41 (zm 18 16383) ?_
       refine zu 14 42 (zm 18 32767) ?_
       refine zu 15 43 (zm 18 65535) ?_
       refine zp 16 44 (zm 18 131071) ?_
       refine zp 17 45 (zm 18 262143) ?_
       refine done_ (done_of HT_.out (by kernel_rfl)) ?_
       try go_wp2
       go_meet
       case rel => exact ⟨_, (true), (zE _), H', ⟨by have := HJ1.out; first | omega | exact Nat.le_refl _⟩, ⟨by (with_reducible repeat (first | refine blk_drewN ?_ _ | refine blk_drew ?_ | refine blk_alloc ?_ _)); exact BK272.out⟩, ⟨zb _⟩⟩
     ·rw [if_neg c16] at H
      have c16b0 : (a0_1 == 2) = false := beq_eq_false_iff_ne.mpr c16
      have c16b1 : (a0_1 != 2) = true := bne_iff_ne.mpr c16
      (first | rw [c16b0] | (simp only [i64_w, i32_w]; rw [c16b0]) | skip)
      have H' := Aside0.mk H
      clear H
      try go_wp2
      have n0_ := Aside0.mk (blk_drew BK272.out)
      have n1_ := Aside0.mk (below_drew1 HB.out)
      clear BK272
      clear HB
      have BK272 := n0_
      have HB := n1_
      clear n0_ n1_
      refine start_ (n := 18) (S := fun w' => w'.cell? ⟨gb272, 0, none⟩ = some (.string a0_0) ∧ w'.cell? ⟨gb272, 1, none⟩ = some (.int .i64 a0_1) ∧ w'.cell? ⟨gb272, 2, none⟩ = some (.int .i64 a0_2) ∧ w'.cell? ⟨gb272, 3, none⟩ = some (.int .i64 a0_3) ∧ w'.cell? ⟨gb272, 4, none⟩ = some (.string a0_4) ∧ w'.cell? ⟨gb272, 5, none⟩ = some (.slice A0_5 l0_5.length c0_5)) (ds := []) (zm 18 0) (by kernel_rfl) rfl rfl ⟨(blk_cell BK272.out 0).trans rfl, (blk_cell BK272.out 1).trans rfl, (blk_cell BK272.out 2).trans rfl, (blk_cell BK272.out 3).trans rfl, (blk_cell BK272.out 4).trans rfl, (blk_cell BK272.out 5).trans rfl⟩ (fun hHeld => ?_); refine with_tabW impl_SectionOk.tab4 impl_SectionOk.bits4 (fun HT_ HW_ => ?_)
      generalize wc.drew = w23 at BK272 HB hHeld ⊢
      refine zp 0 28 (zm 18 1) ?_
      refine take_ (i := 1) (N := some 29) (v := ?_) (a' := ?_) (zm 18 3) rfl rfl (take_ofW HT_.out HW_.out (by kernel_rfl)) (fun _ _ _ h => h) (Or.inl ⟨by rfl, ?_⟩) hHeld ?_ ?_
      rotate_left
      ·rintro w' ⟨s0, s1, s2, s3, s4, s5⟩
       go_simp
       with_reducible rfl
      rotate_left
      ·simp only [Act.put, List.setIfInBounds_toArray, List.set_cons_zero, List.set_cons_succ, i64_w, i32_w]
       rfl
      refine zp 2 30 (zm 18 7) ?_
      refine zp 3 31 (zm 18 15) ?_
      refine zu 4 32 (zm 18 31) ?_
      refine zu 5 33 (zm 18 63) ?_
      refine zu 6 34 (zm 18 127) ?_
      refine zu 7 35 (zm 18 255) ?_
      refine zu 8 36 (zm 18 511) ?_
      refine zu 9 37 (zm 18 1023) ?_
      refine zu 10 38 (zm 18 2047) ?_
      refine zu 11 39 (zm 18 4095) ?_
      refine zu 12 40 (zm 18 8191) ?_
      refine zu 13 41 (zm 18 16383) ?_
      refine zu 14 42 (zm 18 32767) ?_
      refine zu 15 43 (zm 18 65535) ?_
      refine zu 16 44 (zm 18 131071) ?_
      refine zp 17 45 (zm 18 262143) ?_
      refine done_ (done_of HT_.out (by kernel_rfl)) ?_
      try go_wp2
      go_meet
      case rel => exact ⟨_, (false), (zE _), H', ⟨by have := HJ1.out; first | omega | exact Nat.le_refl _⟩, ⟨by (with_reducible repeat (first | refine blk_drewN ?_ _ | refine blk_drew ?_ | refine blk_alloc ?_ _)); exact BK272.out⟩, ⟨zb _⟩⟩
    case rest =>
     clear HC15
     try clear c1
     try clear c2
     try clear p2
     try clear c4
     try clear c6
     try clear c8
     try clear c9
     try clear c9b0
     try clear c9b1
     try clear c14
     try clear c16
     try clear c16b0
     try clear c16b1
     try clear c18
     try clear c18b0
     try clear c18b1
     try clear hcz10_0
     try clear hcz10_1
     try clear hcz10_2
     try clear hcz10_3
     try clear hcz10_4
     try clear hcz10_5
     try clear hcz11_0
     try clear hcz11_1
     try clear hcz11_2
     try clear hcz11_3
     try clear hcz11_4
     try clear hcz11_5
     try clear hcz12_0
     try clear hcz12_1
     try clear hcz12_2
     try clear hcz12_3
     try clear hcz12_4
     try clear hcz12_5
     try clear hcz13_0
     try clear hcz13_1
     try clear hcz13_2
     try clear hcz13_3
     try clear hcz13_4
     try clear hcz13_5
     try clear hcz4_0
     try clear hcz4_1
     try clear hcz4_2
     try clear hcz4_3
     try clear hcz4_4
     try clear hcz4_5
     try clear hfz10_0
     try clear hfz10_1
     try clear hfz10_2
     try clear hfz10_3
     try clear hfz10_4
     try clear hfz10_5
     try clear hfz11_0
     try clear hfz11_1
     try clear hfz11_2
     try clear hfz11_3
     try clear hfz11_4
     try clear hfz11_5
     try clear hfz12_0
     try clear hfz12_1
     try clear hfz12_2
     try clear hfz12_3
     try clear hfz12_4
     try clear hfz12_5
     try clear hfz13_0
     try clear hfz13_1
     try clear hfz13_2
     try clear hfz13_3
     try clear hfz13_4
     try clear hfz13_5
     try clear hfz4_0
     try clear hfz4_1
     try clear hfz4_2
     try clear hfz4_3
     try clear hfz4_4
     try clear hfz4_5
     try clear p2
     obtain ⟨kq, x45_14, rfl, HA, HJ14, BK272, HB⟩ := hcut
     cases kq with
     | zero => exact absurd HA.out (by simp [impl_SectionOk.j1])
     | succ kj14 =>
      have H := HA.out
      clear HA
      simp only [impl_SectionOk.j1] at H
      by_cases c24 : x45_14 = true
      ·subst c24
       rw [if_pos rfl] at H
       obtain rfl := Option.some.inj H
       go_wp2
       go_ret
       exact ⟨ze _, zb _⟩
      ·replace c24 := Bool.eq_false_iff.mpr c24
       subst c24
       rw [if_neg (show ¬ (false = true) by decide)] at H
       obtain ⟨t276, A250, H⟩ := Option.bind_eq_some_iff.mp H
       have A25 := Aside0.mk A250
       clear A250
       by_cases c26 : a0_3 = (-1)
       ·rw [if_pos c26] at H
        have c26b0 : (a0_3 == (-1)) = true := beq_iff_eq.mpr c26
        have c26b1 : (a0_3 != (-1)) = false := bne_eq_false_iff_eq.mpr c26
        clear c26
        by_cases c27 : a0_2 = (-1)
        ·rw [if_pos c27] at H
         have c27b0 : (a0_2 == (-1)) = true := beq_iff_eq.mpr c27
         have c27b1 : (a0_2 != (-1)) = false := bne_eq_false_iff_eq.mpr c27
         clear c27
         obtain ⟨t277, A280, H⟩ := Option.bind_eq_some_iff.mp H
         have A28 := Aside0.mk A280
         clear A280
         obtain rfl := Option.some.inj H
         have hcz29_0 := zc0 BK272
         have hcz29_1 := zc1 BK272
         have hcz29_2 := zc2 BK272
         have hcz29_3 := zc3 BK272
         have hcz29_4 := zc4 BK272
         have hcz29_5 := zc5 BK272
         have hfz29_0 := blk_frozen BK272.out 0
         have hfz29_1 := blk_frozen BK272.out 1
         have hfz29_2 := blk_frozen BK272.out 2
         have hfz29_3 := blk_frozen BK272.out 3
         have hfz29_4 := blk_frozen BK272.out 4
         have hfz29_5 := blk_frozen BK272.out 5
         go_wp2_with (first | ((with_reducible refine gate_callee (f := 44) rfl ?_); refine zc (some 48) Try.func44 #[.int .i64 a0_1] ?_; (with_reducible refine (impl_baseOf.calls a0_1 t276 _ A25.out).mono ?_); rintro e w' ⟨rfl, ⟨nd, rfl⟩⟩; refine ⟨_, rfl, ?_⟩) | ((with_reducible refine gate_callee (f := 45) rfl ?_); refine zc (some 82) Try.func45 #[.slice A0_5 l0_5.length c0_5, .func (.func 46) #[] #[.pointer (some ⟨gb272, 0, none⟩)]] ?_; (with_reducible refine (impl_Patch.calls kj14 _ _ l0_5 gb272 a0_0 a0_1 a0_2 a0_3 a0_4 l0_5 t277 _ ?side1 ?side2 ?side3 A28.out).mono ?_); (case side1 => repeat (first | exact (Kd.C_below HR0_5.out (zb _)) | (with_reducible refine Kd.C_alloc ?_ _) | (with_reducible refine Kd.C_drewN ?_ _) | (with_reducible refine Kd.C_drew ?_))); (case side2 => exact HC0_5.out); (case side3 => exact (zr BK272)); rintro e w30 ⟨rfl, hb⟩; refine ⟨_, rfl, ?_⟩; replace BK272 := zk BK272 hb; replace HB := zt w hb; (try clear hb); (try clear hb2); (try clear hk); (try clear hi)))
         go_ret
         exact ⟨ze _, zb _⟩
        ·rw [if_neg c27] at H
         have c27b0 : (a0_2 == (-1)) = false := beq_eq_false_iff_ne.mpr c27
         have c27b1 : (a0_2 != (-1)) = true := bne_iff_ne.mpr c27
         by_cases c31 : a0_1 = 1
         ·rw [if_pos c31] at H
          have c31b0 : (a0_1 == 1) = true := beq_iff_eq.mpr c31
          have c31b1 : (a0_1 != 1) = false := bne_eq_false_iff_eq.mpr c31
          clear c31
          obtain ⟨t278, A320, H⟩ := Option.bind_eq_some_iff.mp H
          have A32 := Aside0.mk A320
          clear A320
          by_cases c33 : t278 = true
          ·subst c33
           rw [if_pos rfl] at H
           obtain ⟨t279, A340, H⟩ := Option.bind_eq_some_iff.mp H
           have A34 := Aside0.mk A340
           clear A340
           obtain rfl := Option.some.inj H
           have hcz35_0 := zc0 BK272
           have hcz35_1 := zc1 BK272
           have hcz35_2 := zc2 BK272
           have hcz35_3 := zc3 BK272
           have hcz35_4 := zc4 BK272
           have hcz35_5 := zc5 BK272
           have hfz35_0 := blk_frozen BK272.out 0
           have hfz35_1 := blk_frozen BK272.out 1
           have hfz35_2 := blk_frozen BK272.out 2
           have hfz35_3 := blk_frozen BK272.out 3
           have hfz35_4 := blk_frozen BK272.out 4
           have hfz35_5 := blk_frozen BK272.out 5
           go_wp2_with (first | ((with_reducible refine gate_callee (f := 44) rfl ?_); refine zc (some 48) Try.func44 #[.int .i64 a0_1] ?_; (with_reducible refine (impl_baseOf.calls a0_1 t276 _ A25.out).mono ?_); rintro e w' ⟨rfl, ⟨nd, rfl⟩⟩; refine ⟨_, rfl, ?_⟩) | (go_at_call 41; (with_reducible refine (impl_within.calls a0_2 1 15 true _ A32.out).mono ?_); rintro e w' ⟨rfl, ⟨nd, rfl⟩⟩) | ((with_reducible refine gate_callee (f := 45) rfl ?_); refine zc (some 82) Try.func45 #[.slice A0_5 l0_5.length c0_5, .func (.func 46) #[] #[.pointer (some ⟨gb272, 0, none⟩)]] ?_; (with_reducible refine (impl_Patch.calls kj14 _ _ l0_5 gb272 a0_0 a0_1 a0_2 a0_3 a0_4 l0_5 t279 _ ?side1 ?side2 ?side3 A34.out).mono ?_); (case side1 => repeat (first | exact (Kd.C_below HR0_5.out (zb _)) | (with_reducible refine Kd.C_alloc ?_ _) | (with_reducible refine Kd.C_drewN ?_ _) | (with_reducible refine Kd.C_drew ?_))); (case side2 => exact HC0_5.out); (case side3 => exact (zr BK272)); rintro e w36 ⟨rfl, hb⟩; refine ⟨_, rfl, ?_⟩; replace BK272 := zk BK272 hb; replace HB := zt w hb; (try clear hb); (try clear hb2); (try clear hk); (try clear hi)))
           go_ret
           exact ⟨ze _, zb _⟩
          ·replace c33 := Bool.eq_false_iff.mpr c33
           subst c33
           rw [if_neg (show ¬ (false = true) by decide)] at H
           obtain rfl := Option.some.inj H
           have hcz37_0 := zc0 BK272
           have hcz37_1 := zc1 BK272
           have hcz37_2 := zc2 BK272
           have hcz37_3 := zc3 BK272
           have hcz37_4 := zc4 BK272
           have hcz37_5 := zc5 BK272
           have hfz37_0 := blk_frozen BK272.out 0
           have hfz37_1 := blk_frozen BK272.out 1
           have hfz37_2 := blk_frozen BK272.out 2
           have hfz37_3 := blk_frozen BK272.out 3
           have hfz37_4 := blk_frozen BK272.out 4
           have hfz37_5 := blk_frozen BK272.out 5
           go_wp2_with (first | ((with_reducible refine gate_callee (f := 44) rfl ?_); refine zc (some 48) Try.func44 #[.int .i64 a0_1] ?_; (with_reducible refine (impl_baseOf.calls a0_1 t276 _ A25.out).mono ?_); rintro e w' ⟨rfl, ⟨nd, rfl⟩⟩; refine ⟨_, rfl, ?_⟩) | (go_at_call 41; (with_reducible refine (impl_within.calls a0_2 1 15 false _ A32.out).mono ?_); rintro e w' ⟨rfl, ⟨nd, rfl⟩⟩))
           go_ret
           exact ⟨ze _, zb _⟩
         ·rw [if_neg c31] at H
          have c31b0 : (a0_1 == 1) = false := beq_eq_false_iff_ne.mpr c31
          have c31b1 : (a0_1 != 1) = true := bne_iff_ne.mpr c31
          obtain rfl := Option.some.inj H
          have hcz38_0 := zc0 BK272
          have hcz38_1 := zc1 BK272
          have hcz38_2 := zc2 BK272
          have hcz38_3 := zc3 BK272
          have hcz38_4 := zc4 BK272
          have hcz38_5 := zc5 BK272
          have hfz38_0 := blk_frozen BK272.out 0
          have hfz38_1 := blk_frozen BK272.out 1
          have hfz38_2 := blk_frozen BK272.out 2
          have hfz38_3 := blk_frozen BK272.out 3
          have hfz38_4 := blk_frozen BK272.out 4
          have hfz38_5 := blk_frozen BK272.out 5
          go_wp2_with (first | ((with_reducible refine gate_callee (f := 44) rfl ?_); refine zc (some 48) Try.func44 #[.int .i64 a0_1] ?_; (with_reducible refine (impl_baseOf.calls a0_1 t276 _ A25.out).mono ?_); rintro e w' ⟨rfl, ⟨nd, rfl⟩⟩; refine ⟨_, rfl, ?_⟩))
          go_ret
          exact ⟨ze _, zb _⟩
       ·rw [if_neg c26] at H
        have c26b0 : (a0_3 == (-1)) = false := beq_eq_false_iff_ne.mpr c26
        have c26b1 : (a0_3 != (-1)) = true := bne_iff_ne.mpr c26
        obtain ⟨t280, A390, H⟩ := Option.bind_eq_some_iff.mp H
        have A39 := Aside0.mk A390
        clear A390
        by_cases c40 : t280 = true
        ·subst c40
         rw [if_pos rfl] at H
         by_cases c41 : a0_2 = (-1)
         ·rw [if_pos c41] at H
          have c41b0 : (a0_2 == (-1)) = true := beq_iff_eq.mpr c41
          have c41b1 : (a0_2 != (-1)) = false := bne_eq_false_iff_eq.mpr c41
          clear c41
          obtain ⟨t281, A420, H⟩ := Option.bind_eq_some_iff.mp H
          have A42 := Aside0.mk A420
          clear A420
          obtain rfl := Option.some.inj H
          have hcz43_0 := zc0 BK272
          have hcz43_1 := zc1 BK272
          have hcz43_2 := zc2 BK272
          have hcz43_3 := zc3 BK272
          have hcz43_4 := zc4 BK272
          have hcz43_5 := zc5 BK272
          have hfz43_0 := blk_frozen BK272.out 0
          have hfz43_1 := blk_frozen BK272.out 1
          have hfz43_2 := blk_frozen BK272.out 2
          have hfz43_3 := blk_frozen BK272.out 3
          have hfz43_4 := blk_frozen BK272.out 4
          have hfz43_5 := blk_frozen BK272.out 5
          go_wp2_with (first | ((with_reducible refine gate_callee (f := 44) rfl ?_); refine zc (some 48) Try.func44 #[.int .i64 a0_1] ?_; (with_reducible refine (impl_baseOf.calls a0_1 t276 _ A25.out).mono ?_); rintro e w' ⟨rfl, ⟨nd, rfl⟩⟩; refine ⟨_, rfl, ?_⟩) | (go_at_call 41; (with_reducible refine (impl_within.calls a0_3 t276 (wrap64 ((wrap64 (t276 + 256)) - (a0_4.size : Int))) true _ A39.out).mono ?_); rintro e w' ⟨rfl, ⟨nd, rfl⟩⟩) | ((with_reducible refine gate_callee (f := 45) rfl ?_); refine zc (some 82) Try.func45 #[.slice A0_5 l0_5.length c0_5, .func (.func 46) #[] #[.pointer (some ⟨gb272, 0, none⟩)]] ?_; (with_reducible refine (impl_Patch.calls kj14 _ _ l0_5 gb272 a0_0 a0_1 a0_2 a0_3 a0_4 l0_5 t281 _ ?side1 ?side2 ?side3 A42.out).mono ?_); (case side1 => repeat (first | exact (Kd.C_below HR0_5.out (zb _)) | (with_reducible refine Kd.C_alloc ?_ _) | (with_reducible refine Kd.C_drewN ?_ _) | (with_reducible refine Kd.C_drew ?_))); (case side2 => exact HC0_5.out); (case side3 => exact (zr BK272)); rintro e w44 ⟨rfl, hb⟩; refine ⟨_, rfl, ?_⟩; replace BK272 := zk BK272 hb; replace HB := zt w hb; (try clear hb); (try clear hb2); (try clear hk); (try clear hi)))
          go_ret
          exact ⟨ze _, zb _⟩
         ·rw [if_neg c41] at H
          have c41b0 : (a0_2 == (-1)) = false := beq_eq_false_iff_ne.mpr c41
          have c41b1 : (a0_2 != (-1)) = true := bne_iff_ne.mpr c41
          by_cases c45 : a0_1 = 1
          ·rw [if_pos c45] at H
           have c45b0 : (a0_1 == 1) = true := beq_iff_eq.mpr c45
           have c45b1 : (a0_1 != 1) = false := bne_eq_false_iff_eq.mpr c45
           clear c45
           obtain ⟨t282, A460, H⟩ := Option.bind_eq_some_iff.mp H
           have A46 := Aside0.mk A460
           clear A460
           by_cases c47 : t282 = true
           ·subst c47
            rw [if_pos rfl] at H
            obtain ⟨t283, A480, H⟩ := Option.bind_eq_some_iff.mp H
            have A48 := Aside0.mk A480
            clear A480
            obtain rfl := Option.some.inj H
            have hcz49_0 := zc0 BK272
            have hcz49_1 := zc1 BK272
            have hcz49_2 := zc2 BK272
            have hcz49_3 := zc3 BK272
            have hcz49_4 := zc4 BK272
            have hcz49_5 := zc5 BK272
            have hfz49_0 := blk_frozen BK272.out 0
            have hfz49_1 := blk_frozen BK272.out 1
            have hfz49_2 := blk_frozen BK272.out 2
            have hfz49_3 := blk_frozen BK272.out 3
            have hfz49_4 := blk_frozen BK272.out 4
            have hfz49_5 := blk_frozen BK272.out 5
            go_wp2_with (first | ((with_reducible refine gate_callee (f := 44) rfl ?_); refine zc (some 48) Try.func44 #[.int .i64 a0_1] ?_; (with_reducible refine (impl_baseOf.calls a0_1 t276 _ A25.out).mono ?_); rintro e w' ⟨rfl, ⟨nd, rfl⟩⟩; refine ⟨_, rfl, ?_⟩) | (go_at_call 41; (with_reducible refine (impl_within.calls a0_3 t276 (wrap64 ((wrap64 (t276 + 256)) - (a0_4.size : Int))) true _ A39.out).mono ?_); rintro e w' ⟨rfl, ⟨nd, rfl⟩⟩) | (go_at_call 41; (with_reducible refine (impl_within.calls a0_2 1 15 true _ A46.out).mono ?_); rintro e w' ⟨rfl, ⟨nd, rfl⟩⟩) | ((with_reducible refine gate_callee (f := 45) rfl ?_); refine zc (some 82) Try.func45 #[.slice A0_5 l0_5.length c0_5, .func (.func 46) #[] #[.pointer (some ⟨gb272, 0, none⟩)]] ?_; (with_reducible refine (impl_Patch.calls kj14 _ _ l0_5 gb272 a0_0 a0_1 a0_2 a0_3 a0_4 l0_5 t283 _ ?side1 ?side2 ?side3 A48.out).mono ?_); (case side1 => repeat (first | exact (Kd.C_below HR0_5.out (zb _)) | (with_reducible refine Kd.C_alloc ?_ _) | (with_reducible refine Kd.C_drewN ?_ _) | (with_reducible refine Kd.C_drew ?_))); (case side2 => exact HC0_5.out); (case side3 => exact (zr BK272)); rintro e w50 ⟨rfl, hb⟩; refine ⟨_, rfl, ?_⟩; replace BK272 := zk BK272 hb; replace HB := zt w hb; (try clear hb); (try clear hb2); (try clear hk); (try clear hi)))
            go_ret
            exact ⟨ze _, zb _⟩
           ·replace c47 := Bool.eq_false_iff.mpr c47
            subst c47
            rw [if_neg (show ¬ (false = true) by decide)] at H
            obtain rfl := Option.some.inj H
            have hcz51_0 := zc0 BK272
            have hcz51_1 := zc1 BK272
            have hcz51_2 := zc2 BK272
            have hcz51_3 := zc3 BK272
            have hcz51_4 := zc4 BK272
            have hcz51_5 := zc5 BK272
            have hfz51_0 := blk_frozen BK272.out 0
            have hfz51_1 := blk_frozen BK272.out 1
            have hfz51_2 := blk_frozen BK272.out 2
            have hfz51_3 := blk_frozen BK272.out 3
            have hfz51_4 := blk_frozen BK272.out 4
            have hfz51_5 := blk_frozen BK272.out 5
            go_wp2_with (first | ((with_reducible refine gate_callee (f := 44) rfl ?_); refine zc (some 48) Try.func44 #[.int .i64 a0_1] ?_; (with_reducible refine (impl_baseOf.calls a0_1 t276 _ A25.out).mono ?_); rintro e w' ⟨rfl, ⟨nd, rfl⟩⟩; refine ⟨_, rfl, ?_⟩) | (go_at_call 41; (with_reducible refine (impl_within.calls a0_3 t276 (wrap64 ((wrap64 (t276 + 256)) - (a0_4.size : Int))) true _ A39.out).mono ?_); rintro e w' ⟨rfl, ⟨nd, rfl⟩⟩) | (go_at_call 41; (with_reducible refine (impl_within.calls a0_2 1 15 false _ A46.out).mono ?_); rintro e w' ⟨rfl, ⟨nd, rfl⟩⟩))
            go_ret
            exact ⟨ze _, zb _⟩
          ·rw [if_neg c45] at H
           have c45b0 : (a0_1 == 1) = false := beq_eq_false_iff_ne.mpr c45
           have c45b1 : (a0_1 != 1) = true := bne_iff_ne.mpr c45
           obtain rfl := Option.some.inj H
           have hcz52_0 := zc0 BK272
           have hcz52_1 := zc1 BK272
           have hcz52_2 := zc2 BK272
           have hcz52_3 := zc3 BK272
           have hcz52_4 := zc4 BK272
           have hcz52_5 := zc5 BK272
           have hfz52_0 := blk_frozen BK272.out 0
           have hfz52_1 := blk_frozen BK272.out 1
           have hfz52_2 := blk_frozen BK272.out 2
           have hfz52_3 := blk_frozen BK272.out 3
           have hfz52_4 := blk_frozen BK272.out 4
           have hfz52_5 := blk_frozen BK272.out 5
           go_wp2_with (first | ((with_reducible refine gate_callee (f := 44) rfl ?_); refine zc (some 48) Try.func44 #[.int .i64 a0_1] ?_; (with_reducible refine (impl_baseOf.calls a0_1 t276 _ A25.out).mono ?_); rintro e w' ⟨rfl, ⟨nd, rfl⟩⟩; refine ⟨_, rfl, ?_⟩) | (go_at_call 41; (with_reducible refine (impl_within.calls a0_3 t276 (wrap64 ((wrap64 (t276 + 256)) - (a0_4.size : Int))) true _ A39.out).mono ?_); rintro e w' ⟨rfl, ⟨nd, rfl⟩⟩))
           go_ret
           exact ⟨ze _, zb _⟩
        ·replace c40 := Bool.eq_false_iff.mpr c40
         subst c40
         rw [if_neg (show ¬ (false = true) by decide)] at H
         obtain rfl := Option.some.inj H
         have hcz53_0 := zc0 BK272
         have hcz53_1 := zc1 BK272
         have hcz53_2 := zc2 BK272
         have hcz53_3 := zc3 BK272
         have hcz53_4 := zc4 BK272
         have hcz53_5 := zc5 BK272
         have hfz53_0 := blk_frozen BK272.out 0
         have hfz53_1 := blk_frozen BK272.out 1
         have hfz53_2 := blk_frozen BK272.out 2
         have hfz53_3 := blk_frozen BK272.out 3
         have hfz53_4 := blk_frozen BK272.out 4
         have hfz53_5 := blk_frozen BK272.out 5
         go_wp2_with (first | ((with_reducible refine gate_callee (f := 44) rfl ?_); refine zc (some 48) Try.func44 #[.int .i64 a0_1] ?_; (with_reducible refine (impl_baseOf.calls a0_1 t276 _ A25.out).mono ?_); rintro e w' ⟨rfl, ⟨nd, rfl⟩⟩; refine ⟨_, rfl, ?_⟩) | (go_at_call 41; (with_reducible refine (impl_within.calls a0_3 t276 (wrap64 ((wrap64 (t276 + 256)) - (a0_4.size : Int))) false _ A39.out).mono ?_); rintro e w' ⟨rfl, ⟨nd, rfl⟩⟩))
         go_ret
         exact ⟨ze _, zb _⟩

end Go.Proofs.Ytbbngeooodcbcaa.PFnExactObjectOk
