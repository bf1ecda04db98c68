/- What the Go functions that the law FnExactObjectOk reaches compute, function by function, and that Go comes to just that. -/
import Derived.Test.YtbbngeooodcbcaaPFnExactObjectOkx0
import Derived.Test.YtbbngeooodcbcaaAidZ
import Derived.Test.YtbbngeooodcbcaaPFnExactObjectOkx2
import Derived.Test.YtbbngeooodcbcaaPFnExactObjectOkx3
namespace Go.Proofs.Ytbbngeooodcbcaa.PFnExactObjectOk
open Go.RowKit Go.Proofs.Ytbbngeooodcbcaa.Z Go.Proofs.YtbbngeooodcbcaaW.PrintWords Go.Proofs.YtbbngeooodcbcaaW.PrintLast Go.Proofs.YtbbngeooodcbcaaW.PrintMore
attribute [local go_sem] max2_int min2_int max_two min_two max_three min_three max_four min_four   -- for this text's walks alone
set_option linter.unusedVariables false
set_option linter.unusedSimpArgs false

/-! ### spec_SectionOk: function 12 -/
mutual
def spec_SectionOk.j0 : Nat → Int → Bool → ByteArray → Int → Int → Int → ByteArray → List (S70) → Option (Bool)
  | 0, _, _, _, _, _, _, _, _ => none
  | k + 1, x3, x29, x144000, x144001, x144002, x144003, x144004, x144005 => if x29 = true then (some false) else ((spec_l9Base.f x144001).bind fun t146 => (if x144003 = (-1) then (spec_SectionOk.j1 k x3 false x144000 x144001 x144002 x144003 x144004 x144005) else ((spec_l1In.f x144003 t146 (wrap64 ((wrap64 (t146 + 256)) - x3))).bind fun t147 => (spec_SectionOk.j1 k x3 (!t147) x144000 x144001 x144002 x144003 x144004 x144005))))
def spec_SectionOk.j1 : Nat → Int → Bool → ByteArray → Int → Int → Int → ByteArray → List (S70) → Option (Bool)
  | 0, _, _, _, _, _, _, _, _ => none
  | k + 1, x3, x46, x144000, x144001, x144002, x144003, x144004, x144005 => if x46 = true then (some false) else (if x144002 = (-1) then (spec_SectionOk.j2 k x3 false x144000 x144001 x144002 x144003 x144004 x144005) else (if x144001 = 1 then ((spec_l1In.f x144002 1 15).bind fun t148 => (spec_SectionOk.j2 k x3 (!t148) x144000 x144001 x144002 x144003 x144004 x144005)) else (spec_SectionOk.j2 k x3 true x144000 x144001 x144002 x144003 x144004 x144005)))
def spec_SectionOk.j2 : Nat → Int → Bool → ByteArray → Int → Int → Int → ByteArray → List (S70) → Option (Bool)
  | 0, _, _, _, _, _, _, _, _ => none
  | k + 1, x3, x60, x144000, x144001, x144002, x144003, x144004, x144005 => if x60 = true then (some false) else (spec_SectionOk.l0 k x3 0 x144000 x144001 x144002 x144003 x144004 x144005)
def spec_SectionOk.l0 : Nat → Int → Int → ByteArray → Int → Int → Int → ByteArray → List (S70) → Option (Bool)
  | 0, _, _, _, _, _, _, _, _ => none
  | k + 1, x3, x5, x144000, x144001, x144002, x144003, x144004, x144005 => if x5 < (x144005.length : Int) then (if 0 ≤ x5 then ((spec_l9Patch.f k ((rd_T70 x144005 x5).f0) ((rd_T70 x144005 x5).f1) ((rd_T70 x144005 x5).f2) x3).bind fun t150 => (if t150 = true then (if x144001 = 2 then (some false) else (spec_SectionOk.l0 k x3 (wrap64 (x5 + 1)) x144000 x144001 x144002 x144003 x144004 x144005)) else (some false))) else (none)) else (spec_SectionOk.l1 k 0 x144000 x144001 x144002 x144003 x144004 x144005)
def spec_SectionOk.l1 : Nat → Int → ByteArray → Int → Int → Int → ByteArray → List (S70) → Option (Bool)
  | 0, _, _, _, _, _, _, _ => none
  | k + 1, x6, x144000, x144001, x144002, x144003, x144004, x144005 => if x6 < (x144004.size : Int) then (spec_SectionOk.j5 k x6 (x144001 == 2) x144000 x144001 x144002 x144003 x144004 x144005) else (spec_SectionOk.j5 k x6 false x144000 x144001 x144002 x144003 x144004 x144005)
def spec_SectionOk.j5 : Nat → Int → Bool → ByteArray → Int → Int → Int → ByteArray → List (S70) → Option (Bool)
  | 0, _, _, _, _, _, _, _, _ => none
  | k + 1, x6, x90, x144000, x144001, x144002, x144003, x144004, x144005 => if x90 = true then (if 0 ≤ x6 then (if x6 < (x144004.size : Int) then (if (bt x144004 x6) = 0 then (spec_SectionOk.l1 k (wrap64 (x6 + 1)) x144000 x144001 x144002 x144003 x144004 x144005) else (some false)) else (none)) else (none)) else (some true)
end
def spec_SectionOk.f (k : Nat) (a0_0 : ByteArray) (a0_1 : Int) (a0_2 : Int) (a0_3 : Int) (a0_4 : ByteArray) (l0_5 : List (S70)) : Option (Bool) := (spec_NameOk.f k a0_0).bind fun t144 => (if t144 = true then ((spec_l1In.f a0_1 0 2).bind fun t145 => (if t145 = true then (if (a0_4.size : Int) > 256 then (spec_SectionOk.j0 k (a0_4.size : Int) true a0_0 a0_1 a0_2 a0_3 a0_4 l0_5) else (spec_SectionOk.j0 k (a0_4.size : Int) (decide ((l0_5.length : Int) > 256)) a0_0 a0_1 a0_2 a0_3 a0_4 l0_5)) else (spec_SectionOk.j0 k (a0_4.size : Int) true a0_0 a0_1 a0_2 a0_3 a0_4 l0_5))) else (spec_SectionOk.j0 k (a0_4.size : Int) true a0_0 a0_1 a0_2 a0_3 a0_4 l0_5))
theorem spec_SectionOk.mono_l : ∀ k, (∀ y0 y1 y2 y3 y4 y5 y6 y7, LeO (spec_SectionOk.j0 k y0 y1 y2 y3 y4 y5 y6 y7) (spec_SectionOk.j0 (k + 1) y0 y1 y2 y3 y4 y5 y6 y7)) ∧ (∀ y0 y1 y2 y3 y4 y5 y6 y7, LeO (spec_SectionOk.j1 k y0 y1 y2 y3 y4 y5 y6 y7) (spec_SectionOk.j1 (k + 1) y0 y1 y2 y3 y4 y5 y6 y7)) ∧ (∀ y0 y1 y2 y3 y4 y5 y6 y7, LeO (spec_SectionOk.j2 k y0 y1 y2 y3 y4 y5 y6 y7) (spec_SectionOk.j2 (k + 1) y0 y1 y2 y3 y4 y5 y6 y7)) ∧ (∀ y0 y1 y2 y3 y4 y5 y6 y7, LeO (spec_SectionOk.l0 k y0 y1 y2 y3 y4 y5 y6 y7) (spec_SectionOk.l0 (k + 1) y0 y1 y2 y3 y4 y5 y6 y7)) ∧ (∀ y0 y1 y2 y3 y4 y5 y6, LeO (spec_SectionOk.l1 k y0 y1 y2 y3 y4 y5 y6) (spec_SectionOk.l1 (k + 1) y0 y1 y2 y3 y4 y5 y6)) ∧ (∀ y0 y1 y2 y3 y4 y5 y6 y7, LeO (spec_SectionOk.j5 k y0 y1 y2 y3 y4 y5 y6 y7) (spec_SectionOk.j5 (k + 1) y0 y1 y2 y3 y4 y5 y6 y7))
  | 0 => ⟨fun _ _ _ _ _ _ _ _ r h => by simp [spec_SectionOk.j0] at h, fun _ _ _ _ _ _ _ _ r h => by simp [spec_SectionOk.j1] at h, fun _ _ _ _ _ _ _ _ r h => by simp [spec_SectionOk.j2] at h, fun _ _ _ _ _ _ _ _ r h => by simp [spec_SectionOk.l0] at h, fun _ _ _ _ _ _ _ r h => by simp [spec_SectionOk.l1] at h, fun _ _ _ _ _ _ _ _ r h => by simp [spec_SectionOk.j5] at h⟩
  | k + 1 => by
    obtain ⟨ih0, ih1, ih2, ih3, ih4, ih5⟩ := spec_SectionOk.mono_l k
    refine ⟨?_, ?_, ?_, ?_, ?_, ?_⟩
    · intro y0 y1 y2 y3 y4 y5 y6 y7
      unfold spec_SectionOk.j0
      repeat' first
      | (with_reducible exact ih0 _ _ _ _ _ _ _ _)
      | (with_reducible exact ih1 _ _ _ _ _ _ _ _)
      | (with_reducible exact ih2 _ _ _ _ _ _ _ _)
      | (with_reducible exact ih3 _ _ _ _ _ _ _ _)
      | (with_reducible exact ih4 _ _ _ _ _ _ _)
      | (with_reducible exact ih5 _ _ _ _ _ _ _ _)
      | (with_reducible exact spec_NameOk.mono _ _)
      | (with_reducible exact spec_l9Patch.mono _ _ _ _ _)
      | (with_reducible exact LeO.refl _)
      | (with_reducible exact LeO.none _)
      | (with_reducible refine LeO.ite ?_ ?_)
      | (with_reducible refine LeO.bind ?_ (fun _ => ?_))
      | exact ih0 _ _ _ _ _ _ _ _
      | exact ih1 _ _ _ _ _ _ _ _
      | exact ih2 _ _ _ _ _ _ _ _
      | exact ih3 _ _ _ _ _ _ _ _
      | exact ih4 _ _ _ _ _ _ _
      | exact ih5 _ _ _ _ _ _ _ _
      | exact spec_NameOk.mono _ _
      | exact spec_l9Patch.mono _ _ _ _ _
      | exact LeO.none _
      | refine LeO.ite ?_ ?_
      | refine LeO.bind ?_ (fun _ => ?_)
    · intro y0 y1 y2 y3 y4 y5 y6 y7
      unfold spec_SectionOk.j1
      repeat' first
      | (with_reducible exact ih0 _ _ _ _ _ _ _ _)
      | (with_reducible exact ih1 _ _ _ _ _ _ _ _)
      | (with_reducible exact ih2 _ _ _ _ _ _ _ _)
      | (with_reducible exact ih3 _ _ _ _ _ _ _ _)
      | (with_reducible exact ih4 _ _ _ _ _ _ _)
      | (with_reducible exact ih5 _ _ _ _ _ _ _ _)
      | (with_reducible exact spec_NameOk.mono _ _)
      | (with_reducible exact spec_l9Patch.mono _ _ _ _ _)
      | (with_reducible exact LeO.refl _)
      | (with_reducible exact LeO.none _)
      | (with_reducible refine LeO.ite ?_ ?_)
      | (with_reducible refine LeO.bind ?_ (fun _ => ?_))
      | exact ih0 _ _ _ _ _ _ _ _
      | exact ih1 _ _ _ _ _ _ _ _
      | exact ih2 _ _ _ _ _ _ _ _
      | exact ih3 _ _ _ _ _ _ _ _
      | exact ih4 _ _ _ _ _ _ _
      | exact ih5 _ _ _ _ _ _ _ _
      | exact spec_NameOk.mono _ _
      | exact spec_l9Patch.mono _ _ _ _ _
      | exact LeO.none _
      | refine LeO.ite ?_ ?_
      | refine LeO.bind ?_ (fun _ => ?_)
    · intro y0 y1 y2 y3 y4 y5 y6 y7
      unfold spec_SectionOk.j2
      repeat' first
      | (with_reducible exact ih0 _ _ _ _ _ _ _ _)
      | (with_reducible exact ih1 _ _ _ _ _ _ _ _)
      | (with_reducible exact ih2 _ _ _ _ _ _ _ _)
      | (with_reducible exact ih3 _ _ _ _ _ _ _ _)
      | (with_reducible exact ih4 _ _ _ _ _ _ _)
      | (with_reducible exact ih5 _ _ _ _ _ _ _ _)
      | (with_reducible exact spec_NameOk.mono _ _)
      | (with_reducible exact spec_l9Patch.mono _ _ _ _ _)
      | (with_reducible exact LeO.refl _)
      | (with_reducible exact LeO.none _)
      | (with_reducible refine LeO.ite ?_ ?_)
      | (with_reducible refine LeO.bind ?_ (fun _ => ?_))
      | exact ih0 _ _ _ _ _ _ _ _
      | exact ih1 _ _ _ _ _ _ _ _
      | exact ih2 _ _ _ _ _ _ _ _
      | exact ih3 _ _ _ _ _ _ _ _
      | exact ih4 _ _ _ _ _ _ _
      | exact ih5 _ _ _ _ _ _ _ _
      | exact spec_NameOk.mono _ _
      | exact spec_l9Patch.mono _ _ _ _ _
      | exact LeO.none _
      | refine LeO.ite ?_ ?_
      | refine LeO.bind ?_ (fun _ => ?_)
    · intro y0 y1 y2 y3 y4 y5 y6 y7
      unfold spec_SectionOk.l0
      repeat' first
      | (with_reducible exact ih0 _ _ _ _ _ _ _ _)
      | (with_reducible exact ih1 _ _ _ _ _ _ _ _)
      | (with_reducible exact ih2 _ _ _ _ _ _ _ _)
      | (with_reducible exact ih3 _ _ _ _ _ _ _ _)
      | (with_reducible exact ih4 _ _ _ _ _ _ _)
      | (with_reducible exact ih5 _ _ _ _ _ _ _ _)
      | (with_reducible exact spec_NameOk.mono _ _)
      | (with_reducible exact spec_l9Patch.mono _ _ _ _ _)
      | (with_reducible exact LeO.refl _)
      | (with_reducible exact LeO.none _)
      | (with_reducible refine LeO.ite ?_ ?_)
      | (with_reducible refine LeO.bind ?_ (fun _ => ?_))
      | exact ih0 _ _ _ _ _ _ _ _
      | exact ih1 _ _ _ _ _ _ _ _
      | exact ih2 _ _ _ _ _ _ _ _
      | exact ih3 _ _ _ _ _ _ _ _
      | exact ih4 _ _ _ _ _ _ _
      | exact ih5 _ _ _ _ _ _ _ _
      | exact spec_NameOk.mono _ _
      | exact spec_l9Patch.mono _ _ _ _ _
      | exact LeO.none _
      | refine LeO.ite ?_ ?_
      | refine LeO.bind ?_ (fun _ => ?_)
    · intro y0 y1 y2 y3 y4 y5 y6
      unfold spec_SectionOk.l1
      repeat' first
      | (with_reducible exact ih0 _ _ _ _ _ _ _ _)
      | (with_reducible exact ih1 _ _ _ _ _ _ _ _)
      | (with_reducible exact ih2 _ _ _ _ _ _ _ _)
      | (with_reducible exact ih3 _ _ _ _ _ _ _ _)
      | (with_reducible exact ih4 _ _ _ _ _ _ _)
      | (with_reducible exact ih5 _ _ _ _ _ _ _ _)
      | (with_reducible exact spec_NameOk.mono _ _)
      | (with_reducible exact spec_l9Patch.mono _ _ _ _ _)
      | (with_reducible exact LeO.refl _)
      | (with_reducible exact LeO.none _)
      | (with_reducible refine LeO.ite ?_ ?_)
      | (with_reducible refine LeO.bind ?_ (fun _ => ?_))
      | exact ih0 _ _ _ _ _ _ _ _
      | exact ih1 _ _ _ _ _ _ _ _
      | exact ih2 _ _ _ _ _ _ _ _
      | exact ih3 _ _ _ _ _ _ _ _
      | exact ih4 _ _ _ _ _ _ _
      | exact ih5 _ _ _ _ _ _ _ _
      | exact spec_NameOk.mono _ _
      | exact spec_l9Patch.mono _ _ _ _ _
      | exact LeO.none _
      | refine LeO.ite ?_ ?_
      | refine LeO.bind ?_ (fun _ => ?_)
    · intro y0 y1 y2 y3 y4 y5 y6 y7
      unfold spec_SectionOk.j5
      repeat' first
      | (with_reducible exact ih0 _ _ _ _ _ _ _ _)
      | (with_reducible exact ih1 _ _ _ _ _ _ _ _)
      | (with_reducible exact ih2 _ _ _ _ _ _ _ _)
      | (with_reducible exact ih3 _ _ _ _ _ _ _ _)
      | (with_reducible exact ih4 _ _ _ _ _ _ _)
      | (with_reducible exact ih5 _ _ _ _ _ _ _ _)
      | (with_reducible exact spec_NameOk.mono _ _)
      | (with_reducible exact spec_l9Patch.mono _ _ _ _ _)
      | (with_reducible exact LeO.refl _)
      | (with_reducible exact LeO.none _)
      | (with_reducible refine LeO.ite ?_ ?_)
      | (with_reducible refine LeO.bind ?_ (fun _ => ?_))
      | exact ih0 _ _ _ _ _ _ _ _
      | exact ih1 _ _ _ _ _ _ _ _
      | exact ih2 _ _ _ _ _ _ _ _
      | exact ih3 _ _ _ _ _ _ _ _
      | exact ih4 _ _ _ _ _ _ _
      | exact ih5 _ _ _ _ _ _ _ _
      | exact spec_NameOk.mono _ _
      | exact spec_l9Patch.mono _ _ _ _ _
      | exact LeO.none _
      | refine LeO.ite ?_ ?_
      | refine LeO.bind ?_ (fun _ => ?_)
theorem spec_SectionOk.mono : ∀ a0 a1 a2 a3 a4 a5 k, LeO (spec_SectionOk.f k a0 a1 a2 a3 a4 a5) (spec_SectionOk.f (k + 1) a0 a1 a2 a3 a4 a5) := by
  intro a0 a1 a2 a3 a4 a5 k
  obtain ⟨ih0, ih1, ih2, ih3, ih4, ih5⟩ := spec_SectionOk.mono_l k
  unfold spec_SectionOk.f
  repeat' first
      | (with_reducible exact ih0 _ _ _ _ _ _ _ _)
      | (with_reducible exact ih1 _ _ _ _ _ _ _ _)
      | (with_reducible exact ih2 _ _ _ _ _ _ _ _)
      | (with_reducible exact ih3 _ _ _ _ _ _ _ _)
      | (with_reducible exact ih4 _ _ _ _ _ _ _)
      | (with_reducible exact ih5 _ _ _ _ _ _ _ _)
      | (with_reducible exact spec_NameOk.mono _ _)
      | (with_reducible exact spec_l9Patch.mono _ _ _ _ _)
      | (with_reducible exact LeO.refl _)
      | (with_reducible exact LeO.none _)
      | (with_reducible refine LeO.ite ?_ ?_)
      | (with_reducible refine LeO.bind ?_ (fun _ => ?_))
      | exact ih0 _ _ _ _ _ _ _ _
      | exact ih1 _ _ _ _ _ _ _ _
      | exact ih2 _ _ _ _ _ _ _ _
      | exact ih3 _ _ _ _ _ _ _ _
      | exact ih4 _ _ _ _ _ _ _
      | exact ih5 _ _ _ _ _ _ _ _
      | exact spec_NameOk.mono _ _
      | exact spec_l9Patch.mono _ _ _ _ _
      | exact LeO.none _
      | refine LeO.ite ?_ ?_
      | refine LeO.bind ?_ (fun _ => ?_)
set_option maxHeartbeats 8000000 in
set_option maxRecDepth 100000 in
theorem spec_SectionOk.calls (k : Nat) (a0_0 : ByteArray) (a0_1 : Int) (a0_2 : Int) (a0_3 : Int) (a0_4 : ByteArray) (A0_5 : Option Addr) (c0_5 : Nat) (l0_5 : List (S70)) (r : Bool) (w : World) (hr0_5 : Kd.C k70 w A0_5 l0_5.length l0_5) (hc0_5 : l0_5.length ≤ c0_5) (h : spec_SectionOk.f k a0_0 a0_1 a0_2 a0_3 a0_4 l0_5 = some r) :
 Calls Try.prog 12 #[.agg #[.string a0_0, .int .i64 a0_1, .int .i64 a0_2, .int .i64 a0_3, .string a0_4, .slice A0_5 l0_5.length c0_5]] w fun e w' => e = .returned (.bool r) ∧ Below w.heap.size w w' := by
 have hu43 := Try.underlying43
 have hu70 := Try.underlying70
 have HR0_5 := Aside0.mk hr0_5
 have HC0_5 := Aside0.mk hc0_5
 clear hr0_5 hc0_5
 have HB := Aside0.mk (Below.refl w.heap.size w)
 have H : ((spec_NameOk.f k a0_0).bind fun t144 => (if t144 = true then ((spec_l1In.f a0_1 0 2).bind fun t145 => (if t145 = true then (if (a0_4.size : Int) > 256 then (spec_SectionOk.j0 k (a0_4.size : Int) true a0_0 a0_1 a0_2 a0_3 a0_4 l0_5) else (spec_SectionOk.j0 k (a0_4.size : Int) (decide ((l0_5.length : Int) > 256)) a0_0 a0_1 a0_2 a0_3 a0_4 l0_5)) else (spec_SectionOk.j0 k (a0_4.size : Int) true a0_0 a0_1 a0_2 a0_3 a0_4 l0_5))) else (spec_SectionOk.j0 k (a0_4.size : Int) true a0_0 a0_1 a0_2 a0_3 a0_4 l0_5))) = some r := h
 clear h
 have HC2 := Aside0.mk H
 clear H
 go_enter Try.func12, Try.ntmps12
 go_upto_region 2 with (first | ((with_reducible refine gate_dst (N := 1) rfl ?_); (try (refine gate_guard (by rfl) ?_; dsimp only)); refine zbx 1 #[.string a0_0, .int .i64 a0_1, .int .i64 a0_2, .int .i64 a0_3, .string a0_4, .slice A0_5 l0_5.length c0_5] 43 ?_; intro gb143 hg w3 hbox hb; have BK143 := Aside0.mk (hbox); have GW143 := zs w hg; have GE143 := GW143; replace HB := zt w hb; clear hb hbox hg; have hcz4_0 := zc0 BK143; have hcz4_1 := zc1 BK143; have hcz4_2 := zc2 BK143; have hcz4_3 := zc3 BK143; have hcz4_4 := zc4 BK143; have hcz4_5 := zc5 BK143; have hfz4_0 := blk_frozen BK143.out 0; have hfz4_1 := blk_frozen BK143.out 1; have hfz4_2 := blk_frozen BK143.out 2; have hfz4_3 := blk_frozen BK143.out 3; have hfz4_4 := blk_frozen BK143.out 4; have hfz4_5 := blk_frozen BK143.out 5))
 (try simp only [Act.put, List.setIfInBounds_toArray, List.set_cons_zero, List.set_cons_succ])
 go_cut [29] (fun v29 wc => ∃ (kq : Nat) (x29_1 : Bool), v29 = .bool x29_1 ∧ Aside0 (spec_SectionOk.j0 kq (a0_4.size : Int) x29_1 a0_0 a0_1 a0_2 a0_3 a0_4 l0_5 = some r) ∧ Aside0 (kq ≤ k) ∧ Aside0 (wc.heap[gb143]? = some (.cells #[.string a0_0, .int .i64 a0_1, .int .i64 a0_2, .int .i64 a0_3, .string a0_4, (.slice A0_5 l0_5.length c0_5)] 43 (0, 0))) ∧ Aside0 (Below w.heap.size w wc))
 case first =>
  have H := HC2.out
  clear HC2
  obtain ⟨t144, A50, H⟩ := Option.bind_eq_some_iff.mp H
  have A5 := Aside0.mk A50
  clear A50
  by_cases c6 : t144 = true
  ·subst c6
   rw [if_pos rfl] at H
   obtain ⟨t145, A70, H⟩ := Option.bind_eq_some_iff.mp H
   have A7 := Aside0.mk A70
   clear A70
   by_cases c8 : t145 = true
   ·subst c8
    rw [if_pos rfl] at H
    by_cases c9 : (a0_4.size : Int) > 256
    ·rw [if_pos c9] at H
     have c9b0 : decide (256 < (a0_4.size : Int)) = true := decide_eq_true c9
     have c9b1 : decide (256 < a0_4.size) = true := decide_eq_true (by omega)
     clear c9
     (first | rw [c9b0] | (simp only [i64_w, i32_w]; rw [c9b0]) | skip)
     have H' := Aside0.mk H
     clear H
     have hcz10_0 := zc0 BK143
     have hcz10_1 := zc1 BK143
     have hcz10_2 := zc2 BK143
     have hcz10_3 := zc3 BK143
     have hcz10_4 := zc4 BK143
     have hcz10_5 := zc5 BK143
     have hfz10_0 := blk_frozen BK143.out 0
     have hfz10_1 := blk_frozen BK143.out 1
     have hfz10_2 := blk_frozen BK143.out 2
     have hfz10_3 := blk_frozen BK143.out 3
     have hfz10_4 := blk_frozen BK143.out 4
     have hfz10_5 := blk_frozen BK143.out 5
     go_wp2_with (first | ((with_reducible refine gate_callee (f := 13) rfl ?_); refine zc (some 12) Try.func13 #[.string a0_0] ?_; (with_reducible refine (spec_NameOk.calls k a0_0 true _ A5.out).mono ?_); rintro e w' ⟨rfl, ⟨nd, rfl⟩⟩; refine ⟨_, rfl, ?_⟩) | (go_at_call 14; (with_reducible refine (spec_l1In.calls a0_1 0 2 true _ A7.out).mono ?_); rintro e w' ⟨rfl, ⟨nd, rfl⟩⟩))
     go_meet
     case rel => exact ⟨_, (true), (zE _), H', ⟨by first | omega | exact Nat.le_refl _⟩, ⟨by (with_reducible repeat (first | refine blk_drewN ?_ _ | refine blk_drew ?_ | refine blk_alloc ?_ _)); exact BK143.out⟩, ⟨zb _⟩⟩
    ·rw [if_neg c9] at H
     have c9b0 : decide (256 < (a0_4.size : Int)) = false := decide_eq_false c9
     have c9b1 : decide (256 < a0_4.size) = false := decide_eq_false (by omega)
     clear c9
     (first | rw [c9b0] | (simp only [i64_w, i32_w]; rw [c9b0]) | skip)
     have H' := Aside0.mk H
     clear H
     have hcz11_0 := zc0 BK143
     have hcz11_1 := zc1 BK143
     have hcz11_2 := zc2 BK143
     have hcz11_3 := zc3 BK143
     have hcz11_4 := zc4 BK143
     have hcz11_5 := zc5 BK143
     have hfz11_0 := blk_frozen BK143.out 0
     have hfz11_1 := blk_frozen BK143.out 1
     have hfz11_2 := blk_frozen BK143.out 2
     have hfz11_3 := blk_frozen BK143.out 3
     have hfz11_4 := blk_frozen BK143.out 4
     have hfz11_5 := blk_frozen BK143.out 5
     go_wp2_with (first | ((with_reducible refine gate_callee (f := 13) rfl ?_); refine zc (some 12) Try.func13 #[.string a0_0] ?_; (with_reducible refine (spec_NameOk.calls k a0_0 true _ A5.out).mono ?_); rintro e w' ⟨rfl, ⟨nd, rfl⟩⟩; refine ⟨_, rfl, ?_⟩) | (go_at_call 14; (with_reducible refine (spec_l1In.calls a0_1 0 2 true _ A7.out).mono ?_); rintro e w' ⟨rfl, ⟨nd, rfl⟩⟩))
     go_meet
     case rel => exact ⟨_, (decide ((l0_5.length : Int) > 256)), (zE _), H', ⟨by first | omega | exact Nat.le_refl _⟩, ⟨by (with_reducible repeat (first | refine blk_drewN ?_ _ | refine blk_drew ?_ | refine blk_alloc ?_ _)); exact BK143.out⟩, ⟨zb _⟩⟩
   ·replace c8 := Bool.eq_false_iff.mpr c8
    subst c8
    rw [if_neg (show ¬ (false = true) by decide)] at H
    have H' := Aside0.mk H
    clear H
    have hcz12_0 := zc0 BK143
    have hcz12_1 := zc1 BK143
    have hcz12_2 := zc2 BK143
    have hcz12_3 := zc3 BK143
    have hcz12_4 := zc4 BK143
    have hcz12_5 := zc5 BK143
    have hfz12_0 := blk_frozen BK143.out 0
    have hfz12_1 := blk_frozen BK143.out 1
    have hfz12_2 := blk_frozen BK143.out 2
    have hfz12_3 := blk_frozen BK143.out 3
    have hfz12_4 := blk_frozen BK143.out 4
    have hfz12_5 := blk_frozen BK143.out 5
    go_wp2_with (first | ((with_reducible refine gate_callee (f := 13) rfl ?_); refine zc (some 12) Try.func13 #[.string a0_0] ?_; (with_reducible refine (spec_NameOk.calls k a0_0 true _ A5.out).mono ?_); rintro e w' ⟨rfl, ⟨nd, rfl⟩⟩; refine ⟨_, rfl, ?_⟩) | (go_at_call 14; (with_reducible refine (spec_l1In.calls a0_1 0 2 false _ A7.out).mono ?_); rintro e w' ⟨rfl, ⟨nd, rfl⟩⟩))
    go_meet
    case rel => exact ⟨_, (true), (zE _), H', ⟨by first | omega | exact Nat.le_refl _⟩, ⟨by (with_reducible repeat (first | refine blk_drewN ?_ _ | refine blk_drew ?_ | refine blk_alloc ?_ _)); exact BK143.out⟩, ⟨zb _⟩⟩
  ·replace c6 := Bool.eq_false_iff.mpr c6
   subst c6
   rw [if_neg (show ¬ (false = true) by decide)] at H
   have H' := Aside0.mk H
   clear H
   have hcz13_0 := zc0 BK143
   have hcz13_1 := zc1 BK143
   have hcz13_2 := zc2 BK143
   have hcz13_3 := zc3 BK143
   have hcz13_4 := zc4 BK143
   have hcz13_5 := zc5 BK143
   have hfz13_0 := blk_frozen BK143.out 0
   have hfz13_1 := blk_frozen BK143.out 1
   have hfz13_2 := blk_frozen BK143.out 2
   have hfz13_3 := blk_frozen BK143.out 3
   have hfz13_4 := blk_frozen BK143.out 4
   have hfz13_5 := blk_frozen BK143.out 5
   go_wp2_with (first | ((with_reducible refine gate_callee (f := 13) rfl ?_); refine zc (some 12) Try.func13 #[.string a0_0] ?_; (with_reducible refine (spec_NameOk.calls k a0_0 false _ A5.out).mono ?_); rintro e w' ⟨rfl, ⟨nd, rfl⟩⟩; refine ⟨_, rfl, ?_⟩))
   go_meet
   case rel => exact ⟨_, (true), (zE _), H', ⟨by first | omega | exact Nat.le_refl _⟩, ⟨by (with_reducible repeat (first | refine blk_drewN ?_ _ | refine blk_drew ?_ | refine blk_alloc ?_ _)); exact BK143.out⟩, ⟨zb _⟩⟩
 case rest =>
  clear HC2
  try clear c1
  try clear p2
  try clear c6
  try clear c8
  try clear c9
  try clear c9b0
  try clear c9b1
  try clear c12
  try clear c13
  try clear hcz10_0
  try clear hcz10_1
  try clear hcz10_2
  try clear hcz10_3
  try clear hcz10_4
  try clear hcz10_5
  try clear hcz11_0
  try clear hcz11_1
  try clear hcz11_2
  try clear hcz11_3
  try clear hcz11_4
  try clear hcz11_5
  try clear hcz12_0
  try clear hcz12_1
  try clear hcz12_2
  try clear hcz12_3
  try clear hcz12_4
  try clear hcz12_5
  try clear hcz13_0
  try clear hcz13_1
  try clear hcz13_2
  try clear hcz13_3
  try clear hcz13_4
  try clear hcz13_5
  try clear hcz4_0
  try clear hcz4_1
  try clear hcz4_2
  try clear hcz4_3
  try clear hcz4_4
  try clear hcz4_5
  try clear hfz10_0
  try clear hfz10_1
  try clear hfz10_2
  try clear hfz10_3
  try clear hfz10_4
  try clear hfz10_5
  try clear hfz11_0
  try clear hfz11_1
  try clear hfz11_2
  try clear hfz11_3
  try clear hfz11_4
  try clear hfz11_5
  try clear hfz12_0
  try clear hfz12_1
  try clear hfz12_2
  try clear hfz12_3
  try clear hfz12_4
  try clear hfz12_5
  try clear hfz13_0
  try clear hfz13_1
  try clear hfz13_2
  try clear hfz13_3
  try clear hfz13_4
  try clear hfz13_5
  try clear hfz4_0
  try clear hfz4_1
  try clear hfz4_2
  try clear hfz4_3
  try clear hfz4_4
  try clear hfz4_5
  obtain ⟨kq, x29_1, rfl, HA, HJ1, BK143, HB⟩ := hcut
  cases kq with
  | zero => exact absurd HA.out (by simp [spec_SectionOk.j0])
  | succ kj1 =>
   have H := HA.out
   clear HA
   simp only [spec_SectionOk.j0] at H
   by_cases c14 : x29_1 = true
   ·subst c14
    rw [if_pos rfl] at H
    obtain rfl := Option.some.inj H
    go_wp2
    go_ret
    exact ⟨ze _, zb _⟩
   ·replace c14 := Bool.eq_false_iff.mpr c14
    subst c14
    rw [if_neg (show ¬ (false = true) by decide)] at H
    obtain ⟨t146, A150, H⟩ := Option.bind_eq_some_iff.mp H
    have A15 := Aside0.mk A150
    clear A150
    have HC16 := Aside0.mk H
    clear H
    have hcz17_0 := zc0 BK143
    have hcz17_1 := zc1 BK143
    have hcz17_2 := zc2 BK143
    have hcz17_3 := zc3 BK143
    have hcz17_4 := zc4 BK143
    have hcz17_5 := zc5 BK143
    have hfz17_0 := blk_frozen BK143.out 0
    have hfz17_1 := blk_frozen BK143.out 1
    have hfz17_2 := blk_frozen BK143.out 2
    have hfz17_3 := blk_frozen BK143.out 3
    have hfz17_4 := blk_frozen BK143.out 4
    have hfz17_5 := blk_frozen BK143.out 5
    go_upto_region 5 with (first | ((with_reducible refine gate_callee (f := 32) rfl ?_); refine zc (some 32) Try.func32 #[.int .i64 a0_1] ?_; (with_reducible refine (spec_l9Base.calls a0_1 t146 _ A15.out).mono ?_); rintro e w' ⟨rfl, ⟨nd, rfl⟩⟩; refine ⟨_, rfl, ?_⟩))
    (try simp only [Act.put, List.setIfInBounds_toArray, List.set_cons_zero, List.set_cons_succ])
    go_cut [46] (fun v46 wc => ∃ (kq : Nat) (x46_15 : Bool), v46 = .bool x46_15 ∧ Aside0 (spec_SectionOk.j1 kq (a0_4.size : Int) x46_15 a0_0 a0_1 a0_2 a0_3 a0_4 l0_5 = some r) ∧ Aside0 (kq ≤ kj1) ∧ Aside0 (wc.heap[gb143]? = some (.cells #[.string a0_0, .int .i64 a0_1, .int .i64 a0_2, .int .i64 a0_3, .string a0_4, (.slice A0_5 l0_5.length c0_5)] 43 (0, 0))) ∧ Aside0 (Below w.heap.size w wc))
    case first =>
     have H := HC16.out
     clear HC16
     by_cases c18 : a0_3 = (-1)
     ·rw [if_pos c18] at H
      have c18b0 : (a0_3 == (-1)) = true := beq_iff_eq.mpr c18
      have c18b1 : (a0_3 != (-1)) = false := bne_eq_false_iff_eq.mpr c18
      clear c18
      (first | rw [c18b0] | (simp only [i64_w, i32_w]; rw [c18b0]) | skip)
      have H' := Aside0.mk H
      clear H
      have hcz19_0 := zc0 BK143
      have hcz19_1 := zc1 BK143
      have hcz19_2 := zc2 BK143
      have hcz19_3 := zc3 BK143
      have hcz19_4 := zc4 BK143
      have hcz19_5 := zc5 BK143
      have hfz19_0 := blk_frozen BK143.out 0
      have hfz19_1 := blk_frozen BK143.out 1
      have hfz19_2 := blk_frozen BK143.out 2
      have hfz19_3 := blk_frozen BK143.out 3
      have hfz19_4 := blk_frozen BK143.out 4
      have hfz19_5 := blk_frozen BK143.out 5
      go_wp2
      go_meet
      case rel => exact ⟨_, (false), (zE _), H', ⟨by have := HJ1.out; first | omega | exact Nat.le_refl _⟩, ⟨by (with_reducible repeat (first | refine blk_drewN ?_ _ | refine blk_drew ?_ | refine blk_alloc ?_ _)); exact BK143.out⟩, ⟨zb _⟩⟩
     ·rw [if_neg c18] at H
      have c18b0 : (a0_3 == (-1)) = false := beq_eq_false_iff_ne.mpr c18
      have c18b1 : (a0_3 != (-1)) = true := bne_iff_ne.mpr c18
      (first | rw [c18b0] | (simp only [i64_w, i32_w]; rw [c18b0]) | skip)
      obtain ⟨t147, A200, H⟩ := Option.bind_eq_some_iff.mp H
      have A20 := Aside0.mk A200
      clear A200
      have H' := Aside0.mk H
      clear H
      have hcz21_0 := zc0 BK143
      have hcz21_1 := zc1 BK143
      have hcz21_2 := zc2 BK143
      have hcz21_3 := zc3 BK143
      have hcz21_4 := zc4 BK143
      have hcz21_5 := zc5 BK143
      have hfz21_0 := blk_frozen BK143.out 0
      have hfz21_1 := blk_frozen BK143.out 1
      have hfz21_2 := blk_frozen BK143.out 2
      have hfz21_3 := blk_frozen BK143.out 3
      have hfz21_4 := blk_frozen BK143.out 4
      have hfz21_5 := blk_frozen BK143.out 5
      go_wp2_with (first | (go_at_call 14; (with_reducible refine (spec_l1In.calls a0_3 t146 (wrap64 ((wrap64 (t146 + 256)) - (a0_4.size : Int))) t147 _ A20.out).mono ?_); rintro e w' ⟨rfl, ⟨nd, rfl⟩⟩))
      go_meet
      case rel => exact ⟨_, (!t147), (zE _), H', ⟨by have := HJ1.out; first | omega | exact Nat.le_refl _⟩, ⟨by (with_reducible repeat (first | refine blk_drewN ?_ _ | refine blk_drew ?_ | refine blk_alloc ?_ _)); exact BK143.out⟩, ⟨zb _⟩⟩
    case rest =>
     clear HC16
     try clear c1
     try clear p2
     try clear c3
     try clear c6
     try clear p6
     try clear c8
     try clear c9
     try clear c9b0
     try clear c9b1
     try clear c12
     try clear c13
     try clear c14
     try clear c18
     try clear c18b0
     try clear c18b1
     try clear hcz10_0
     try clear hcz10_1
     try clear hcz10_2
     try clear hcz10_3
     try clear hcz10_4
     try clear hcz10_5
     try clear hcz11_0
     try clear hcz11_1
     try clear hcz11_2
     try clear hcz11_3
     try clear hcz11_4
     try clear hcz11_5
     try clear hcz12_0
     try clear hcz12_1
     try clear hcz12_2
     try clear hcz12_3
     try clear hcz12_4
     try clear hcz12_5
     try clear hcz13_0
     try clear hcz13_1
     try clear hcz13_2
     try clear hcz13_3
     try clear hcz13_4
     try clear hcz13_5
     try clear hcz17_0
     try clear hcz17_1
     try clear hcz17_2
     try clear hcz17_3
     try clear hcz17_4
     try clear hcz17_5
     try clear hcz19_0
     try clear hcz19_1
     try clear hcz19_2
     try clear hcz19_3
     try clear hcz19_4
     try clear hcz19_5
     try clear hcz21_0
     try clear hcz21_1
     try clear hcz21_2
     try clear hcz21_3
     try clear hcz21_4
     try clear hcz21_5
     try clear hcz4_0
     try clear hcz4_1
     try clear hcz4_2
     try clear hcz4_3
     try clear hcz4_4
     try clear hcz4_5
     try clear hfz10_0
     try clear hfz10_1
     try clear hfz10_2
     try clear hfz10_3
     try clear hfz10_4
     try clear hfz10_5
     try clear hfz11_0
     try clear hfz11_1
     try clear hfz11_2
     try clear hfz11_3
     try clear hfz11_4
     try clear hfz11_5
     try clear hfz12_0
     try clear hfz12_1
     try clear hfz12_2
     try clear hfz12_3
     try clear hfz12_4
     try clear hfz12_5
     try clear hfz13_0
     try clear hfz13_1
     try clear hfz13_2
     try clear hfz13_3
     try clear hfz13_4
     try clear hfz13_5
     try clear hfz17_0
     try clear hfz17_1
     try clear hfz17_2
     try clear hfz17_3
     try clear hfz17_4
     try clear hfz17_5
     try clear hfz19_0
     try clear hfz19_1
     try clear hfz19_2
     try clear hfz19_3
     try clear hfz19_4
     try clear hfz19_5
     try clear hfz21_0
     try clear hfz21_1
     try clear hfz21_2
     try clear hfz21_3
     try clear hfz21_4
     try clear hfz21_5
     try clear hfz4_0
     try clear hfz4_1
     try clear hfz4_2
     try clear hfz4_3
     try clear hfz4_4
     try clear hfz4_5
     try clear p2
     obtain ⟨kq, x46_15, rfl, HA, HJ15, BK143, HB⟩ := hcut
     cases kq with
     | zero => exact absurd HA.out (by simp [spec_SectionOk.j1])
     | succ kj15 =>
      have H := HA.out
      clear HA
      simp only [spec_SectionOk.j1] at H
      by_cases c22 : x46_15 = true
      ·subst c22
       rw [if_pos rfl] at H
       obtain rfl := Option.some.inj H
       go_wp2
       go_ret
       exact ⟨ze _, zb _⟩
      ·replace c22 := Bool.eq_false_iff.mpr c22
       subst c22
       rw [if_neg (show ¬ (false = true) by decide)] at H
       have HC23 := Aside0.mk H
       clear H
       go_upto_region 7 with (fail)
       go_cut [60] (fun v60 wc => ∃ (kq : Nat) (x60_22 : Bool), v60 = .bool x60_22 ∧ Aside0 (spec_SectionOk.j2 kq (a0_4.size : Int) x60_22 a0_0 a0_1 a0_2 a0_3 a0_4 l0_5 = some r) ∧ Aside0 (kq ≤ kj15) ∧ Aside0 (wc.heap[gb143]? = some (.cells #[.string a0_0, .int .i64 a0_1, .int .i64 a0_2, .int .i64 a0_3, .string a0_4, (.slice A0_5 l0_5.length c0_5)] 43 (0, 0))) ∧ Aside0 (Below w.heap.size w wc))
       case first =>
        have H := HC23.out
        clear HC23
        by_cases c24 : a0_2 = (-1)
        ·rw [if_pos c24] at H
         have c24b0 : (a0_2 == (-1)) = true := beq_iff_eq.mpr c24
         have c24b1 : (a0_2 != (-1)) = false := bne_eq_false_iff_eq.mpr c24
         clear c24
         (first | rw [c24b0] | (simp only [i64_w, i32_w]; rw [c24b0]) | skip)
         have H' := Aside0.mk H
         clear H
         have hcz25_0 := zc0 BK143
         have hcz25_1 := zc1 BK143
         have hcz25_2 := zc2 BK143
         have hcz25_3 := zc3 BK143
         have hcz25_4 := zc4 BK143
         have hcz25_5 := zc5 BK143
         have hfz25_0 := blk_frozen BK143.out 0
         have hfz25_1 := blk_frozen BK143.out 1
         have hfz25_2 := blk_frozen BK143.out 2
         have hfz25_3 := blk_frozen BK143.out 3
         have hfz25_4 := blk_frozen BK143.out 4
         have hfz25_5 := blk_frozen BK143.out 5
         go_wp2
         go_meet
         case rel => exact ⟨_, (false), (zE _), H', ⟨by have := HJ1.out; have := HJ15.out; first | omega | exact Nat.le_refl _⟩, ⟨by (with_reducible repeat (first | refine blk_drewN ?_ _ | refine blk_drew ?_ | refine blk_alloc ?_ _)); exact BK143.out⟩, ⟨zb _⟩⟩
        ·rw [if_neg c24] at H
         have c24b0 : (a0_2 == (-1)) = false := beq_eq_false_iff_ne.mpr c24
         have c24b1 : (a0_2 != (-1)) = true := bne_iff_ne.mpr c24
         (first | rw [c24b0] | (simp only [i64_w, i32_w]; rw [c24b0]) | skip)
         by_cases c26 : a0_1 = 1
         ·rw [if_pos c26] at H
          have c26b0 : (a0_1 == 1) = true := beq_iff_eq.mpr c26
          have c26b1 : (a0_1 != 1) = false := bne_eq_false_iff_eq.mpr c26
          clear c26
          obtain ⟨t148, A270, H⟩ := Option.bind_eq_some_iff.mp H
          have A27 := Aside0.mk A270
          clear A270
          have H' := Aside0.mk H
          clear H
          have hcz28_0 := zc0 BK143
          have hcz28_1 := zc1 BK143
          have hcz28_2 := zc2 BK143
          have hcz28_3 := zc3 BK143
          have hcz28_4 := zc4 BK143
          have hcz28_5 := zc5 BK143
          have hfz28_0 := blk_frozen BK143.out 0
          have hfz28_1 := blk_frozen BK143.out 1
          have hfz28_2 := blk_frozen BK143.out 2
          have hfz28_3 := blk_frozen BK143.out 3
          have hfz28_4 := blk_frozen BK143.out 4
          have hfz28_5 := blk_frozen BK143.out 5
          go_wp2_with (first | (go_at_call 14; (with_reducible refine (spec_l1In.calls a0_2 1 15 t148 _ A27.out).mono ?_); rintro e w' ⟨rfl, ⟨nd, rfl⟩⟩))
          go_meet
          case rel => exact ⟨_, (!t148), (zE _), H', ⟨by have := HJ1.out; have := HJ15.out; first | omega | exact Nat.le_refl _⟩, ⟨by (with_reducible repeat (first | refine blk_drewN ?_ _ | refine blk_drew ?_ | refine blk_alloc ?_ _)); exact BK143.out⟩, ⟨zb _⟩⟩
         ·rw [if_neg c26] at H
          have c26b0 : (a0_1 == 1) = false := beq_eq_false_iff_ne.mpr c26
          have c26b1 : (a0_1 != 1) = true := bne_iff_ne.mpr c26
          have H' := Aside0.mk H
          clear H
          have hcz29_0 := zc0 BK143
          have hcz29_1 := zc1 BK143
          have hcz29_2 := zc2 BK143
          have hcz29_3 := zc3 BK143
          have hcz29_4 := zc4 BK143
          have hcz29_5 := zc5 BK143
          have hfz29_0 := blk_frozen BK143.out 0
          have hfz29_1 := blk_frozen BK143.out 1
          have hfz29_2 := blk_frozen BK143.out 2
          have hfz29_3 := blk_frozen BK143.out 3
          have hfz29_4 := blk_frozen BK143.out 4
          have hfz29_5 := blk_frozen BK143.out 5
          go_wp2
          go_meet
          case rel => exact ⟨_, (true), (zE _), H', ⟨by have := HJ1.out; have := HJ15.out; first | omega | exact Nat.le_refl _⟩, ⟨by (with_reducible repeat (first | refine blk_drewN ?_ _ | refine blk_drew ?_ | refine blk_alloc ?_ _)); exact BK143.out⟩, ⟨zb _⟩⟩
       case rest =>
        clear HC23
        try clear c1
        try clear c2
        try clear p2
        try clear c3
        try clear c6
        try clear p6
        try clear c8
        try clear c9
        try clear c9b0
        try clear c9b1
        try clear c12
        try clear c13
        try clear c14
        try clear c18
        try clear c18b0
        try clear c18b1
        try clear c22
        try clear c24
        try clear c24b0
        try clear c24b1
        try clear c26
        try clear c26b0
        try clear c26b1
        try clear hcz10_0
        try clear hcz10_1
        try clear hcz10_2
        try clear hcz10_3
        try clear hcz10_4
        try clear hcz10_5
        try clear hcz11_0
        try clear hcz11_1
        try clear hcz11_2
        try clear hcz11_3
        try clear hcz11_4
        try clear hcz11_5
        try clear hcz12_0
        try clear hcz12_1
        try clear hcz12_2
        try clear hcz12_3
        try clear hcz12_4
        try clear hcz12_5
        try clear hcz13_0
        try clear hcz13_1
        try clear hcz13_2
        try clear hcz13_3
        try clear hcz13_4
        try clear hcz13_5
        try clear hcz17_0
        try clear hcz17_1
        try clear hcz17_2
        try clear hcz17_3
        try clear hcz17_4
        try clear hcz17_5
        try clear hcz19_0
        try clear hcz19_1
        try clear hcz19_2
        try clear hcz19_3
        try clear hcz19_4
        try clear hcz19_5
        try clear hcz21_0
        try clear hcz21_1
        try clear hcz21_2
        try clear hcz21_3
        try clear hcz21_4
        try clear hcz21_5
        try clear hcz25_0
        try clear hcz25_1
        try clear hcz25_2
        try clear hcz25_3
        try clear hcz25_4
        try clear hcz25_5
        try clear hcz28_0
        try clear hcz28_1
        try clear hcz28_2
        try clear hcz28_3
        try clear hcz28_4
        try clear hcz28_5
        try clear hcz29_0
        try clear hcz29_1
        try clear hcz29_2
        try clear hcz29_3
        try clear hcz29_4
        try clear hcz29_5
        try clear hcz4_0
        try clear hcz4_1
        try clear hcz4_2
        try clear hcz4_3
        try clear hcz4_4
        try clear hcz4_5
        try clear hfz10_0
        try clear hfz10_1
        try clear hfz10_2
        try clear hfz10_3
        try clear hfz10_4
        try clear hfz10_5
        try clear hfz11_0
        try clear hfz11_1
        try clear hfz11_2
        try clear hfz11_3
        try clear hfz11_4
        try clear hfz11_5
        try clear hfz12_0
        try clear hfz12_1
        try clear hfz12_2
        try clear hfz12_3
        try clear hfz12_4
        try clear hfz12_5
        try clear hfz13_0
        try clear hfz13_1
        try clear hfz13_2
        try clear hfz13_3
        try clear hfz13_4
        try clear hfz13_5
        try clear hfz17_0
        try clear hfz17_1
        try clear hfz17_2
        try clear hfz17_3
        try clear hfz17_4
        try clear hfz17_5
        try clear hfz19_0
        try clear hfz19_1
        try clear hfz19_2
        try clear hfz19_3
        try clear hfz19_4
        try clear hfz19_5
        try clear hfz21_0
        try clear hfz21_1
        try clear hfz21_2
        try clear hfz21_3
        try clear hfz21_4
        try clear hfz21_5
        try clear hfz25_0
        try clear hfz25_1
        try clear hfz25_2
        try clear hfz25_3
        try clear hfz25_4
        try clear hfz25_5
        try clear hfz28_0
        try clear hfz28_1
        try clear hfz28_2
        try clear hfz28_3
        try clear hfz28_4
        try clear hfz28_5
        try clear hfz29_0
        try clear hfz29_1
        try clear hfz29_2
        try clear hfz29_3
        try clear hfz29_4
        try clear hfz29_5
        try clear hfz4_0
        try clear hfz4_1
        try clear hfz4_2
        try clear hfz4_3
        try clear hfz4_4
        try clear hfz4_5
        try clear p2
        try clear p6
        obtain ⟨kq, x60_22, rfl, HA, HJ22, BK143, HB⟩ := hcut
        cases kq with
        | zero => exact absurd HA.out (by simp [spec_SectionOk.j2])
        | succ kj22 =>
         have H := HA.out
         clear HA
         simp only [spec_SectionOk.j2] at H
         by_cases c30 : x60_22 = true
         ·subst c30
          rw [if_pos rfl] at H
          obtain rfl := Option.some.inj H
          go_wp2
          go_ret
          exact ⟨ze _, zb _⟩
         ·replace c30 := Bool.eq_false_iff.mpr c30
          subst c30
          rw [if_neg (show ¬ (false = true) by decide)] at H
          have H' := Aside0.mk H
          clear H
          go_wp2
          go_loopg [5] kj22 (fun kq v5 w' => ∃ (x5_4 : Int), v5 = .int .i64 x5_4 ∧ Aside0 (spec_SectionOk.l0 kq (a0_4.size : Int) x5_4 a0_0 a0_1 a0_2 a0_3 a0_4 l0_5 = some r) ∧ Aside0 (kq ≤ kj22) ∧ Aside0 (w'.heap[gb143]? = some (.cells #[.string a0_0, .int .i64 a0_1, .int .i64 a0_2, .int .i64 a0_3, .string a0_4, (.slice A0_5 l0_5.length c0_5)] 43 (0, 0))) ∧ Aside0 (Below w.heap.size w w'))
          case atStart => exact ⟨(0), (zE _), H', ⟨Nat.le_refl _⟩, ⟨by (with_reducible repeat (first | refine blk_drewN ?_ _ | refine blk_drew ?_ | refine blk_alloc ?_ _)); exact BK143.out⟩, ⟨zb _⟩⟩
          case round =>
           clear H'
           try clear c1
           try clear c2
           try clear p2
           try clear c3
           try clear c6
           try clear p6
           try clear c8
           try clear c9
           try clear c9b0
           try clear c9b1
           try clear c12
           try clear c13
           try clear c14
           try clear c18
           try clear c18b0
           try clear c18b1
           try clear c22
           try clear c24
           try clear c24b0
           try clear c24b1
           try clear c26
           try clear c26b0
           try clear c26b1
           try clear c30
           try clear hcz10_0
           try clear hcz10_1
           try clear hcz10_2
           try clear hcz10_3
           try clear hcz10_4
           try clear hcz10_5
           try clear hcz11_0
           try clear hcz11_1
           try clear hcz11_2
           try clear hcz11_3
           try clear hcz11_4
           try clear hcz11_5
           try clear hcz12_0
           try clear hcz12_1
           try clear hcz12_2
           try clear hcz12_3
           try clear hcz12_4
           try clear hcz12_5
           try clear hcz13_0
           try clear hcz13_1
           try clear hcz13_2
           try clear hcz13_3
           try clear hcz13_4
           try clear hcz13_5
           try clear hcz17_0
           try clear hcz17_1
           try clear hcz17_2
           try clear hcz17_3
           try clear hcz17_4
           try clear hcz17_5
           try clear hcz19_0
           try clear hcz19_1
           try clear hcz19_2
           try clear hcz19_3
           try clear hcz19_4
           try clear hcz19_5
           try clear hcz21_0
           try clear hcz21_1
           try clear hcz21_2
           try clear hcz21_3
           try clear hcz21_4
           try clear hcz21_5
           try clear hcz25_0
           try clear hcz25_1
           try clear hcz25_2
           try clear hcz25_3
           try clear hcz25_4
           try clear hcz25_5
           try clear hcz28_0
           try clear hcz28_1
           try clear hcz28_2
           try clear hcz28_3
           try clear hcz28_4
           try clear hcz28_5
           try clear hcz29_0
           try clear hcz29_1
           try clear hcz29_2
           try clear hcz29_3
           try clear hcz29_4
           try clear hcz29_5
           try clear hcz4_0
           try clear hcz4_1
           try clear hcz4_2
           try clear hcz4_3
           try clear hcz4_4
           try clear hcz4_5
           try clear hfz10_0
           try clear hfz10_1
           try clear hfz10_2
           try clear hfz10_3
           try clear hfz10_4
           try clear hfz10_5
           try clear hfz11_0
           try clear hfz11_1
           try clear hfz11_2
           try clear hfz11_3
           try clear hfz11_4
           try clear hfz11_5
           try clear hfz12_0
           try clear hfz12_1
           try clear hfz12_2
           try clear hfz12_3
           try clear hfz12_4
           try clear hfz12_5
           try clear hfz13_0
           try clear hfz13_1
           try clear hfz13_2
           try clear hfz13_3
           try clear hfz13_4
           try clear hfz13_5
           try clear hfz17_0
           try clear hfz17_1
           try clear hfz17_2
           try clear hfz17_3
           try clear hfz17_4
           try clear hfz17_5
           try clear hfz19_0
           try clear hfz19_1
           try clear hfz19_2
           try clear hfz19_3
           try clear hfz19_4
           try clear hfz19_5
           try clear hfz21_0
           try clear hfz21_1
           try clear hfz21_2
           try clear hfz21_3
           try clear hfz21_4
           try clear hfz21_5
           try clear hfz25_0
           try clear hfz25_1
           try clear hfz25_2
           try clear hfz25_3
           try clear hfz25_4
           try clear hfz25_5
           try clear hfz28_0
           try clear hfz28_1
           try clear hfz28_2
           try clear hfz28_3
           try clear hfz28_4
           try clear hfz28_5
           try clear hfz29_0
           try clear hfz29_1
           try clear hfz29_2
           try clear hfz29_3
           try clear hfz29_4
           try clear hfz29_5
           try clear hfz4_0
           try clear hfz4_1
           try clear hfz4_2
           try clear hfz4_3
           try clear hfz4_4
           try clear hfz4_5
           try clear p2
           try clear p6
           obtain ⟨x5_4, rfl, HA, HK4, BK143, HB⟩ := hrel
           cases gk with
           | zero => exact absurd HA.out (by simp [spec_SectionOk.l0])
           | succ k4 =>
            have H := HA.out
            clear HA
            simp only [spec_SectionOk.l0] at H
            by_cases c31 : x5_4 < (l0_5.length : Int)
            ·rw [if_pos c31] at H
             have c31b0 : decide (x5_4 < (l0_5.length : Int)) = true := decide_eq_true c31
             clear c31
             by_cases c32 : 0 ≤ x5_4
             ·rw [if_pos c32] at H
              have c32b0 : decide (0 ≤ x5_4) = true := decide_eq_true c32
              clear c32
              obtain ⟨t150, A330, H⟩ := Option.bind_eq_some_iff.mp H
              have A33 := Aside0.mk A330
              clear A330
              by_cases c34 : t150 = true
              ·subst c34
               rw [if_pos rfl] at H
               by_cases c35 : a0_1 = 2
               ·rw [if_pos c35] at H
                have c35b0 : (a0_1 == 2) = true := beq_iff_eq.mpr c35
                have c35b1 : (a0_1 != 2) = false := bne_eq_false_iff_eq.mpr c35
                clear c35
                obtain rfl := Option.some.inj H
                have hcz36_0 := zc0 BK143
                have hcz36_1 := zc1 BK143
                have hcz36_2 := zc2 BK143
                have hcz36_3 := zc3 BK143
                have hcz36_4 := zc4 BK143
                have hcz36_5 := zc5 BK143
                have hfz36_0 := blk_frozen BK143.out 0
                have hfz36_1 := blk_frozen BK143.out 1
                have hfz36_2 := blk_frozen BK143.out 2
                have hfz36_3 := blk_frozen BK143.out 3
                have hfz36_4 := blk_frozen BK143.out 4
                have hfz36_5 := blk_frozen BK143.out 5
                have p149 : 0 ≤ (x5_4 : Int) := of_decide_eq_true (za _)
                have q149 : x5_4 < (l0_5.length : Int) := of_decide_eq_true (za _)
                obtain ⟨ad149, A149_2, c149_2, e149, hx149_0, hx149_1, hx149_2, hl149_2, hi149_2⟩ := at_T70 HR0_5.out x5_4 p149 q149
                cases e149
                replace hx149_0 := (HB.out.cell (World.block_lt_of_cell? w _ hx149_0)).trans hx149_0
                replace hx149_1 := (HB.out.cell (World.block_lt_of_cell? w _ hx149_1)).trans hx149_1
                replace hx149_2 := (HB.out.cell (World.block_lt_of_cell? w _ hx149_2)).trans hx149_2
                have HR149_2 := Aside0.mk hi149_2
                have HC149_2 := Aside0.mk hl149_2
                clear hi149_2 hl149_2
                replace p149 := eq_true p149
                replace q149 := eq_true q149
                go_wp2_with (first | ((with_reducible refine gate_callee (f := 33) rfl ?_); refine zc (some 74) Try.func33 #[.agg #[.int .i64 ((rd_T70 l0_5 x5_4).f0), .int .i64 ((rd_T70 l0_5 x5_4).f1), .slice A149_2 ((rd_T70 l0_5 x5_4).f2).length c149_2], .int .i64 (a0_4.size : Int)] ?_; (with_reducible refine (spec_l9Patch.calls k4 ((rd_T70 l0_5 x5_4).f0) ((rd_T70 l0_5 x5_4).f1) _ _ ((rd_T70 l0_5 x5_4).f2) (a0_4.size : Int) true _ ?side1 ?side2 A33.out).mono ?_); (case side1 => repeat (first | exact (Kd.C_below HR149_2.out HB.out) | (with_reducible refine Kd.C_alloc ?_ _) | (with_reducible refine Kd.C_drewN ?_ _) | (with_reducible refine Kd.C_drew ?_))); (case side2 => exact HC149_2.out); rintro e w37 ⟨rfl, hb⟩; refine ⟨_, rfl, ?_⟩; replace BK143 := zk BK143 hb; replace HB := zt w hb; (try clear hb); (try clear hb2); (try clear hk); (try clear hi); have hcz38_0 := zc0 BK143; have hcz38_1 := zc1 BK143; have hcz38_2 := zc2 BK143; have hcz38_3 := zc3 BK143; have hcz38_4 := zc4 BK143; have hcz38_5 := zc5 BK143; have hfz38_0 := blk_frozen BK143.out 0; have hfz38_1 := blk_frozen BK143.out 1; have hfz38_2 := blk_frozen BK143.out 2; have hfz38_3 := blk_frozen BK143.out 3; have hfz38_4 := blk_frozen BK143.out 4; have hfz38_5 := blk_frozen BK143.out 5))
                go_ret
                exact ⟨ze _, zb _⟩
               ·rw [if_neg c35] at H
                have c35b0 : (a0_1 == 2) = false := beq_eq_false_iff_ne.mpr c35
                have c35b1 : (a0_1 != 2) = true := bne_iff_ne.mpr c35
                have H' := Aside0.mk H
                clear H
                have hcz39_0 := zc0 BK143
                have hcz39_1 := zc1 BK143
                have hcz39_2 := zc2 BK143
                have hcz39_3 := zc3 BK143
                have hcz39_4 := zc4 BK143
                have hcz39_5 := zc5 BK143
                have hfz39_0 := blk_frozen BK143.out 0
                have hfz39_1 := blk_frozen BK143.out 1
                have hfz39_2 := blk_frozen BK143.out 2
                have hfz39_3 := blk_frozen BK143.out 3
                have hfz39_4 := blk_frozen BK143.out 4
                have hfz39_5 := blk_frozen BK143.out 5
                have p149 : 0 ≤ (x5_4 : Int) := of_decide_eq_true (za _)
                have q149 : x5_4 < (l0_5.length : Int) := of_decide_eq_true (za _)
                obtain ⟨ad149, A149_2, c149_2, e149, hx149_0, hx149_1, hx149_2, hl149_2, hi149_2⟩ := at_T70 HR0_5.out x5_4 p149 q149
                cases e149
                replace hx149_0 := (HB.out.cell (World.block_lt_of_cell? w _ hx149_0)).trans hx149_0
                replace hx149_1 := (HB.out.cell (World.block_lt_of_cell? w _ hx149_1)).trans hx149_1
                replace hx149_2 := (HB.out.cell (World.block_lt_of_cell? w _ hx149_2)).trans hx149_2
                have HR149_2 := Aside0.mk hi149_2
                have HC149_2 := Aside0.mk hl149_2
                clear hi149_2 hl149_2
                replace p149 := eq_true p149
                replace q149 := eq_true q149
                go_wp2_with (first | ((with_reducible refine gate_callee (f := 33) rfl ?_); refine zc (some 74) Try.func33 #[.agg #[.int .i64 ((rd_T70 l0_5 x5_4).f0), .int .i64 ((rd_T70 l0_5 x5_4).f1), .slice A149_2 ((rd_T70 l0_5 x5_4).f2).length c149_2], .int .i64 (a0_4.size : Int)] ?_; (with_reducible refine (spec_l9Patch.calls k4 ((rd_T70 l0_5 x5_4).f0) ((rd_T70 l0_5 x5_4).f1) _ _ ((rd_T70 l0_5 x5_4).f2) (a0_4.size : Int) true _ ?side1 ?side2 A33.out).mono ?_); (case side1 => repeat (first | exact (Kd.C_below HR149_2.out HB.out) | (with_reducible refine Kd.C_alloc ?_ _) | (with_reducible refine Kd.C_drewN ?_ _) | (with_reducible refine Kd.C_drew ?_))); (case side2 => exact HC149_2.out); rintro e w40 ⟨rfl, hb⟩; refine ⟨_, rfl, ?_⟩; replace BK143 := zk BK143 hb; replace HB := zt w hb; (try clear hb); (try clear hb2); (try clear hk); (try clear hi); have hcz41_0 := zc0 BK143; have hcz41_1 := zc1 BK143; have hcz41_2 := zc2 BK143; have hcz41_3 := zc3 BK143; have hcz41_4 := zc4 BK143; have hcz41_5 := zc5 BK143; have hfz41_0 := blk_frozen BK143.out 0; have hfz41_1 := blk_frozen BK143.out 1; have hfz41_2 := blk_frozen BK143.out 2; have hfz41_3 := blk_frozen BK143.out 3; have hfz41_4 := blk_frozen BK143.out 4; have hfz41_5 := blk_frozen BK143.out 5))
                go_roundg k4
                case measure => have := HJ1.out; have := HJ15.out; have := HJ22.out; have := HK4.out; omega
                case rel => exact ⟨(wrap64 (x5_4 + 1)), (zE _), H', ⟨by have := HJ1.out; have := HJ15.out; have := HJ22.out; have := HK4.out; omega⟩, ⟨by (with_reducible repeat (first | refine blk_drewN ?_ _ | refine blk_drew ?_ | refine blk_alloc ?_ _)); exact BK143.out⟩, ⟨zb _⟩⟩
              ·replace c34 := Bool.eq_false_iff.mpr c34
               subst c34
               rw [if_neg (show ¬ (false = true) by decide)] at H
               obtain rfl := Option.some.inj H
               have hcz42_0 := zc0 BK143
               have hcz42_1 := zc1 BK143
               have hcz42_2 := zc2 BK143
               have hcz42_3 := zc3 BK143
               have hcz42_4 := zc4 BK143
               have hcz42_5 := zc5 BK143
               have hfz42_0 := blk_frozen BK143.out 0
               have hfz42_1 := blk_frozen BK143.out 1
               have hfz42_2 := blk_frozen BK143.out 2
               have hfz42_3 := blk_frozen BK143.out 3
               have hfz42_4 := blk_frozen BK143.out 4
               have hfz42_5 := blk_frozen BK143.out 5
               have p149 : 0 ≤ (x5_4 : Int) := of_decide_eq_true (za _)
               have q149 : x5_4 < (l0_5.length : Int) := of_decide_eq_true (za _)
               obtain ⟨ad149, A149_2, c149_2, e149, hx149_0, hx149_1, hx149_2, hl149_2, hi149_2⟩ := at_T70 HR0_5.out x5_4 p149 q149
               cases e149
               replace hx149_0 := (HB.out.cell (World.block_lt_of_cell? w _ hx149_0)).trans hx149_0
               replace hx149_1 := (HB.out.cell (World.block_lt_of_cell? w _ hx149_1)).trans hx149_1
               replace hx149_2 := (HB.out.cell (World.block_lt_of_cell? w _ hx149_2)).trans hx149_2
               have HR149_2 := Aside0.mk hi149_2
               have HC149_2 := Aside0.mk hl149_2
               clear hi149_2 hl149_2
               replace p149 := eq_true p149
               replace q149 := eq_true q149
               go_wp2_with (first | ((with_reducible refine gate_callee (f := 33) rfl ?_); refine zc (some 74) Try.func33 #[.agg #[.int .i64 ((rd_T70 l0_5 x5_4).f0), .int .i64 ((rd_T70 l0_5 x5_4).f1), .slice A149_2 ((rd_T70 l0_5 x5_4).f2).length c149_2], .int .i64 (a0_4.size : Int)] ?_; (with_reducible refine (spec_l9Patch.calls k4 ((rd_T70 l0_5 x5_4).f0) ((rd_T70 l0_5 x5_4).f1) _ _ ((rd_T70 l0_5 x5_4).f2) (a0_4.size : Int) false _ ?side1 ?side2 A33.out).mono ?_); (case side1 => repeat (first | exact (Kd.C_below HR149_2.out HB.out) | (with_reducible refine Kd.C_alloc ?_ _) | (with_reducible refine Kd.C_drewN ?_ _) | (with_reducible refine Kd.C_drew ?_))); (case side2 => exact HC149_2.out); rintro e w43 ⟨rfl, hb⟩; refine ⟨_, rfl, ?_⟩; replace BK143 := zk BK143 hb; replace HB := zt w hb; (try clear hb); (try clear hb2); (try clear hk); (try clear hi)))
               go_ret
               exact ⟨ze _, zb _⟩
             ·rw [if_neg c32] at H
              exact absurd H (by simp)
            ·rw [if_neg c31] at H
             have c31b0 : decide (x5_4 < (l0_5.length : Int)) = false := decide_eq_false c31
             clear c31
             have H' := Aside0.mk H
             clear H
             have hcz44_0 := zc0 BK143
             have hcz44_1 := zc1 BK143
             have hcz44_2 := zc2 BK143
             have hcz44_3 := zc3 BK143
             have hcz44_4 := zc4 BK143
             have hcz44_5 := zc5 BK143
             have hfz44_0 := blk_frozen BK143.out 0
             have hfz44_1 := blk_frozen BK143.out 1
             have hfz44_2 := blk_frozen BK143.out 2
             have hfz44_3 := blk_frozen BK143.out 3
             have hfz44_4 := blk_frozen BK143.out 4
             have hfz44_5 := blk_frozen BK143.out 5
             go_wp2
             go_loopg [6] k4 (fun kq v6 w' => ∃ (x6_5 : Int), v6 = .int .i64 x6_5 ∧ Aside0 (spec_SectionOk.l1 kq x6_5 a0_0 a0_1 a0_2 a0_3 a0_4 l0_5 = some r) ∧ Aside0 (kq ≤ k4) ∧ Aside0 (w'.heap[gb143]? = some (.cells #[.string a0_0, .int .i64 a0_1, .int .i64 a0_2, .int .i64 a0_3, .string a0_4, (.slice A0_5 l0_5.length c0_5)] 43 (0, 0))) ∧ Aside0 (Below w.heap.size w w'))
             case atStart => exact ⟨(0), (zE _), H', ⟨Nat.le_refl _⟩, ⟨by (with_reducible repeat (first | refine blk_drewN ?_ _ | refine blk_drew ?_ | refine blk_alloc ?_ _)); exact BK143.out⟩, ⟨zb _⟩⟩
             case round =>
              clear H'
              try clear c1
              try clear p1
              try clear q1
              try clear hx1
              try clear c2
              try clear p2
              try clear c3
              try clear c6
              try clear p6
              try clear c8
              try clear c9
              try clear c9b0
              try clear c9b1
              try clear c12
              try clear c13
              try clear c14
              try clear p14
              try clear q14
              try clear hx14
              try clear c18
              try clear c18b0
              try clear c18b1
              try clear c22
              try clear c24
              try clear c24b0
              try clear c24b1
              try clear c26
              try clear c26b0
              try clear c26b1
              try clear c30
              try clear c31
              try clear c31b0
              try clear c32
              try clear c32b0
              try clear c33
              try clear c34
              try clear c35
              try clear c35b0
              try clear c35b1
              try clear hcz10_0
              try clear hcz10_1
              try clear hcz10_2
              try clear hcz10_3
              try clear hcz10_4
              try clear hcz10_5
              try clear hcz11_0
              try clear hcz11_1
              try clear hcz11_2
              try clear hcz11_3
              try clear hcz11_4
              try clear hcz11_5
              try clear hcz12_0
              try clear hcz12_1
              try clear hcz12_2
              try clear hcz12_3
              try clear hcz12_4
              try clear hcz12_5
              try clear hcz13_0
              try clear hcz13_1
              try clear hcz13_2
              try clear hcz13_3
              try clear hcz13_4
              try clear hcz13_5
              try clear hcz17_0
              try clear hcz17_1
              try clear hcz17_2
              try clear hcz17_3
              try clear hcz17_4
              try clear hcz17_5
              try clear hcz19_0
              try clear hcz19_1
              try clear hcz19_2
              try clear hcz19_3
              try clear hcz19_4
              try clear hcz19_5
              try clear hcz21_0
              try clear hcz21_1
              try clear hcz21_2
              try clear hcz21_3
              try clear hcz21_4
              try clear hcz21_5
              try clear hcz25_0
              try clear hcz25_1
              try clear hcz25_2
              try clear hcz25_3
              try clear hcz25_4
              try clear hcz25_5
              try clear hcz28_0
              try clear hcz28_1
              try clear hcz28_2
              try clear hcz28_3
              try clear hcz28_4
              try clear hcz28_5
              try clear hcz29_0
              try clear hcz29_1
              try clear hcz29_2
              try clear hcz29_3
              try clear hcz29_4
              try clear hcz29_5
              try clear hcz36_0
              try clear hcz36_1
              try clear hcz36_2
              try clear hcz36_3
              try clear hcz36_4
              try clear hcz36_5
              try clear hcz38_0
              try clear hcz38_1
              try clear hcz38_2
              try clear hcz38_3
              try clear hcz38_4
              try clear hcz38_5
              try clear hcz39_0
              try clear hcz39_1
              try clear hcz39_2
              try clear hcz39_3
              try clear hcz39_4
              try clear hcz39_5
              try clear hcz41_0
              try clear hcz41_1
              try clear hcz41_2
              try clear hcz41_3
              try clear hcz41_4
              try clear hcz41_5
              try clear hcz42_0
              try clear hcz42_1
              try clear hcz42_2
              try clear hcz42_3
              try clear hcz42_4
              try clear hcz42_5
              try clear hcz44_0
              try clear hcz44_1
              try clear hcz44_2
              try clear hcz44_3
              try clear hcz44_4
              try clear hcz44_5
              try clear hcz4_0
              try clear hcz4_1
              try clear hcz4_2
              try clear hcz4_3
              try clear hcz4_4
              try clear hcz4_5
              try clear hfz10_0
              try clear hfz10_1
              try clear hfz10_2
              try clear hfz10_3
              try clear hfz10_4
              try clear hfz10_5
              try clear hfz11_0
              try clear hfz11_1
              try clear hfz11_2
              try clear hfz11_3
              try clear hfz11_4
              try clear hfz11_5
              try clear hfz12_0
              try clear hfz12_1
              try clear hfz12_2
              try clear hfz12_3
              try clear hfz12_4
              try clear hfz12_5
              try clear hfz13_0
              try clear hfz13_1
              try clear hfz13_2
              try clear hfz13_3
              try clear hfz13_4
              try clear hfz13_5
              try clear hfz17_0
              try clear hfz17_1
              try clear hfz17_2
              try clear hfz17_3
              try clear hfz17_4
              try clear hfz17_5
              try clear hfz19_0
              try clear hfz19_1
              try clear hfz19_2
              try clear hfz19_3
              try clear hfz19_4
              try clear hfz19_5
              try clear hfz21_0
              try clear hfz21_1
              try clear hfz21_2
              try clear hfz21_3
              try clear hfz21_4
              try clear hfz21_5
              try clear hfz25_0
              try clear hfz25_1
              try clear hfz25_2
              try clear hfz25_3
              try clear hfz25_4
              try clear hfz25_5
              try clear hfz28_0
              try clear hfz28_1
              try clear hfz28_2
              try clear hfz28_3
              try clear hfz28_4
              try clear hfz28_5
              try clear hfz29_0
              try clear hfz29_1
              try clear hfz29_2
              try clear hfz29_3
              try clear hfz29_4
              try clear hfz29_5
              try clear hfz36_0
              try clear hfz36_1
              try clear hfz36_2
              try clear hfz36_3
              try clear hfz36_4
              try clear hfz36_5
              try clear hfz38_0
              try clear hfz38_1
              try clear hfz38_2
              try clear hfz38_3
              try clear hfz38_4
              try clear hfz38_5
              try clear hfz39_0
              try clear hfz39_1
              try clear hfz39_2
              try clear hfz39_3
              try clear hfz39_4
              try clear hfz39_5
              try clear hfz41_0
              try clear hfz41_1
              try clear hfz41_2
              try clear hfz41_3
              try clear hfz41_4
              try clear hfz41_5
              try clear hfz42_0
              try clear hfz42_1
              try clear hfz42_2
              try clear hfz42_3
              try clear hfz42_4
              try clear hfz42_5
              try clear hfz44_0
              try clear hfz44_1
              try clear hfz44_2
              try clear hfz44_3
              try clear hfz44_4
              try clear hfz44_5
              try clear hfz4_0
              try clear hfz4_1
              try clear hfz4_2
              try clear hfz4_3
              try clear hfz4_4
              try clear hfz4_5
              try clear hx149_0
              try clear hx149_1
              try clear hx149_2
              try clear p149
              try clear p2
              try clear p6
              try clear q149
              obtain ⟨x6_5, rfl, HA, HK5, BK143, HB⟩ := hrel
              cases gk with
              | zero => exact absurd HA.out (by simp [spec_SectionOk.l1])
              | succ k5 =>
               have H := HA.out
               clear HA
               simp only [spec_SectionOk.l1] at H
               have HC45 := Aside0.mk H
               clear H
               go_upto_region 15 with (fail)
               go_cut [90] (fun v90 wc => ∃ (kq : Nat) (x90_44 : Bool), v90 = .bool x90_44 ∧ Aside0 (spec_SectionOk.j5 kq x6_5 x90_44 a0_0 a0_1 a0_2 a0_3 a0_4 l0_5 = some r) ∧ Aside0 (kq ≤ k5) ∧ Aside0 (wc.heap[gb143]? = some (.cells #[.string a0_0, .int .i64 a0_1, .int .i64 a0_2, .int .i64 a0_3, .string a0_4, (.slice A0_5 l0_5.length c0_5)] 43 (0, 0))) ∧ Aside0 (Below w.heap.size w wc))
               case first =>
                have H := HC45.out
                clear HC45
                by_cases c46 : x6_5 < (a0_4.size : Int)
                ·rw [if_pos c46] at H
                 have c46b0 : decide (x6_5 < (a0_4.size : Int)) = true := decide_eq_true c46
                 clear c46
                 (first | rw [c46b0] | (simp only [i64_w, i32_w]; rw [c46b0]) | skip)
                 have H' := Aside0.mk H
                 clear H
                 have hcz47_0 := zc0 BK143
                 have hcz47_1 := zc1 BK143
                 have hcz47_2 := zc2 BK143
                 have hcz47_3 := zc3 BK143
                 have hcz47_4 := zc4 BK143
                 have hcz47_5 := zc5 BK143
                 have hfz47_0 := blk_frozen BK143.out 0
                 have hfz47_1 := blk_frozen BK143.out 1
                 have hfz47_2 := blk_frozen BK143.out 2
                 have hfz47_3 := blk_frozen BK143.out 3
                 have hfz47_4 := blk_frozen BK143.out 4
                 have hfz47_5 := blk_frozen BK143.out 5
                 go_wp2
                 go_meet
                 case rel => exact ⟨_, ((a0_1 == 2)), (zE _), H', ⟨by have := HJ1.out; have := HJ15.out; have := HJ22.out; have := HK4.out; have := HK5.out; first | omega | exact Nat.le_refl _⟩, ⟨by (with_reducible repeat (first | refine blk_drewN ?_ _ | refine blk_drew ?_ | refine blk_alloc ?_ _)); exact BK143.out⟩, ⟨zb _⟩⟩
                ·rw [if_neg c46] at H
                 have c46b0 : decide (x6_5 < (a0_4.size : Int)) = false := decide_eq_false c46
                 clear c46
                 (first | rw [c46b0] | (simp only [i64_w, i32_w]; rw [c46b0]) | skip)
                 have H' := Aside0.mk H
                 clear H
                 have hcz48_0 := zc0 BK143
                 have hcz48_1 := zc1 BK143
                 have hcz48_2 := zc2 BK143
                 have hcz48_3 := zc3 BK143
                 have hcz48_4 := zc4 BK143
                 have hcz48_5 := zc5 BK143
                 have hfz48_0 := blk_frozen BK143.out 0
                 have hfz48_1 := blk_frozen BK143.out 1
                 have hfz48_2 := blk_frozen BK143.out 2
                 have hfz48_3 := blk_frozen BK143.out 3
                 have hfz48_4 := blk_frozen BK143.out 4
                 have hfz48_5 := blk_frozen BK143.out 5
                 go_wp2
                 go_meet
                 case rel => exact ⟨_, (false), (zE _), H', ⟨by have := HJ1.out; have := HJ15.out; have := HJ22.out; have := HK4.out; have := HK5.out; first | omega | exact Nat.le_refl _⟩, ⟨by (with_reducible repeat (first | refine blk_drewN ?_ _ | refine blk_drew ?_ | refine blk_alloc ?_ _)); exact BK143.out⟩, ⟨zb _⟩⟩
               case rest =>
                clear HC45
                try clear c1
                try clear p1
                try clear q1
                try clear hx1
                try clear c2
                try clear p2
                try clear c3
                try clear c4
                try clear c6
                try clear p6
                try clear c8
                try clear c9
                try clear c9b0
                try clear c9b1
                try clear c12
                try clear c13
                try clear c14
                try clear p14
                try clear q14
                try clear hx14
                try clear c18
                try clear c18b0
                try clear c18b1
                try clear c22
                try clear c24
                try clear c24b0
                try clear c24b1
                try clear c26
                try clear c26b0
                try clear c26b1
                try clear c30
                try clear c31
                try clear c31b0
                try clear c32
                try clear c32b0
                try clear c33
                try clear c34
                try clear c35
                try clear c35b0
                try clear c35b1
                try clear c46
                try clear c46b0
                try clear hcz10_0
                try clear hcz10_1
                try clear hcz10_2
                try clear hcz10_3
                try clear hcz10_4
                try clear hcz10_5
                try clear hcz11_0
                try clear hcz11_1
                try clear hcz11_2
                try clear hcz11_3
                try clear hcz11_4
                try clear hcz11_5
                try clear hcz12_0
                try clear hcz12_1
                try clear hcz12_2
                try clear hcz12_3
                try clear hcz12_4
                try clear hcz12_5
                try clear hcz13_0
                try clear hcz13_1
                try clear hcz13_2
                try clear hcz13_3
                try clear hcz13_4
                try clear hcz13_5
                try clear hcz17_0
                try clear hcz17_1
                try clear hcz17_2
                try clear hcz17_3
                try clear hcz17_4
                try clear hcz17_5
                try clear hcz19_0
                try clear hcz19_1
                try clear hcz19_2
                try clear hcz19_3
                try clear hcz19_4
                try clear hcz19_5
                try clear hcz21_0
                try clear hcz21_1
                try clear hcz21_2
                try clear hcz21_3
                try clear hcz21_4
                try clear hcz21_5
                try clear hcz25_0
                try clear hcz25_1
                try clear hcz25_2
                try clear hcz25_3
                try clear hcz25_4
                try clear hcz25_5
                try clear hcz28_0
                try clear hcz28_1
                try clear hcz28_2
                try clear hcz28_3
                try clear hcz28_4
                try clear hcz28_5
                try clear hcz29_0
                try clear hcz29_1
                try clear hcz29_2
                try clear hcz29_3
                try clear hcz29_4
                try clear hcz29_5
                try clear hcz36_0
                try clear hcz36_1
                try clear hcz36_2
                try clear hcz36_3
                try clear hcz36_4
                try clear hcz36_5
                try clear hcz38_0
                try clear hcz38_1
                try clear hcz38_2
                try clear hcz38_3
                try clear hcz38_4
                try clear hcz38_5
                try clear hcz39_0
                try clear hcz39_1
                try clear hcz39_2
                try clear hcz39_3
                try clear hcz39_4
                try clear hcz39_5
                try clear hcz41_0
                try clear hcz41_1
                try clear hcz41_2
                try clear hcz41_3
                try clear hcz41_4
                try clear hcz41_5
                try clear hcz42_0
                try clear hcz42_1
                try clear hcz42_2
                try clear hcz42_3
                try clear hcz42_4
                try clear hcz42_5
                try clear hcz44_0
                try clear hcz44_1
                try clear hcz44_2
                try clear hcz44_3
                try clear hcz44_4
                try clear hcz44_5
                try clear hcz47_0
                try clear hcz47_1
                try clear hcz47_2
                try clear hcz47_3
                try clear hcz47_4
                try clear hcz47_5
                try clear hcz48_0
                try clear hcz48_1
                try clear hcz48_2
                try clear hcz48_3
                try clear hcz48_4
                try clear hcz48_5
                try clear hcz4_0
                try clear hcz4_1
                try clear hcz4_2
                try clear hcz4_3
                try clear hcz4_4
                try clear hcz4_5
                try clear hfz10_0
                try clear hfz10_1
                try clear hfz10_2
                try clear hfz10_3
                try clear hfz10_4
                try clear hfz10_5
                try clear hfz11_0
                try clear hfz11_1
                try clear hfz11_2
                try clear hfz11_3
                try clear hfz11_4
                try clear hfz11_5
                try clear hfz12_0
                try clear hfz12_1
                try clear hfz12_2
                try clear hfz12_3
                try clear hfz12_4
                try clear hfz12_5
                try clear hfz13_0
                try clear hfz13_1
                try clear hfz13_2
                try clear hfz13_3
                try clear hfz13_4
                try clear hfz13_5
                try clear hfz17_0
                try clear hfz17_1
                try clear hfz17_2
                try clear hfz17_3
                try clear hfz17_4
                try clear hfz17_5
                try clear hfz19_0
                try clear hfz19_1
                try clear hfz19_2
                try clear hfz19_3
                try clear hfz19_4
                try clear hfz19_5
                try clear hfz21_0
                try clear hfz21_1
                try clear hfz21_2
                try clear hfz21_3
                try clear hfz21_4
                try clear hfz21_5
                try clear hfz25_0
                try clear hfz25_1
                try clear hfz25_2
                try clear hfz25_3
                try clear hfz25_4
                try clear hfz25_5
                try clear hfz28_0
                try clear hfz28_1
                try clear hfz28_2
                try clear hfz28_3
                try clear hfz28_4
                try clear hfz28_5
                try clear hfz29_0
                try clear hfz29_1
                try clear hfz29_2
                try clear hfz29_3
                try clear hfz29_4
                try clear hfz29_5
                try clear hfz36_0
                try clear hfz36_1
                try clear hfz36_2
                try clear hfz36_3
                try clear hfz36_4
                try clear hfz36_5
                try clear hfz38_0
                try clear hfz38_1
                try clear hfz38_2
                try clear hfz38_3
                try clear hfz38_4
                try clear hfz38_5
                try clear hfz39_0
                try clear hfz39_1
                try clear hfz39_2
                try clear hfz39_3
                try clear hfz39_4
                try clear hfz39_5
                try clear hfz41_0
                try clear hfz41_1
                try clear hfz41_2
                try clear hfz41_3
                try clear hfz41_4
                try clear hfz41_5
                try clear hfz42_0
                try clear hfz42_1
                try clear hfz42_2
                try clear hfz42_3
                try clear hfz42_4
                try clear hfz42_5
                try clear hfz44_0
                try clear hfz44_1
                try clear hfz44_2
                try clear hfz44_3
                try clear hfz44_4
                try clear hfz44_5
                try clear hfz47_0
                try clear hfz47_1
                try clear hfz47_2
                try clear hfz47_3
                try clear hfz47_4
                try clear hfz47_5
                try clear hfz48_0
                try clear hfz48_1
                try clear hfz48_2
                try clear hfz48_3
                try clear hfz48_4
                try clear hfz48_5
                try clear hfz4_0
                try clear hfz4_1
                try clear hfz4_2
                try clear hfz4_3
                try clear hfz4_4
                try clear hfz4_5
                try clear hx149_0
                try clear hx149_1
                try clear hx149_2
                try clear p1
                try clear p14
                try clear p149
                try clear p2
                try clear p6
                try clear q1
                try clear q14
                try clear q149
                obtain ⟨kq, x90_44, rfl, HA, HJ44, BK143, HB⟩ := hcut
                cases kq with
                | zero => exact absurd HA.out (by simp [spec_SectionOk.j5])
                | succ kj44 =>
                 have H := HA.out
                 clear HA
                 simp only [spec_SectionOk.j5] at H
                 by_cases c49 : x90_44 = true
                 ·subst c49
                  rw [if_pos rfl] at H
                  by_cases c50 : 0 ≤ x6_5
                  ·rw [if_pos c50] at H
                   have c50b0 : decide (0 ≤ x6_5) = true := decide_eq_true c50
                   clear c50
                   by_cases c51 : x6_5 < (a0_4.size : Int)
                   ·rw [if_pos c51] at H
                    have c51b0 : decide (x6_5 < (a0_4.size : Int)) = true := decide_eq_true c51
                    clear c51
                    by_cases c53 : (bt a0_4 x6_5) = 0
                    ·rw [if_pos c53] at H
                     have c53b0 : ((bt a0_4 x6_5) == 0) = true := beq_iff_eq.mpr c53
                     have c53b1 : ((bt a0_4 x6_5) != 0) = false := bne_eq_false_iff_eq.mpr c53
                     clear c53
                     have H' := Aside0.mk H
                     clear H
                     have hcz54_0 := zc0 BK143
                     have hcz54_1 := zc1 BK143
                     have hcz54_2 := zc2 BK143
                     have hcz54_3 := zc3 BK143
                     have hcz54_4 := zc4 BK143
                     have hcz54_5 := zc5 BK143
                     have hfz54_0 := blk_frozen BK143.out 0
                     have hfz54_1 := blk_frozen BK143.out 1
                     have hfz54_2 := blk_frozen BK143.out 2
                     have hfz54_3 := blk_frozen BK143.out 3
                     have hfz54_4 := blk_frozen BK143.out 4
                     have hfz54_5 := blk_frozen BK143.out 5
                     have p52 : 0 ≤ (x6_5 : Int) := of_decide_eq_true (za _)
                     have q52 : x6_5 < (a0_4.size : Int) := of_decide_eq_true (za _)
                     have hx52 := bt_at a0_4 x6_5
                     replace p52 := eq_true p52
                     replace q52 := eq_true q52
                     go_wp2
                     go_roundg kj44
                     case measure => have := HJ1.out; have := HJ15.out; have := HJ22.out; have := HK4.out; have := HK5.out; have := HJ44.out; omega
                     case rel => exact ⟨(wrap64 (x6_5 + 1)), (zE _), H', ⟨by have := HJ1.out; have := HJ15.out; have := HJ22.out; have := HK4.out; have := HK5.out; have := HJ44.out; omega⟩, ⟨by (with_reducible repeat (first | refine blk_drewN ?_ _ | refine blk_drew ?_ | refine blk_alloc ?_ _)); exact BK143.out⟩, ⟨zb _⟩⟩
                    ·rw [if_neg c53] at H
                     have c53b0 : ((bt a0_4 x6_5) == 0) = false := beq_eq_false_iff_ne.mpr c53
                     have c53b1 : ((bt a0_4 x6_5) != 0) = true := bne_iff_ne.mpr c53
                     obtain rfl := Option.some.inj H
                     have hcz55_0 := zc0 BK143
                     have hcz55_1 := zc1 BK143
                     have hcz55_2 := zc2 BK143
                     have hcz55_3 := zc3 BK143
                     have hcz55_4 := zc4 BK143
                     have hcz55_5 := zc5 BK143
                     have hfz55_0 := blk_frozen BK143.out 0
                     have hfz55_1 := blk_frozen BK143.out 1
                     have hfz55_2 := blk_frozen BK143.out 2
                     have hfz55_3 := blk_frozen BK143.out 3
                     have hfz55_4 := blk_frozen BK143.out 4
                     have hfz55_5 := blk_frozen BK143.out 5
                     have p52 : 0 ≤ (x6_5 : Int) := of_decide_eq_true (za _)
                     have q52 : x6_5 < (a0_4.size : Int) := of_decide_eq_true (za _)
                     have hx52 := bt_at a0_4 x6_5
                     replace p52 := eq_true p52
                     replace q52 := eq_true q52
                     go_wp2
                     go_ret
                     exact ⟨ze _, zb _⟩
                   ·rw [if_neg c51] at H
                    exact absurd H (by simp)
                  ·rw [if_neg c50] at H
                   exact absurd H (by simp)
                 ·replace c49 := Bool.eq_false_iff.mpr c49
                  subst c49
                  rw [if_neg (show ¬ (false = true) by decide)] at H
                  obtain rfl := Option.some.inj H
                  go_wp2
                  go_ret
                  exact ⟨ze _, zb _⟩

theorem spec_SectionOk.geqS (a b : ByteArray) (W : World) : (binOp BinOp.geq 9 (.string a) (.string b)).run Try.prog W = .ok (.bool (!(Op.bytesLess a.toList b.toList))) W := by
 rw [show binOp BinOp.geq 9 (.string a) (.string b) = pure (.bool (!(Op.bytesLess a.toList b.toList))) from by simp [binOp, Op.stringOp]]
 rfl

end Go.Proofs.Ytbbngeooodcbcaa.PFnExactObjectOk
