/- What the Go functions that the law FnExactBusWrite reaches compute, function by function, and that Go comes to just that. -/
import Derived.Test.YtmgbdbamfljjnaaPFnExactBusWritex0
import Derived.Test.YtmgbdbamfljjnaaAidZ
import Derived.Test.YtmgbdbamfljjnaaPFnExactBusWritex6
import Derived.Test.YtmgbdbamfljjnaaPFnExactBusWritex7
namespace Go.Proofs.Ytmgbdbamfljjnaa.PFnExactBusWrite
open Go.RowKit Go.Proofs.Ytmgbdbamfljjnaa.Z Go.Proofs.YtmgbdbamfljjnaaW.PrintWords Go.Proofs.YtmgbdbamfljjnaaW.PrintLast Go.Proofs.YtmgbdbamfljjnaaW.PrintMore
attribute [local go_sem] max2_int min2_int max_two min_two max_three min_three max_four min_four   -- for this text's walks alone
set_option linter.unusedVariables false
set_option linter.unusedSimpArgs false

/-! ### impl_MachineOk: function 10 -/
def impl_MachineOk.l0 : Nat → List Int → Int → Int → Int → Int → Int → Int → Int → Int → Int → Int → Int → Int → Bool → Bool → ByteArray → Int → Int → ByteArray → Int → Bool → Int → ByteArray → ByteArray → List Int → Int → Int → Int → Int → Int → Int → Int → Int → Int → Int → Int → Bool → Bool → Option (Bool)
  | 0, _, _, _, _, _, _, _, _, _, _, _, _, _, _, _, _, _, _, _, _, _, _, _, _, _, _, _, _, _, _, _, _, _, _, _, _, _, _ => none
  | k + 1, x24, x25, x26, x278000, x278001, x278002, x278003, x278004, x278005, x278006, x278007, x278008, x278009, x278010, x278011, x278012, x278013, x278014, x278015, x278016, x278017, x278018, x278019, x278020, x278021, x278022, x279000, x279001, x279002, x279003, x279004, x279005, x279006, x279007, x279008, x279009, x279010, x279011 => if x26 < x25 then (if 0 ≤ x26 then (if x26 < (x24.length : Int) then ((impl_isByte.f (rd x24 x26)).bind fun t283 => (if t283 = true then (impl_MachineOk.l0 k x24 x25 (wrap64 (x26 + 1)) x278000 x278001 x278002 x278003 x278004 x278005 x278006 x278007 x278008 x278009 x278010 x278011 x278012 x278013 x278014 x278015 x278016 x278017 x278018 x278019 x278020 x278021 x278022 x279000 x279001 x279002 x279003 x279004 x279005 x279006 x279007 x279008 x279009 x279010 x279011) else (some false))) else (none)) else (none)) else ((slices_ContainsFunc_int64_int64.f x278021 ()).bind fun t284 => (if t284 = true then (some false) else (if (Int.tmod x279001 16) = 0 then ((impl_isWord.f x279008).bind fun t285 => (if t285 = true then ((impl_isWord.f x279009).bind fun t286 => (if t286 = true then ((impl_CartOk.f k x278012 x278013 x278014 x278015 x278016 x278017 x278018).bind fun t287 => (if t287 = true then (if (x278019.size : Int) = 256 then (if (x278020.size : Int) = 127 then (if (x278021.length : Int) ≤ 100 then ((impl_within.f x278022 0 1000000000).bind fun t288 => (some t288)) else (some false)) else (some false)) else (some false)) else (some false))) else (some false))) else (some false))) else (some false))))
def impl_MachineOk.f (k : Nat) (a0_0 : Int) (a0_1 : Int) (a0_2 : Int) (a0_3 : Int) (a0_4 : Int) (a0_5 : Int) (a0_6 : Int) (a0_7 : Int) (a0_8 : Int) (a0_9 : Int) (a0_10 : Bool) (a0_11 : Bool) (a0_12 : ByteArray) (a0_13 : Int) (a0_14 : Int) (a0_15 : ByteArray) (a0_16 : Int) (a0_17 : Bool) (a0_18 : Int) (a0_19 : ByteArray) (a0_20 : ByteArray) (l0_21 : List Int) (a0_22 : Int) : Option (Bool) := (some (([a0_0, a0_1, a0_2, a0_3, a0_4, a0_5, a0_6, a0_7] : List Int) : List Int)).bind fun y279 => (impl_MachineOk.l0 k y279 (y279.length : Int) 0 a0_0 a0_1 a0_2 a0_3 a0_4 a0_5 a0_6 a0_7 a0_8 a0_9 a0_10 a0_11 a0_12 a0_13 a0_14 a0_15 a0_16 a0_17 a0_18 a0_19 a0_20 l0_21 a0_22 a0_0 a0_1 a0_2 a0_3 a0_4 a0_5 a0_6 a0_7 a0_8 a0_9 a0_10 a0_11)
theorem impl_MachineOk.mono_l : ∀ k, (∀ y0 y1 y2 y3 y4 y5 y6 y7 y8 y9 y10 y11 y12 y13 y14 y15 y16 y17 y18 y19 y20 y21 y22 y23 y24 y25 y26 y27 y28 y29 y30 y31 y32 y33 y34 y35 y36 y37, LeO (impl_MachineOk.l0 k y0 y1 y2 y3 y4 y5 y6 y7 y8 y9 y10 y11 y12 y13 y14 y15 y16 y17 y18 y19 y20 y21 y22 y23 y24 y25 y26 y27 y28 y29 y30 y31 y32 y33 y34 y35 y36 y37) (impl_MachineOk.l0 (k + 1) y0 y1 y2 y3 y4 y5 y6 y7 y8 y9 y10 y11 y12 y13 y14 y15 y16 y17 y18 y19 y20 y21 y22 y23 y24 y25 y26 y27 y28 y29 y30 y31 y32 y33 y34 y35 y36 y37))
  | 0 => fun _ _ _ _ _ _ _ _ _ _ _ _ _ _ _ _ _ _ _ _ _ _ _ _ _ _ _ _ _ _ _ _ _ _ _ _ _ _ r h => by simp [impl_MachineOk.l0] at h
  | k + 1 => by
    have ih0 := impl_MachineOk.mono_l k
    · intro y0 y1 y2 y3 y4 y5 y6 y7 y8 y9 y10 y11 y12 y13 y14 y15 y16 y17 y18 y19 y20 y21 y22 y23 y24 y25 y26 y27 y28 y29 y30 y31 y32 y33 y34 y35 y36 y37
      unfold impl_MachineOk.l0
      repeat' first
      | (with_reducible exact ih0 _ _ _ _ _ _ _ _ _ _ _ _ _ _ _ _ _ _ _ _ _ _ _ _ _ _ _ _ _ _ _ _ _ _ _ _ _ _)
      | (with_reducible exact impl_CartOk.mono _ _ _ _ _ _ _ _)
      | (with_reducible exact LeO.refl _)
      | (with_reducible exact LeO.none _)
      | (with_reducible refine LeO.ite ?_ ?_)
      | (with_reducible refine LeO.bind ?_ (fun _ => ?_))
      | exact ih0 _ _ _ _ _ _ _ _ _ _ _ _ _ _ _ _ _ _ _ _ _ _ _ _ _ _ _ _ _ _ _ _ _ _ _ _ _ _
      | exact impl_CartOk.mono _ _ _ _ _ _ _ _
      | exact LeO.none _
      | refine LeO.ite ?_ ?_
      | refine LeO.bind ?_ (fun _ => ?_)
theorem impl_MachineOk.mono : ∀ a0 a1 a2 a3 a4 a5 a6 a7 a8 a9 a10 a11 a12 a13 a14 a15 a16 a17 a18 a19 a20 a21 a22 k, LeO (impl_MachineOk.f k a0 a1 a2 a3 a4 a5 a6 a7 a8 a9 a10 a11 a12 a13 a14 a15 a16 a17 a18 a19 a20 a21 a22) (impl_MachineOk.f (k + 1) a0 a1 a2 a3 a4 a5 a6 a7 a8 a9 a10 a11 a12 a13 a14 a15 a16 a17 a18 a19 a20 a21 a22) := by
  intro a0 a1 a2 a3 a4 a5 a6 a7 a8 a9 a10 a11 a12 a13 a14 a15 a16 a17 a18 a19 a20 a21 a22 k
  have ih0 := impl_MachineOk.mono_l k
  unfold impl_MachineOk.f
  repeat' first
      | (with_reducible exact ih0 _ _ _ _ _ _ _ _ _ _ _ _ _ _ _ _ _ _ _ _ _ _ _ _ _ _ _ _ _ _ _ _ _ _ _ _ _ _)
      | (with_reducible exact impl_CartOk.mono _ _ _ _ _ _ _ _)
      | (with_reducible exact LeO.refl _)
      | (with_reducible exact LeO.none _)
      | (with_reducible refine LeO.ite ?_ ?_)
      | (with_reducible refine LeO.bind ?_ (fun _ => ?_))
      | exact ih0 _ _ _ _ _ _ _ _ _ _ _ _ _ _ _ _ _ _ _ _ _ _ _ _ _ _ _ _ _ _ _ _ _ _ _ _ _ _
      | exact impl_CartOk.mono _ _ _ _ _ _ _ _
      | exact LeO.none _
      | refine LeO.ite ?_ ?_
      | refine LeO.bind ?_ (fun _ => ?_)
open Go.Proofs.Ytmgbdbamfljjnaa.Aid in
set_option maxHeartbeats 8000000 in
set_option maxRecDepth 100000 in
theorem impl_MachineOk.calls (k : Nat) (a0_0 : Int) (a0_1 : Int) (a0_2 : Int) (a0_3 : Int) (a0_4 : Int) (a0_5 : Int) (a0_6 : Int) (a0_7 : Int) (a0_8 : Int) (a0_9 : Int) (a0_10 : Bool) (a0_11 : Bool) (a0_12 : ByteArray) (a0_13 : Int) (a0_14 : Int) (a0_15 : ByteArray) (a0_16 : Int) (a0_17 : Bool) (a0_18 : Int) (a0_19 : ByteArray) (a0_20 : ByteArray) (A0_21 : Option Addr) (c0_21 : Nat) (l0_21 : List Int) (a0_22 : Int) (r : Bool) (w : World) (hr0_21 : Kd.C (Kd.int .i64) w A0_21 l0_21.length l0_21) (hc0_21 : l0_21.length ≤ c0_21) (h : impl_MachineOk.f k a0_0 a0_1 a0_2 a0_3 a0_4 a0_5 a0_6 a0_7 a0_8 a0_9 a0_10 a0_11 a0_12 a0_13 a0_14 a0_15 a0_16 a0_17 a0_18 a0_19 a0_20 l0_21 a0_22 = some r) :
 Calls Try.prog 10 #[.agg #[.int .i64 a0_0, .int .i64 a0_1, .int .i64 a0_2, .int .i64 a0_3, .int .i64 a0_4, .int .i64 a0_5, .int .i64 a0_6, .int .i64 a0_7, .int .i64 a0_8, .int .i64 a0_9, .bool a0_10, .bool a0_11, .string a0_12, .int .i64 a0_13, .int .i64 a0_14, .string a0_15, .int .i64 a0_16, .bool a0_17, .int .i64 a0_18, .string a0_19, .string a0_20, .slice A0_21 l0_21.length c0_21, .int .i64 a0_22]] w fun e w' => e = .returned (.bool r) ∧ Below w.heap.size w w' := by
 have hu34 := Try.underlying34
 have hu31 := Try.underlying31
 have hu32 := Try.underlying32
 have HR0_21 := Aside0.mk hr0_21
 have HC0_21 := Aside0.mk hc0_21
 clear hr0_21 hc0_21
 have HB := Aside0.mk (Below.refl w.heap.size w)
 have H : ((some (([a0_0, a0_1, a0_2, a0_3, a0_4, a0_5, a0_6, a0_7] : List Int) : List Int)).bind fun y279 => (impl_MachineOk.l0 k y279 (y279.length : Int) 0 a0_0 a0_1 a0_2 a0_3 a0_4 a0_5 a0_6 a0_7 a0_8 a0_9 a0_10 a0_11 a0_12 a0_13 a0_14 a0_15 a0_16 a0_17 a0_18 a0_19 a0_20 l0_21 a0_22 a0_0 a0_1 a0_2 a0_3 a0_4 a0_5 a0_6 a0_7 a0_8 a0_9 a0_10 a0_11)) = some r := h
 clear h
 obtain ⟨y279, hy279⟩ : ∃ y_ : List Int, y_ = (([a0_0, a0_1, a0_2, a0_3, a0_4, a0_5, a0_6, a0_7] : List Int)) := ⟨_, rfl⟩
 replace H : (impl_MachineOk.l0 k y279 (y279.length : Int) 0 a0_0 a0_1 a0_2 a0_3 a0_4 a0_5 a0_6 a0_7 a0_8 a0_9 a0_10 a0_11 a0_12 a0_13 a0_14 a0_15 a0_16 a0_17 a0_18 a0_19 a0_20 l0_21 a0_22 a0_0 a0_1 a0_2 a0_3 a0_4 a0_5 a0_6 a0_7 a0_8 a0_9 a0_10 a0_11) = some r := by first | (rw [hy279]; with_reducible exact H) | (have H2_ := (Option.bind_some _ _).symm.trans H; rw [hy279]; with_reducible exact H2_) | (have H2_ := (Option.bind_some _ _).symm.trans H; with_reducible exact H2_) | with_reducible exact H | (rw [hy279]; exact H) | exact H
 have Ny279 := Aside0.mk hy279
 clear hy279
 have H' := Aside0.mk H
 clear H
 go_enter Try.func10, Try.ntmps10
 go_wp2_with (first | ((with_reducible refine gate_dst (N := 1) rfl ?_); (try (refine gate_guard (by rfl) ?_; dsimp only)); refine box_event ?hg (N := 1) ?hd (cs := #[.int .i64 a0_0, .int .i64 a0_1, .int .i64 a0_2, .int .i64 a0_3, .int .i64 a0_4, .int .i64 a0_5, .int .i64 a0_6, .int .i64 a0_7, .int .i64 a0_8, .int .i64 a0_9, .bool a0_10, .bool a0_11, .string a0_12, .int .i64 a0_13, .int .i64 a0_14, .string a0_15, .int .i64 a0_16, .bool a0_17, .int .i64 a0_18, .string a0_19, .string a0_20, .slice A0_21 l0_21.length c0_21, .int .i64 a0_22]) (t := 34) ?hr ?_; (case hd => rfl); (case hg => rfl); (case hr => first | (go_simp; done) | (go_simp; rfl)); intro gb277 hg w2 hbox hb; have BK277 := Aside0.mk (hbox); have GW277 := zs w hg; have GE277 := GW277; replace HB := zt w hb; clear hb hbox hg; have hZ3_ := cells_all BK277.out; simp only [allCells, Nat.zero_add, Nat.reduceAdd] at hZ3_; obtain ⟨hcz3_0, hfz3_0, hcz3_1, hfz3_1, hcz3_2, hfz3_2, hcz3_3, hfz3_3, hcz3_4, hfz3_4, hcz3_5, hfz3_5, hcz3_6, hfz3_6, hcz3_7, hfz3_7, hcz3_8, hfz3_8, hcz3_9, hfz3_9, hcz3_10, hfz3_10, hcz3_11, hfz3_11, hcz3_12, hfz3_12, hcz3_13, hfz3_13, hcz3_14, hfz3_14, hcz3_15, hfz3_15, hcz3_16, hfz3_16, hcz3_17, hfz3_17, hcz3_18, hfz3_18, hcz3_19, hfz3_19, hcz3_20, hfz3_20, hcz3_21, hfz3_21, hcz3_22, hfz3_22, _⟩ := hZ3_) | ((with_reducible refine gate_dst (N := 3) rfl ?_); (try (refine gate_guard (by rfl) ?_; dsimp only)); refine box_event ?hg (N := 3) ?hd (cs := #[.int .i64 0, .int .i64 0, .int .i64 0, .int .i64 0, .int .i64 0, .int .i64 0, .int .i64 0, .int .i64 0, .int .i64 0, .int .i64 0, .bool false, .bool false]) (t := 31) ?hr ?_; (case hd => rfl); (case hg => rfl); (case hr => first | (go_simp; done) | (go_simp; rfl)); intro gb278 hg w4 hbox hb; have BK278 := Aside0.mk (hbox); have GW278 := zs w hg; have GE278 := GW278; have NB277_278 := zlt BK277 hg; have NB278_277 := zgt (zlt BK277 hg); replace BK277 := zk BK277 hb; replace HB := zt w hb; clear hb hbox hg; have hnb5 := NB278_277.out; have hnc5 := NB277_278.out; have hZ6_ := cells_all BK278.out; simp only [allCells, Nat.zero_add, Nat.reduceAdd] at hZ6_; obtain ⟨hcz6_0, hfz6_0, hcz6_1, hfz6_1, hcz6_2, hfz6_2, hcz6_3, hfz6_3, hcz6_4, hfz6_4, hcz6_5, hfz6_5, hcz6_6, hfz6_6, hcz6_7, hfz6_7, hcz6_8, hfz6_8, hcz6_9, hfz6_9, hcz6_10, hfz6_10, hcz6_11, hfz6_11, _⟩ := hZ6_) | ((with_reducible refine gate_dst (N := 24) rfl ?_); (try (refine gate_guard (by rfl) ?_; dsimp only)); refine Kd.R_lit (Kd.int .i64) _ 2 ?hg (N := 24) ?hd (xs := ([a0_0, a0_1, a0_2, a0_3, a0_4, a0_5, a0_6, a0_7] : List Int)) (inner := [.int .i64 a0_0, .int .i64 a0_1, .int .i64 a0_2, .int .i64 a0_3, .int .i64 a0_4, .int .i64 a0_5, .int .i64 a0_6, .int .i64 a0_7]) (ok := fun _ => True) (okp := fun _ => True) ?hr ?hp (fun _ hk => hk) trivial (Below.refl _ _) (Nat.le_refl _) (by simp) ?_; (case hd => rfl); (case hg => rfl); (case hr => first | (go_simp; done) | (go_simp; rfl)); (case hp => exact (Reps.one (show Kd.M (Kd.int .i64) _ _ _ a0_0 [.int .i64 a0_0] from rfl) (Reps.one (show Kd.M (Kd.int .i64) _ _ _ a0_1 [.int .i64 a0_1] from rfl) (Reps.one (show Kd.M (Kd.int .i64) _ _ _ a0_2 [.int .i64 a0_2] from rfl) (Reps.one (show Kd.M (Kd.int .i64) _ _ _ a0_3 [.int .i64 a0_3] from rfl) (Reps.one (show Kd.M (Kd.int .i64) _ _ _ a0_4 [.int .i64 a0_4] from rfl) (Reps.one (show Kd.M (Kd.int .i64) _ _ _ a0_5 [.int .i64 a0_5] from rfl) (Reps.one (show Kd.M (Kd.int .i64) _ _ _ a0_6 [.int .i64 a0_6] from rfl) (Reps.one (show Kd.M (Kd.int .i64) _ _ _ a0_7 [.int .i64 a0_7] from rfl) (Reps.none _ _)))))))))); intro v280 w7 ho8 hb hg_ hnew_; clear hg_ hnew_; (first | rw [← Ny279.out] at ho8 | (simp only [Int.reduceToNat] at ho8; rw [← Ny279.out] at ho8)); have HO281 := Aside0.mk (Kd.R_lower ho8 (below_size (zb _))); replace BK277 := zkw (g := gb277) (o := .cells #[.int .i64 a0_0, .int .i64 a0_1, .int .i64 a0_2, .int .i64 a0_3, .int .i64 a0_4, .int .i64 a0_5, .int .i64 a0_6, .int .i64 a0_7, .int .i64 a0_8, .int .i64 a0_9, .bool a0_10, .bool a0_11, .string a0_12, .int .i64 a0_13, .int .i64 a0_14, .string a0_15, .int .i64 a0_16, .bool a0_17, .int .i64 a0_18, .string a0_19, .string a0_20, .slice A0_21 l0_21.length c0_21, .int .i64 a0_22] 34 (0, 0)) hb; replace BK278 := zkw (g := gb278) (o := .cells #[.int .i64 a0_0, .int .i64 a0_1, .int .i64 a0_2, .int .i64 a0_3, .int .i64 a0_4, .int .i64 a0_5, .int .i64 a0_6, .int .i64 a0_7, .int .i64 a0_8, .int .i64 a0_9, .bool a0_10, .bool a0_11] 31 (0, 0)) hb; replace HB := zt w hb; clear hb ho8; obtain ⟨Ao9, co9, eo9⟩ := Kd.R_slice HO281.out; subst eo9))
 go_loopg [26] k (fun kq v26 w' => ∃ (x26_1 : Int), v26 = .int .i64 x26_1 ∧ Aside0 (impl_MachineOk.l0 kq y279 (y279.length : Int) x26_1 a0_0 a0_1 a0_2 a0_3 a0_4 a0_5 a0_6 a0_7 a0_8 a0_9 a0_10 a0_11 a0_12 a0_13 a0_14 a0_15 a0_16 a0_17 a0_18 a0_19 a0_20 l0_21 a0_22 a0_0 a0_1 a0_2 a0_3 a0_4 a0_5 a0_6 a0_7 a0_8 a0_9 a0_10 a0_11 = some r) ∧ Aside0 (kq ≤ k) ∧ Aside0 (Kd.R (Kd.int .i64) 2 w' w.heap.size (fun _ => True) (.slice Ao9 y279.length co9) y279) ∧ Aside0 (w'.heap[gb277]? = some (.cells #[.int .i64 a0_0, .int .i64 a0_1, .int .i64 a0_2, .int .i64 a0_3, .int .i64 a0_4, .int .i64 a0_5, .int .i64 a0_6, .int .i64 a0_7, .int .i64 a0_8, .int .i64 a0_9, .bool a0_10, .bool a0_11, .string a0_12, .int .i64 a0_13, .int .i64 a0_14, .string a0_15, .int .i64 a0_16, .bool a0_17, .int .i64 a0_18, .string a0_19, .string a0_20, (.slice A0_21 l0_21.length c0_21), .int .i64 a0_22] 34 (0, 0))) ∧ Aside0 (w'.heap[gb278]? = some (.cells #[.int .i64 a0_0, .int .i64 a0_1, .int .i64 a0_2, .int .i64 a0_3, .int .i64 a0_4, .int .i64 a0_5, .int .i64 a0_6, .int .i64 a0_7, .int .i64 a0_8, .int .i64 a0_9, .bool a0_10, .bool a0_11] 31 (0, 0))) ∧ Aside0 (Below w.heap.size w w'))
 case atStart => exact ⟨(0), (zE _), H', ⟨Nat.le_refl _⟩, ⟨by (with_reducible repeat (first | apply Kd.R_alloc | apply Kd.R_drewN | apply Kd.R_drew)); exact HO281.out⟩, ⟨by (with_reducible repeat (first | refine blk_drewN ?_ _ | refine blk_drew ?_ | refine blk_alloc ?_ _)); exact BK277.out⟩, ⟨by (with_reducible repeat (first | refine blk_drewN ?_ _ | refine blk_drew ?_ | refine blk_alloc ?_ _)); exact BK278.out⟩, ⟨zb _⟩⟩
 case round =>
  clear H'
  try clear c1
  try clear p2
  try clear c5
  try clear hcz3_0
  try clear hcz3_1
  try clear hcz3_10
  try clear hcz3_11
  try clear hcz3_12
  try clear hcz3_13
  try clear hcz3_14
  try clear hcz3_15
  try clear hcz3_16
  try clear hcz3_17
  try clear hcz3_18
  try clear hcz3_19
  try clear hcz3_2
  try clear hcz3_20
  try clear hcz3_21
  try clear hcz3_22
  try clear hcz3_3
  try clear hcz3_4
  try clear hcz3_5
  try clear hcz3_6
  try clear hcz3_7
  try clear hcz3_8
  try clear hcz3_9
  try clear hcz6_0
  try clear hcz6_1
  try clear hcz6_10
  try clear hcz6_11
  try clear hcz6_2
  try clear hcz6_3
  try clear hcz6_4
  try clear hcz6_5
  try clear hcz6_6
  try clear hcz6_7
  try clear hcz6_8
  try clear hcz6_9
  try clear hfz3_0
  try clear hfz3_1
  try clear hfz3_10
  try clear hfz3_11
  try clear hfz3_12
  try clear hfz3_13
  try clear hfz3_14
  try clear hfz3_15
  try clear hfz3_16
  try clear hfz3_17
  try clear hfz3_18
  try clear hfz3_19
  try clear hfz3_2
  try clear hfz3_20
  try clear hfz3_21
  try clear hfz3_22
  try clear hfz3_3
  try clear hfz3_4
  try clear hfz3_5
  try clear hfz3_6
  try clear hfz3_7
  try clear hfz3_8
  try clear hfz3_9
  try clear hfz6_0
  try clear hfz6_1
  try clear hfz6_10
  try clear hfz6_11
  try clear hfz6_2
  try clear hfz6_3
  try clear hfz6_4
  try clear hfz6_5
  try clear hfz6_6
  try clear hfz6_7
  try clear hfz6_8
  try clear hfz6_9
  obtain ⟨x26_1, rfl, HA, HK1, HO_24, BK277, BK278, HB⟩ := hrel
  cases gk with
  | zero => exact absurd HA.out (by simp [impl_MachineOk.l0])
  | succ k1 =>
   have H := HA.out
   clear HA
   simp only [impl_MachineOk.l0] at H
   by_cases c10 : x26_1 < (y279.length : Int)
   ·rw [if_pos c10] at H
    have c10b0 : decide (x26_1 < (y279.length : Int)) = true := decide_eq_true c10
    clear c10
    by_cases c11 : 0 ≤ x26_1
    ·rw [if_pos c11] at H
     have c11b0 : decide (0 ≤ x26_1) = true := decide_eq_true c11
     clear c11
     by_cases c12 : x26_1 < (y279.length : Int)
     ·rw [if_pos c12] at H
      have c12b0 : decide (x26_1 < (y279.length : Int)) = true := decide_eq_true c12
      clear c12
      obtain ⟨t283, A130, H⟩ := Option.bind_eq_some_iff.mp H
      have A13 := Aside0.mk A130
      clear A130
      by_cases c14 : t283 = true
      ·subst c14
       rw [if_pos rfl] at H
       have H' := Aside0.mk H
       clear H
       have p282 : 0 ≤ (x26_1 : Int) := of_decide_eq_true (za _)
       have q282 : x26_1 < (y279.length : Int) := of_decide_eq_true (za _)
       obtain ⟨ad282, e282, hx282_0⟩ := Kd.at_int (Kd.R_reads' HO_24.out).2.2 x26_1 p282 q282
       cases e282
       replace p282 := eq_true p282
       replace q282 := eq_true q282
       go_wp2_with (first | ((with_reducible refine gate_callee (f := 29) rfl ?_); refine zc (some 31) Try.func29 #[.int .i64 (rd y279 x26_1)] ?_; (with_reducible refine (impl_isByte.calls (rd y279 x26_1) true _ A13.out).mono ?_); rintro e w' ⟨rfl, ⟨nd, rfl⟩⟩; refine ⟨_, rfl, ?_⟩))
       go_roundg k1
       case measure => have := HK1.out; omega
       case rel => exact ⟨(wrap64 (x26_1 + 1)), (zE _), H', ⟨by have := HK1.out; omega⟩, ⟨by (with_reducible repeat (first | apply Kd.R_alloc | apply Kd.R_drewN | apply Kd.R_drew)); exact HO_24.out⟩, ⟨by (with_reducible repeat (first | refine blk_drewN ?_ _ | refine blk_drew ?_ | refine blk_alloc ?_ _)); exact BK277.out⟩, ⟨by (with_reducible repeat (first | refine blk_drewN ?_ _ | refine blk_drew ?_ | refine blk_alloc ?_ _)); exact BK278.out⟩, ⟨zb _⟩⟩
      ·replace c14 := Bool.eq_false_iff.mpr c14
       subst c14
       rw [if_neg (show ¬ (false = true) by decide)] at H
       obtain rfl := Option.some.inj H
       have p282 : 0 ≤ (x26_1 : Int) := of_decide_eq_true (za _)
       have q282 : x26_1 < (y279.length : Int) := of_decide_eq_true (za _)
       obtain ⟨ad282, e282, hx282_0⟩ := Kd.at_int (Kd.R_reads' HO_24.out).2.2 x26_1 p282 q282
       cases e282
       replace p282 := eq_true p282
       replace q282 := eq_true q282
       go_wp2_with (first | ((with_reducible refine gate_callee (f := 29) rfl ?_); refine zc (some 31) Try.func29 #[.int .i64 (rd y279 x26_1)] ?_; (with_reducible refine (impl_isByte.calls (rd y279 x26_1) false _ A13.out).mono ?_); rintro e w' ⟨rfl, ⟨nd, rfl⟩⟩; refine ⟨_, rfl, ?_⟩))
       go_ret
       exact ⟨ze _, zb _⟩
     ·rw [if_neg c12] at H
      exact absurd H (by simp)
    ·rw [if_neg c11] at H
     exact absurd H (by simp)
   ·rw [if_neg c10] at H
    have c10b0 : decide (x26_1 < (y279.length : Int)) = false := decide_eq_false c10
    clear c10
    obtain ⟨t284, A150, H⟩ := Option.bind_eq_some_iff.mp H
    have A15 := Aside0.mk A150
    clear A150
    by_cases c16 : t284 = true
    ·subst c16
     rw [if_pos rfl] at H
     obtain rfl := Option.some.inj H
     have hnb17 := NB277_278.out
     have hnc17 := NB278_277.out
     have hcz18_0 := zc0 BK277
     have hcz18_1 := zc1 BK277
     have hcz18_2 := zc2 BK277
     have hcz18_3 := zc3 BK277
     have hcz18_4 := zc4 BK277
     have hcz18_5 := zc5 BK277
     have hcz18_6 := zc6 BK277
     have hcz18_7 := zc7 BK277
     have hcz18_8 := zc8 BK277
     have hcz18_9 := zc9 BK277
     have hcz18_10 := zc10 BK277
     have hcz18_11 := zc11 BK277
     have hcz18_12 := zc12 BK277
     have hcz18_13 := zc13 BK277
     have hcz18_14 := zc14 BK277
     have hcz18_15 := zc15 BK277
     have hcz18_16 := zc16 BK277
     have hcz18_17 := zc17 BK277
     have hcz18_18 := zc18 BK277
     have hcz18_19 := zc19 BK277
     have hcz18_20 := zc20 BK277
     have hcz18_21 := zc21 BK277
     have hcz18_22 := zc22 BK277
     have hfz18_0 := blk_frozen BK277.out 0
     have hfz18_1 := blk_frozen BK277.out 1
     have hfz18_2 := blk_frozen BK277.out 2
     have hfz18_3 := blk_frozen BK277.out 3
     have hfz18_4 := blk_frozen BK277.out 4
     have hfz18_5 := blk_frozen BK277.out 5
     have hfz18_6 := blk_frozen BK277.out 6
     have hfz18_7 := blk_frozen BK277.out 7
     have hfz18_8 := blk_frozen BK277.out 8
     have hfz18_9 := blk_frozen BK277.out 9
     have hfz18_10 := blk_frozen BK277.out 10
     have hfz18_11 := blk_frozen BK277.out 11
     have hfz18_12 := blk_frozen BK277.out 12
     have hfz18_13 := blk_frozen BK277.out 13
     have hfz18_14 := blk_frozen BK277.out 14
     have hfz18_15 := blk_frozen BK277.out 15
     have hfz18_16 := blk_frozen BK277.out 16
     have hfz18_17 := blk_frozen BK277.out 17
     have hfz18_18 := blk_frozen BK277.out 18
     have hfz18_19 := blk_frozen BK277.out 19
     have hfz18_20 := blk_frozen BK277.out 20
     have hfz18_21 := blk_frozen BK277.out 21
     have hfz18_22 := blk_frozen BK277.out 22
     go_wp2_with (first | ((with_reducible refine gate_callee (f := 30) rfl ?_); refine zc (some 36) Try.func30 #[.slice A0_21 l0_21.length c0_21, .func (.func 31) #[] #[]] ?_; (with_reducible refine (slices_ContainsFunc_int64_int64.calls _ _ l0_21 () true _ ?side1 ?side2 A15.out).mono ?_); (case side1 => repeat (first | exact (Kd.C_below HR0_21.out HB.out) | (with_reducible refine Kd.C_alloc ?_ _) | (with_reducible refine Kd.C_drewN ?_ _) | (with_reducible refine Kd.C_drew ?_))); (case side2 => exact HC0_21.out); rintro e w' ⟨rfl, ⟨nd, rfl⟩⟩; refine ⟨_, rfl, ?_⟩))
     go_ret
     exact ⟨ze _, zb _⟩
    ·replace c16 := Bool.eq_false_iff.mpr c16
     subst c16
     rw [if_neg (show ¬ (false = true) by decide)] at H
     by_cases c19 : (Int.tmod a0_1 16) = 0
     ·rw [if_pos c19] at H
      have c19b0 : ((Int.tmod a0_1 16) == 0) = true := beq_iff_eq.mpr c19
      have c19b1 : ((Int.tmod a0_1 16) != 0) = false := bne_eq_false_iff_eq.mpr c19
      clear c19
      obtain ⟨t285, A200, H⟩ := Option.bind_eq_some_iff.mp H
      have A20 := Aside0.mk A200
      clear A200
      by_cases c21 : t285 = true
      ·subst c21
       rw [if_pos rfl] at H
       obtain ⟨t286, A220, H⟩ := Option.bind_eq_some_iff.mp H
       have A22 := Aside0.mk A220
       clear A220
       by_cases c23 : t286 = true
       ·subst c23
        rw [if_pos rfl] at H
        obtain ⟨t287, A240, H⟩ := Option.bind_eq_some_iff.mp H
        have A24 := Aside0.mk A240
        clear A240
        by_cases c25 : t287 = true
        ·subst c25
         rw [if_pos rfl] at H
         by_cases c26 : (a0_19.size : Int) = 256
         ·rw [if_pos c26] at H
          have c26b0 : ((a0_19.size : Int) == 256) = true := beq_iff_eq.mpr c26
          have c26b1 : ((a0_19.size : Int) != 256) = false := bne_eq_false_iff_eq.mpr c26
          clear c26
          by_cases c27 : (a0_20.size : Int) = 127
          ·rw [if_pos c27] at H
           have c27b0 : ((a0_20.size : Int) == 127) = true := beq_iff_eq.mpr c27
           have c27b1 : ((a0_20.size : Int) != 127) = false := bne_eq_false_iff_eq.mpr c27
           clear c27
           by_cases c28 : (l0_21.length : Int) ≤ 100
           ·rw [if_pos c28] at H
            have c28b0 : decide ((l0_21.length : Int) ≤ 100) = true := decide_eq_true c28
            have c28b1 : decide (l0_21.length ≤ 100) = true := decide_eq_true (by omega)
            clear c28
            obtain ⟨t288, A290, H⟩ := Option.bind_eq_some_iff.mp H
            have A29 := Aside0.mk A290
            clear A290
            obtain rfl := Option.some.inj H
            have hnb30 := NB277_278.out
            have hnc30 := NB278_277.out
            have hcz31_0 := zc0 BK277
            have hcz31_1 := zc1 BK277
            have hcz31_2 := zc2 BK277
            have hcz31_3 := zc3 BK277
            have hcz31_4 := zc4 BK277
            have hcz31_5 := zc5 BK277
            have hcz31_6 := zc6 BK277
            have hcz31_7 := zc7 BK277
            have hcz31_8 := zc8 BK277
            have hcz31_9 := zc9 BK277
            have hcz31_10 := zc10 BK277
            have hcz31_11 := zc11 BK277
            have hcz31_12 := zc12 BK277
            have hcz31_13 := zc13 BK277
            have hcz31_14 := zc14 BK277
            have hcz31_15 := zc15 BK277
            have hcz31_16 := zc16 BK277
            have hcz31_17 := zc17 BK277
            have hcz31_18 := zc18 BK277
            have hcz31_19 := zc19 BK277
            have hcz31_20 := zc20 BK277
            have hcz31_21 := zc21 BK277
            have hcz31_22 := zc22 BK277
            have hfz31_0 := blk_frozen BK277.out 0
            have hfz31_1 := blk_frozen BK277.out 1
            have hfz31_2 := blk_frozen BK277.out 2
            have hfz31_3 := blk_frozen BK277.out 3
            have hfz31_4 := blk_frozen BK277.out 4
            have hfz31_5 := blk_frozen BK277.out 5
            have hfz31_6 := blk_frozen BK277.out 6
            have hfz31_7 := blk_frozen BK277.out 7
            have hfz31_8 := blk_frozen BK277.out 8
            have hfz31_9 := blk_frozen BK277.out 9
            have hfz31_10 := blk_frozen BK277.out 10
            have hfz31_11 := blk_frozen BK277.out 11
            have hfz31_12 := blk_frozen BK277.out 12
            have hfz31_13 := blk_frozen BK277.out 13
            have hfz31_14 := blk_frozen BK277.out 14
            have hfz31_15 := blk_frozen BK277.out 15
            have hfz31_16 := blk_frozen BK277.out 16
            have hfz31_17 := blk_frozen BK277.out 17
            have hfz31_18 := blk_frozen BK277.out 18
            have hfz31_19 := blk_frozen BK277.out 19
            have hfz31_20 := blk_frozen BK277.out 20
            have hfz31_21 := blk_frozen BK277.out 21
            have hfz31_22 := blk_frozen BK277.out 22
            go_wp2_with (first | ((with_reducible refine gate_callee (f := 30) rfl ?_); refine zc (some 36) Try.func30 #[.slice A0_21 l0_21.length c0_21, .func (.func 31) #[] #[]] ?_; (with_reducible refine (slices_ContainsFunc_int64_int64.calls _ _ l0_21 () false _ ?side1 ?side2 A15.out).mono ?_); (case side1 => repeat (first | exact (Kd.C_below HR0_21.out HB.out) | (with_reducible refine Kd.C_alloc ?_ _) | (with_reducible refine Kd.C_drewN ?_ _) | (with_reducible refine Kd.C_drew ?_))); (case side2 => exact HC0_21.out); rintro e w' ⟨rfl, ⟨nd, rfl⟩⟩; refine ⟨_, rfl, ?_⟩; have hZ32_ := cells_all BK278.out; simp only [allCells, Nat.zero_add, Nat.reduceAdd] at hZ32_; obtain ⟨hcz32_0, hfz32_0, hcz32_1, hfz32_1, hcz32_2, hfz32_2, hcz32_3, hfz32_3, hcz32_4, hfz32_4, hcz32_5, hfz32_5, hcz32_6, hfz32_6, hcz32_7, hfz32_7, hcz32_8, hfz32_8, hcz32_9, hfz32_9, hcz32_10, hfz32_10, hcz32_11, hfz32_11, _⟩ := hZ32_) | (go_at_call 32; (with_reducible refine (impl_isWord.calls a0_8 true _ A20.out).mono ?_); rintro e w' ⟨rfl, ⟨nd, rfl⟩⟩) | (go_at_call 32; (with_reducible refine (impl_isWord.calls a0_9 true _ A22.out).mono ?_); rintro e w' ⟨rfl, ⟨nd, rfl⟩⟩) | (go_at_call 33; (with_reducible refine (impl_CartOk.calls k1 a0_12 a0_13 a0_14 a0_15 a0_16 a0_17 a0_18 true _ A24.out).mono ?_); rintro e w33 ⟨rfl, hb⟩; replace HO_24 := Aside0.mk (Kd.R_below (by (with_reducible repeat (first | apply Kd.R_alloc | apply Kd.R_drewN | apply Kd.R_drew)); exact HO_24.out) hb); replace BK277 := zk BK277 hb; replace BK278 := zk BK278 hb; replace HB := zt w hb; (try clear hb); (try clear hb2); (try clear hk); (try clear hi); have hZ34_ := cells_all BK277.out; simp only [allCells, Nat.zero_add, Nat.reduceAdd] at hZ34_; obtain ⟨hcz34_0, hfz34_0, hcz34_1, hfz34_1, hcz34_2, hfz34_2, hcz34_3, hfz34_3, hcz34_4, hfz34_4, hcz34_5, hfz34_5, hcz34_6, hfz34_6, hcz34_7, hfz34_7, hcz34_8, hfz34_8, hcz34_9, hfz34_9, hcz34_10, hfz34_10, hcz34_11, hfz34_11, hcz34_12, hfz34_12, hcz34_13, hfz34_13, hcz34_14, hfz34_14, hcz34_15, hfz34_15, hcz34_16, hfz34_16, hcz34_17, hfz34_17, hcz34_18, hfz34_18, hcz34_19, hfz34_19, hcz34_20, hfz34_20, hcz34_21, hfz34_21, hcz34_22, hfz34_22, _⟩ := hZ34_) | (go_at_call 34; (with_reducible refine (impl_within.calls a0_22 0 1000000000 t288 _ A29.out).mono ?_); rintro e w' ⟨rfl, ⟨nd, rfl⟩⟩))
            go_ret
            exact ⟨ze _, zb _⟩
           ·rw [if_neg c28] at H
            have c28b0 : decide ((l0_21.length : Int) ≤ 100) = false := decide_eq_false c28
            have c28b1 : decide (l0_21.length ≤ 100) = false := decide_eq_false (by omega)
            clear c28
            obtain rfl := Option.some.inj H
            have hnb35 := NB277_278.out
            have hnc35 := NB278_277.out
            have hcz36_0 := zc0 BK277
            have hcz36_1 := zc1 BK277
            have hcz36_2 := zc2 BK277
            have hcz36_3 := zc3 BK277
            have hcz36_4 := zc4 BK277
            have hcz36_5 := zc5 BK277
            have hcz36_6 := zc6 BK277
            have hcz36_7 := zc7 BK277
            have hcz36_8 := zc8 BK277
            have hcz36_9 := zc9 BK277
            have hcz36_10 := zc10 BK277
            have hcz36_11 := zc11 BK277
            have hcz36_12 := zc12 BK277
            have hcz36_13 := zc13 BK277
            have hcz36_14 := zc14 BK277
            have hcz36_15 := zc15 BK277
            have hcz36_16 := zc16 BK277
            have hcz36_17 := zc17 BK277
            have hcz36_18 := zc18 BK277
            have hcz36_19 := zc19 BK277
            have hcz36_20 := zc20 BK277
            have hcz36_21 := zc21 BK277
            have hcz36_22 := zc22 BK277
            have hfz36_0 := blk_frozen BK277.out 0
            have hfz36_1 := blk_frozen BK277.out 1
            have hfz36_2 := blk_frozen BK277.out 2
            have hfz36_3 := blk_frozen BK277.out 3
            have hfz36_4 := blk_frozen BK277.out 4
            have hfz36_5 := blk_frozen BK277.out 5
            have hfz36_6 := blk_frozen BK277.out 6
            have hfz36_7 := blk_frozen BK277.out 7
            have hfz36_8 := blk_frozen BK277.out 8
            have hfz36_9 := blk_frozen BK277.out 9
            have hfz36_10 := blk_frozen BK277.out 10
            have hfz36_11 := blk_frozen BK277.out 11
            have hfz36_12 := blk_frozen BK277.out 12
            have hfz36_13 := blk_frozen BK277.out 13
            have hfz36_14 := blk_frozen BK277.out 14
            have hfz36_15 := blk_frozen BK277.out 15
            have hfz36_16 := blk_frozen BK277.out 16
            have hfz36_17 := blk_frozen BK277.out 17
            have hfz36_18 := blk_frozen BK277.out 18
            have hfz36_19 := blk_frozen BK277.out 19
            have hfz36_20 := blk_frozen BK277.out 20
            have hfz36_21 := blk_frozen BK277.out 21
            have hfz36_22 := blk_frozen BK277.out 22
            go_wp2_with (first | ((with_reducible refine gate_callee (f := 30) rfl ?_); refine zc (some 36) Try.func30 #[.slice A0_21 l0_21.length c0_21, .func (.func 31) #[] #[]] ?_; (with_reducible refine (slices_ContainsFunc_int64_int64.calls _ _ l0_21 () false _ ?side1 ?side2 A15.out).mono ?_); (case side1 => repeat (first | exact (Kd.C_below HR0_21.out HB.out) | (with_reducible refine Kd.C_alloc ?_ _) | (with_reducible refine Kd.C_drewN ?_ _) | (with_reducible refine Kd.C_drew ?_))); (case side2 => exact HC0_21.out); rintro e w' ⟨rfl, ⟨nd, rfl⟩⟩; refine ⟨_, rfl, ?_⟩; have hZ37_ := cells_all BK278.out; simp only [allCells, Nat.zero_add, Nat.reduceAdd] at hZ37_; obtain ⟨hcz37_0, hfz37_0, hcz37_1, hfz37_1, hcz37_2, hfz37_2, hcz37_3, hfz37_3, hcz37_4, hfz37_4, hcz37_5, hfz37_5, hcz37_6, hfz37_6, hcz37_7, hfz37_7, hcz37_8, hfz37_8, hcz37_9, hfz37_9, hcz37_10, hfz37_10, hcz37_11, hfz37_11, _⟩ := hZ37_) | (go_at_call 32; (with_reducible refine (impl_isWord.calls a0_8 true _ A20.out).mono ?_); rintro e w' ⟨rfl, ⟨nd, rfl⟩⟩) | (go_at_call 32; (with_reducible refine (impl_isWord.calls a0_9 true _ A22.out).mono ?_); rintro e w' ⟨rfl, ⟨nd, rfl⟩⟩) | (go_at_call 33; (with_reducible refine (impl_CartOk.calls k1 a0_12 a0_13 a0_14 a0_15 a0_16 a0_17 a0_18 true _ A24.out).mono ?_); rintro e w38 ⟨rfl, hb⟩; replace HO_24 := Aside0.mk (Kd.R_below (by (with_reducible repeat (first | apply Kd.R_alloc | apply Kd.R_drewN | apply Kd.R_drew)); exact HO_24.out) hb); replace BK277 := zk BK277 hb; replace BK278 := zk BK278 hb; replace HB := zt w hb; (try clear hb); (try clear hb2); (try clear hk); (try clear hi); have hZ39_ := cells_all BK277.out; simp only [allCells, Nat.zero_add, Nat.reduceAdd] at hZ39_; obtain ⟨hcz39_0, hfz39_0, hcz39_1, hfz39_1, hcz39_2, hfz39_2, hcz39_3, hfz39_3, hcz39_4, hfz39_4, hcz39_5, hfz39_5, hcz39_6, hfz39_6, hcz39_7, hfz39_7, hcz39_8, hfz39_8, hcz39_9, hfz39_9, hcz39_10, hfz39_10, hcz39_11, hfz39_11, hcz39_12, hfz39_12, hcz39_13, hfz39_13, hcz39_14, hfz39_14, hcz39_15, hfz39_15, hcz39_16, hfz39_16, hcz39_17, hfz39_17, hcz39_18, hfz39_18, hcz39_19, hfz39_19, hcz39_20, hfz39_20, hcz39_21, hfz39_21, hcz39_22, hfz39_22, _⟩ := hZ39_))
            go_ret
            exact ⟨ze _, zb _⟩
          ·rw [if_neg c27] at H
           have c27b0 : ((a0_20.size : Int) == 127) = false := beq_eq_false_iff_ne.mpr c27
           have c27b1 : ((a0_20.size : Int) != 127) = true := bne_iff_ne.mpr c27
           obtain rfl := Option.some.inj H
           have hnb40 := NB277_278.out
           have hnc40 := NB278_277.out
           have hcz41_0 := zc0 BK277
           have hcz41_1 := zc1 BK277
           have hcz41_2 := zc2 BK277
           have hcz41_3 := zc3 BK277
           have hcz41_4 := zc4 BK277
           have hcz41_5 := zc5 BK277
           have hcz41_6 := zc6 BK277
           have hcz41_7 := zc7 BK277
           have hcz41_8 := zc8 BK277
           have hcz41_9 := zc9 BK277
           have hcz41_10 := zc10 BK277
           have hcz41_11 := zc11 BK277
           have hcz41_12 := zc12 BK277
           have hcz41_13 := zc13 BK277
           have hcz41_14 := zc14 BK277
           have hcz41_15 := zc15 BK277
           have hcz41_16 := zc16 BK277
           have hcz41_17 := zc17 BK277
           have hcz41_18 := zc18 BK277
           have hcz41_19 := zc19 BK277
           have hcz41_20 := zc20 BK277
           have hcz41_21 := zc21 BK277
           have hcz41_22 := zc22 BK277
           have hfz41_0 := blk_frozen BK277.out 0
           have hfz41_1 := blk_frozen BK277.out 1
           have hfz41_2 := blk_frozen BK277.out 2
           have hfz41_3 := blk_frozen BK277.out 3
           have hfz41_4 := blk_frozen BK277.out 4
           have hfz41_5 := blk_frozen BK277.out 5
           have hfz41_6 := blk_frozen BK277.out 6
           have hfz41_7 := blk_frozen BK277.out 7
           have hfz41_8 := blk_frozen BK277.out 8
           have hfz41_9 := blk_frozen BK277.out 9
           have hfz41_10 := blk_frozen BK277.out 10
           have hfz41_11 := blk_frozen BK277.out 11
           have hfz41_12 := blk_frozen BK277.out 12
           have hfz41_13 := blk_frozen BK277.out 13
           have hfz41_14 := blk_frozen BK277.out 14
           have hfz41_15 := blk_frozen BK277.out 15
           have hfz41_16 := blk_frozen BK277.out 16
           have hfz41_17 := blk_frozen BK277.out 17
           have hfz41_18 := blk_frozen BK277.out 18
           have hfz41_19 := blk_frozen BK277.out 19
           have hfz41_20 := blk_frozen BK277.out 20
           have hfz41_21 := blk_frozen BK277.out 21
           have hfz41_22 := blk_frozen BK277.out 22
           go_wp2_with (first | ((with_reducible refine gate_callee (f := 30) rfl ?_); refine zc (some 36) Try.func30 #[.slice A0_21 l0_21.length c0_21, .func (.func 31) #[] #[]] ?_; (with_reducible refine (slices_ContainsFunc_int64_int64.calls _ _ l0_21 () false _ ?side1 ?side2 A15.out).mono ?_); (case side1 => repeat (first | exact (Kd.C_below HR0_21.out HB.out) | (with_reducible refine Kd.C_alloc ?_ _) | (with_reducible refine Kd.C_drewN ?_ _) | (with_reducible refine Kd.C_drew ?_))); (case side2 => exact HC0_21.out); rintro e w' ⟨rfl, ⟨nd, rfl⟩⟩; refine ⟨_, rfl, ?_⟩; have hZ42_ := cells_all BK278.out; simp only [allCells, Nat.zero_add, Nat.reduceAdd] at hZ42_; obtain ⟨hcz42_0, hfz42_0, hcz42_1, hfz42_1, hcz42_2, hfz42_2, hcz42_3, hfz42_3, hcz42_4, hfz42_4, hcz42_5, hfz42_5, hcz42_6, hfz42_6, hcz42_7, hfz42_7, hcz42_8, hfz42_8, hcz42_9, hfz42_9, hcz42_10, hfz42_10, hcz42_11, hfz42_11, _⟩ := hZ42_) | (go_at_call 32; (with_reducible refine (impl_isWord.calls a0_8 true _ A20.out).mono ?_); rintro e w' ⟨rfl, ⟨nd, rfl⟩⟩) | (go_at_call 32; (with_reducible refine (impl_isWord.calls a0_9 true _ A22.out).mono ?_); rintro e w' ⟨rfl, ⟨nd, rfl⟩⟩) | (go_at_call 33; (with_reducible refine (impl_CartOk.calls k1 a0_12 a0_13 a0_14 a0_15 a0_16 a0_17 a0_18 true _ A24.out).mono ?_); rintro e w43 ⟨rfl, hb⟩; replace HO_24 := Aside0.mk (Kd.R_below (by (with_reducible repeat (first | apply Kd.R_alloc | apply Kd.R_drewN | apply Kd.R_drew)); exact HO_24.out) hb); replace BK277 := zk BK277 hb; replace BK278 := zk BK278 hb; replace HB := zt w hb; (try clear hb); (try clear hb2); (try clear hk); (try clear hi); have hZ44_ := cells_all BK277.out; simp only [allCells, Nat.zero_add, Nat.reduceAdd] at hZ44_; obtain ⟨hcz44_0, hfz44_0, hcz44_1, hfz44_1, hcz44_2, hfz44_2, hcz44_3, hfz44_3, hcz44_4, hfz44_4, hcz44_5, hfz44_5, hcz44_6, hfz44_6, hcz44_7, hfz44_7, hcz44_8, hfz44_8, hcz44_9, hfz44_9, hcz44_10, hfz44_10, hcz44_11, hfz44_11, hcz44_12, hfz44_12, hcz44_13, hfz44_13, hcz44_14, hfz44_14, hcz44_15, hfz44_15, hcz44_16, hfz44_16, hcz44_17, hfz44_17, hcz44_18, hfz44_18, hcz44_19, hfz44_19, hcz44_20, hfz44_20, hcz44_21, hfz44_21, hcz44_22, hfz44_22, _⟩ := hZ44_))
           go_ret
           exact ⟨ze _, zb _⟩
         ·rw [if_neg c26] at H
          have c26b0 : ((a0_19.size : Int) == 256) = false := beq_eq_false_iff_ne.mpr c26
          have c26b1 : ((a0_19.size : Int) != 256) = true := bne_iff_ne.mpr c26
          obtain rfl := Option.some.inj H
          have hnb45 := NB277_278.out
          have hnc45 := NB278_277.out
          have hcz46_0 := zc0 BK277
          have hcz46_1 := zc1 BK277
          have hcz46_2 := zc2 BK277
          have hcz46_3 := zc3 BK277
          have hcz46_4 := zc4 BK277
          have hcz46_5 := zc5 BK277
          have hcz46_6 := zc6 BK277
          have hcz46_7 := zc7 BK277
          have hcz46_8 := zc8 BK277
          have hcz46_9 := zc9 BK277
          have hcz46_10 := zc10 BK277
          have hcz46_11 := zc11 BK277
          have hcz46_12 := zc12 BK277
          have hcz46_13 := zc13 BK277
          have hcz46_14 := zc14 BK277
          have hcz46_15 := zc15 BK277
          have hcz46_16 := zc16 BK277
          have hcz46_17 := zc17 BK277
          have hcz46_18 := zc18 BK277
          have hcz46_19 := zc19 BK277
          have hcz46_20 := zc20 BK277
          have hcz46_21 := zc21 BK277
          have hcz46_22 := zc22 BK277
          have hfz46_0 := blk_frozen BK277.out 0
          have hfz46_1 := blk_frozen BK277.out 1
          have hfz46_2 := blk_frozen BK277.out 2
          have hfz46_3 := blk_frozen BK277.out 3
          have hfz46_4 := blk_frozen BK277.out 4
          have hfz46_5 := blk_frozen BK277.out 5
          have hfz46_6 := blk_frozen BK277.out 6
          have hfz46_7 := blk_frozen BK277.out 7
          have hfz46_8 := blk_frozen BK277.out 8
          have hfz46_9 := blk_frozen BK277.out 9
          have hfz46_10 := blk_frozen BK277.out 10
          have hfz46_11 := blk_frozen BK277.out 11
          have hfz46_12 := blk_frozen BK277.out 12
          have hfz46_13 := blk_frozen BK277.out 13
          have hfz46_14 := blk_frozen BK277.out 14
          have hfz46_15 := blk_frozen BK277.out 15
          have hfz46_16 := blk_frozen BK277.out 16
          have hfz46_17 := blk_frozen BK277.out 17
          have hfz46_18 := blk_frozen BK277.out 18
          have hfz46_19 := blk_frozen BK277.out 19
          have hfz46_20 := blk_frozen BK277.out 20
          have hfz46_21 := blk_frozen BK277.out 21
          have hfz46_22 := blk_frozen BK277.out 22
          go_wp2_with (first | ((with_reducible refine gate_callee (f := 30) rfl ?_); refine zc (some 36) Try.func30 #[.slice A0_21 l0_21.length c0_21, .func (.func 31) #[] #[]] ?_; (with_reducible refine (slices_ContainsFunc_int64_int64.calls _ _ l0_21 () false _ ?side1 ?side2 A15.out).mono ?_); (case side1 => repeat (first | exact (Kd.C_below HR0_21.out HB.out) | (with_reducible refine Kd.C_alloc ?_ _) | (with_reducible refine Kd.C_drewN ?_ _) | (with_reducible refine Kd.C_drew ?_))); (case side2 => exact HC0_21.out); rintro e w' ⟨rfl, ⟨nd, rfl⟩⟩; refine ⟨_, rfl, ?_⟩; have hZ47_ := cells_all BK278.out; simp only [allCells, Nat.zero_add, Nat.reduceAdd] at hZ47_; obtain ⟨hcz47_0, hfz47_0, hcz47_1, hfz47_1, hcz47_2, hfz47_2, hcz47_3, hfz47_3, hcz47_4, hfz47_4, hcz47_5, hfz47_5, hcz47_6, hfz47_6, hcz47_7, hfz47_7, hcz47_8, hfz47_8, hcz47_9, hfz47_9, hcz47_10, hfz47_10, hcz47_11, hfz47_11, _⟩ := hZ47_) | (go_at_call 32; (with_reducible refine (impl_isWord.calls a0_8 true _ A20.out).mono ?_); rintro e w' ⟨rfl, ⟨nd, rfl⟩⟩) | (go_at_call 32; (with_reducible refine (impl_isWord.calls a0_9 true _ A22.out).mono ?_); rintro e w' ⟨rfl, ⟨nd, rfl⟩⟩) | (go_at_call 33; (with_reducible refine (impl_CartOk.calls k1 a0_12 a0_13 a0_14 a0_15 a0_16 a0_17 a0_18 true _ A24.out).mono ?_); rintro e w48 ⟨rfl, hb⟩; replace HO_24 := Aside0.mk (Kd.R_below (by (with_reducible repeat (first | apply Kd.R_alloc | apply Kd.R_drewN | apply Kd.R_drew)); exact HO_24.out) hb); replace BK277 := zk BK277 hb; replace BK278 := zk BK278 hb; replace HB := zt w hb; (try clear hb); (try clear hb2); (try clear hk); (try clear hi); have hZ49_ := cells_all BK277.out; simp only [allCells, Nat.zero_add, Nat.reduceAdd] at hZ49_; obtain ⟨hcz49_0, hfz49_0, hcz49_1, hfz49_1, hcz49_2, hfz49_2, hcz49_3, hfz49_3, hcz49_4, hfz49_4, hcz49_5, hfz49_5, hcz49_6, hfz49_6, hcz49_7, hfz49_7, hcz49_8, hfz49_8, hcz49_9, hfz49_9, hcz49_10, hfz49_10, hcz49_11, hfz49_11, hcz49_12, hfz49_12, hcz49_13, hfz49_13, hcz49_14, hfz49_14, hcz49_15, hfz49_15, hcz49_16, hfz49_16, hcz49_17, hfz49_17, hcz49_18, hfz49_18, hcz49_19, hfz49_19, hcz49_20, hfz49_20, hcz49_21, hfz49_21, hcz49_22, hfz49_22, _⟩ := hZ49_))
          go_ret
          exact ⟨ze _, zb _⟩
        ·replace c25 := Bool.eq_false_iff.mpr c25
         subst c25
         rw [if_neg (show ¬ (false = true) by decide)] at H
         obtain rfl := Option.some.inj H
         have hnb50 := NB277_278.out
         have hnc50 := NB278_277.out
         have hcz51_0 := zc0 BK277
         have hcz51_1 := zc1 BK277
         have hcz51_2 := zc2 BK277
         have hcz51_3 := zc3 BK277
         have hcz51_4 := zc4 BK277
         have hcz51_5 := zc5 BK277
         have hcz51_6 := zc6 BK277
         have hcz51_7 := zc7 BK277
         have hcz51_8 := zc8 BK277
         have hcz51_9 := zc9 BK277
         have hcz51_10 := zc10 BK277
         have hcz51_11 := zc11 BK277
         have hcz51_12 := zc12 BK277
         have hcz51_13 := zc13 BK277
         have hcz51_14 := zc14 BK277
         have hcz51_15 := zc15 BK277
         have hcz51_16 := zc16 BK277
         have hcz51_17 := zc17 BK277
         have hcz51_18 := zc18 BK277
         have hcz51_19 := zc19 BK277
         have hcz51_20 := zc20 BK277
         have hcz51_21 := zc21 BK277
         have hcz51_22 := zc22 BK277
         have hfz51_0 := blk_frozen BK277.out 0
         have hfz51_1 := blk_frozen BK277.out 1
         have hfz51_2 := blk_frozen BK277.out 2
         have hfz51_3 := blk_frozen BK277.out 3
         have hfz51_4 := blk_frozen BK277.out 4
         have hfz51_5 := blk_frozen BK277.out 5
         have hfz51_6 := blk_frozen BK277.out 6
         have hfz51_7 := blk_frozen BK277.out 7
         have hfz51_8 := blk_frozen BK277.out 8
         have hfz51_9 := blk_frozen BK277.out 9
         have hfz51_10 := blk_frozen BK277.out 10
         have hfz51_11 := blk_frozen BK277.out 11
         have hfz51_12 := blk_frozen BK277.out 12
         have hfz51_13 := blk_frozen BK277.out 13
         have hfz51_14 := blk_frozen BK277.out 14
         have hfz51_15 := blk_frozen BK277.out 15
         have hfz51_16 := blk_frozen BK277.out 16
         have hfz51_17 := blk_frozen BK277.out 17
         have hfz51_18 := blk_frozen BK277.out 18
         have hfz51_19 := blk_frozen BK277.out 19
         have hfz51_20 := blk_frozen BK277.out 20
         have hfz51_21 := blk_frozen BK277.out 21
         have hfz51_22 := blk_frozen BK277.out 22
         go_wp2_with (first | ((with_reducible refine gate_callee (f := 30) rfl ?_); refine zc (some 36) Try.func30 #[.slice A0_21 l0_21.length c0_21, .func (.func 31) #[] #[]] ?_; (with_reducible refine (slices_ContainsFunc_int64_int64.calls _ _ l0_21 () false _ ?side1 ?side2 A15.out).mono ?_); (case side1 => repeat (first | exact (Kd.C_below HR0_21.out HB.out) | (with_reducible refine Kd.C_alloc ?_ _) | (with_reducible refine Kd.C_drewN ?_ _) | (with_reducible refine Kd.C_drew ?_))); (case side2 => exact HC0_21.out); rintro e w' ⟨rfl, ⟨nd, rfl⟩⟩; refine ⟨_, rfl, ?_⟩; have hZ52_ := cells_all BK278.out; simp only [allCells, Nat.zero_add, Nat.reduceAdd] at hZ52_; obtain ⟨hcz52_0, hfz52_0, hcz52_1, hfz52_1, hcz52_2, hfz52_2, hcz52_3, hfz52_3, hcz52_4, hfz52_4, hcz52_5, hfz52_5, hcz52_6, hfz52_6, hcz52_7, hfz52_7, hcz52_8, hfz52_8, hcz52_9, hfz52_9, hcz52_10, hfz52_10, hcz52_11, hfz52_11, _⟩ := hZ52_) | (go_at_call 32; (with_reducible refine (impl_isWord.calls a0_8 true _ A20.out).mono ?_); rintro e w' ⟨rfl, ⟨nd, rfl⟩⟩) | (go_at_call 32; (with_reducible refine (impl_isWord.calls a0_9 true _ A22.out).mono ?_); rintro e w' ⟨rfl, ⟨nd, rfl⟩⟩) | (go_at_call 33; (with_reducible refine (impl_CartOk.calls k1 a0_12 a0_13 a0_14 a0_15 a0_16 a0_17 a0_18 false _ A24.out).mono ?_); rintro e w53 ⟨rfl, hb⟩; replace HO_24 := Aside0.mk (Kd.R_below (by (with_reducible repeat (first | apply Kd.R_alloc | apply Kd.R_drewN | apply Kd.R_drew)); exact HO_24.out) hb); replace BK277 := zk BK277 hb; replace BK278 := zk BK278 hb; replace HB := zt w hb; (try clear hb); (try clear hb2); (try clear hk); (try clear hi)))
         go_ret
         exact ⟨ze _, zb _⟩
       ·replace c23 := Bool.eq_false_iff.mpr c23
        subst c23
        rw [if_neg (show ¬ (false = true) by decide)] at H
        obtain rfl := Option.some.inj H
        have hnb54 := NB277_278.out
        have hnc54 := NB278_277.out
        have hcz55_0 := zc0 BK277
        have hcz55_1 := zc1 BK277
        have hcz55_2 := zc2 BK277
        have hcz55_3 := zc3 BK277
        have hcz55_4 := zc4 BK277
        have hcz55_5 := zc5 BK277
        have hcz55_6 := zc6 BK277
        have hcz55_7 := zc7 BK277
        have hcz55_8 := zc8 BK277
        have hcz55_9 := zc9 BK277
        have hcz55_10 := zc10 BK277
        have hcz55_11 := zc11 BK277
        have hcz55_12 := zc12 BK277
        have hcz55_13 := zc13 BK277
        have hcz55_14 := zc14 BK277
        have hcz55_15 := zc15 BK277
        have hcz55_16 := zc16 BK277
        have hcz55_17 := zc17 BK277
        have hcz55_18 := zc18 BK277
        have hcz55_19 := zc19 BK277
        have hcz55_20 := zc20 BK277
        have hcz55_21 := zc21 BK277
        have hcz55_22 := zc22 BK277
        have hfz55_0 := blk_frozen BK277.out 0
        have hfz55_1 := blk_frozen BK277.out 1
        have hfz55_2 := blk_frozen BK277.out 2
        have hfz55_3 := blk_frozen BK277.out 3
        have hfz55_4 := blk_frozen BK277.out 4
        have hfz55_5 := blk_frozen BK277.out 5
        have hfz55_6 := blk_frozen BK277.out 6
        have hfz55_7 := blk_frozen BK277.out 7
        have hfz55_8 := blk_frozen BK277.out 8
        have hfz55_9 := blk_frozen BK277.out 9
        have hfz55_10 := blk_frozen BK277.out 10
        have hfz55_11 := blk_frozen BK277.out 11
        have hfz55_12 := blk_frozen BK277.out 12
        have hfz55_13 := blk_frozen BK277.out 13
        have hfz55_14 := blk_frozen BK277.out 14
        have hfz55_15 := blk_frozen BK277.out 15
        have hfz55_16 := blk_frozen BK277.out 16
        have hfz55_17 := blk_frozen BK277.out 17
        have hfz55_18 := blk_frozen BK277.out 18
        have hfz55_19 := blk_frozen BK277.out 19
        have hfz55_20 := blk_frozen BK277.out 20
        have hfz55_21 := blk_frozen BK277.out 21
        have hfz55_22 := blk_frozen BK277.out 22
        go_wp2_with (first | ((with_reducible refine gate_callee (f := 30) rfl ?_); refine zc (some 36) Try.func30 #[.slice A0_21 l0_21.length c0_21, .func (.func 31) #[] #[]] ?_; (with_reducible refine (slices_ContainsFunc_int64_int64.calls _ _ l0_21 () false _ ?side1 ?side2 A15.out).mono ?_); (case side1 => repeat (first | exact (Kd.C_below HR0_21.out HB.out) | (with_reducible refine Kd.C_alloc ?_ _) | (with_reducible refine Kd.C_drewN ?_ _) | (with_reducible refine Kd.C_drew ?_))); (case side2 => exact HC0_21.out); rintro e w' ⟨rfl, ⟨nd, rfl⟩⟩; refine ⟨_, rfl, ?_⟩; have hZ56_ := cells_all BK278.out; simp only [allCells, Nat.zero_add, Nat.reduceAdd] at hZ56_; obtain ⟨hcz56_0, hfz56_0, hcz56_1, hfz56_1, hcz56_2, hfz56_2, hcz56_3, hfz56_3, hcz56_4, hfz56_4, hcz56_5, hfz56_5, hcz56_6, hfz56_6, hcz56_7, hfz56_7, hcz56_8, hfz56_8, hcz56_9, hfz56_9, hcz56_10, hfz56_10, hcz56_11, hfz56_11, _⟩ := hZ56_) | (go_at_call 32; (with_reducible refine (impl_isWord.calls a0_8 true _ A20.out).mono ?_); rintro e w' ⟨rfl, ⟨nd, rfl⟩⟩) | (go_at_call 32; (with_reducible refine (impl_isWord.calls a0_9 false _ A22.out).mono ?_); rintro e w' ⟨rfl, ⟨nd, rfl⟩⟩))
        go_ret
        exact ⟨ze _, zb _⟩
      ·replace c21 := Bool.eq_false_iff.mpr c21
       subst c21
       rw [if_neg (show ¬ (false = true) by decide)] at H
       obtain rfl := Option.some.inj H
       have hnb57 := NB277_278.out
       have hnc57 := NB278_277.out
       have hcz58_0 := zc0 BK277
       have hcz58_1 := zc1 BK277
       have hcz58_2 := zc2 BK277
       have hcz58_3 := zc3 BK277
       have hcz58_4 := zc4 BK277
       have hcz58_5 := zc5 BK277
       have hcz58_6 := zc6 BK277
       have hcz58_7 := zc7 BK277
       have hcz58_8 := zc8 BK277
       have hcz58_9 := zc9 BK277
       have hcz58_10 := zc10 BK277
       have hcz58_11 := zc11 BK277
       have hcz58_12 := zc12 BK277
       have hcz58_13 := zc13 BK277
       have hcz58_14 := zc14 BK277
       have hcz58_15 := zc15 BK277
       have hcz58_16 := zc16 BK277
       have hcz58_17 := zc17 BK277
       have hcz58_18 := zc18 BK277
       have hcz58_19 := zc19 BK277
       have hcz58_20 := zc20 BK277
       have hcz58_21 := zc21 BK277
       have hcz58_22 := zc22 BK277
       have hfz58_0 := blk_frozen BK277.out 0
       have hfz58_1 := blk_frozen BK277.out 1
       have hfz58_2 := blk_frozen BK277.out 2
       have hfz58_3 := blk_frozen BK277.out 3
       have hfz58_4 := blk_frozen BK277.out 4
       have hfz58_5 := blk_frozen BK277.out 5
       have hfz58_6 := blk_frozen BK277.out 6
       have hfz58_7 := blk_frozen BK277.out 7
       have hfz58_8 := blk_frozen BK277.out 8
       have hfz58_9 := blk_frozen BK277.out 9
       have hfz58_10 := blk_frozen BK277.out 10
       have hfz58_11 := blk_frozen BK277.out 11
       have hfz58_12 := blk_frozen BK277.out 12
       have hfz58_13 := blk_frozen BK277.out 13
       have hfz58_14 := blk_frozen BK277.out 14
       have hfz58_15 := blk_frozen BK277.out 15
       have hfz58_16 := blk_frozen BK277.out 16
       have hfz58_17 := blk_frozen BK277.out 17
       have hfz58_18 := blk_frozen BK277.out 18
       have hfz58_19 := blk_frozen BK277.out 19
       have hfz58_20 := blk_frozen BK277.out 20
       have hfz58_21 := blk_frozen BK277.out 21
       have hfz58_22 := blk_frozen BK277.out 22
       go_wp2_with (first | ((with_reducible refine gate_callee (f := 30) rfl ?_); refine zc (some 36) Try.func30 #[.slice A0_21 l0_21.length c0_21, .func (.func 31) #[] #[]] ?_; (with_reducible refine (slices_ContainsFunc_int64_int64.calls _ _ l0_21 () false _ ?side1 ?side2 A15.out).mono ?_); (case side1 => repeat (first | exact (Kd.C_below HR0_21.out HB.out) | (with_reducible refine Kd.C_alloc ?_ _) | (with_reducible refine Kd.C_drewN ?_ _) | (with_reducible refine Kd.C_drew ?_))); (case side2 => exact HC0_21.out); rintro e w' ⟨rfl, ⟨nd, rfl⟩⟩; refine ⟨_, rfl, ?_⟩; have hZ59_ := cells_all BK278.out; simp only [allCells, Nat.zero_add, Nat.reduceAdd] at hZ59_; obtain ⟨hcz59_0, hfz59_0, hcz59_1, hfz59_1, hcz59_2, hfz59_2, hcz59_3, hfz59_3, hcz59_4, hfz59_4, hcz59_5, hfz59_5, hcz59_6, hfz59_6, hcz59_7, hfz59_7, hcz59_8, hfz59_8, hcz59_9, hfz59_9, hcz59_10, hfz59_10, hcz59_11, hfz59_11, _⟩ := hZ59_) | (go_at_call 32; (with_reducible refine (impl_isWord.calls a0_8 false _ A20.out).mono ?_); rintro e w' ⟨rfl, ⟨nd, rfl⟩⟩))
       go_ret
       exact ⟨ze _, zb _⟩
     ·rw [if_neg c19] at H
      have c19b0 : ((Int.tmod a0_1 16) == 0) = false := beq_eq_false_iff_ne.mpr c19
      have c19b1 : ((Int.tmod a0_1 16) != 0) = true := bne_iff_ne.mpr c19
      obtain rfl := Option.some.inj H
      have hnb60 := NB277_278.out
      have hnc60 := NB278_277.out
      have hcz61_0 := zc0 BK277
      have hcz61_1 := zc1 BK277
      have hcz61_2 := zc2 BK277
      have hcz61_3 := zc3 BK277
      have hcz61_4 := zc4 BK277
      have hcz61_5 := zc5 BK277
      have hcz61_6 := zc6 BK277
      have hcz61_7 := zc7 BK277
      have hcz61_8 := zc8 BK277
      have hcz61_9 := zc9 BK277
      have hcz61_10 := zc10 BK277
      have hcz61_11 := zc11 BK277
      have hcz61_12 := zc12 BK277
      have hcz61_13 := zc13 BK277
      have hcz61_14 := zc14 BK277
      have hcz61_15 := zc15 BK277
      have hcz61_16 := zc16 BK277
      have hcz61_17 := zc17 BK277
      have hcz61_18 := zc18 BK277
      have hcz61_19 := zc19 BK277
      have hcz61_20 := zc20 BK277
      have hcz61_21 := zc21 BK277
      have hcz61_22 := zc22 BK277
      have hfz61_0 := blk_frozen BK277.out 0
      have hfz61_1 := blk_frozen BK277.out 1
      have hfz61_2 := blk_frozen BK277.out 2
      have hfz61_3 := blk_frozen BK277.out 3
      have hfz61_4 := blk_frozen BK277.out 4
      have hfz61_5 := blk_frozen BK277.out 5
      have hfz61_6 := blk_frozen BK277.out 6
      have hfz61_7 := blk_frozen BK277.out 7
      have hfz61_8 := blk_frozen BK277.out 8
      have hfz61_9 := blk_frozen BK277.out 9
      have hfz61_10 := blk_frozen BK277.out 10
      have hfz61_11 := blk_frozen BK277.out 11
      have hfz61_12 := blk_frozen BK277.out 12
      have hfz61_13 := blk_frozen BK277.out 13
      have hfz61_14 := blk_frozen BK277.out 14
      have hfz61_15 := blk_frozen BK277.out 15
      have hfz61_16 := blk_frozen BK277.out 16
      have hfz61_17 := blk_frozen BK277.out 17
      have hfz61_18 := blk_frozen BK277.out 18
      have hfz61_19 := blk_frozen BK277.out 19
      have hfz61_20 := blk_frozen BK277.out 20
      have hfz61_21 := blk_frozen BK277.out 21
      have hfz61_22 := blk_frozen BK277.out 22
      go_wp2_with (first | ((with_reducible refine gate_callee (f := 30) rfl ?_); refine zc (some 36) Try.func30 #[.slice A0_21 l0_21.length c0_21, .func (.func 31) #[] #[]] ?_; (with_reducible refine (slices_ContainsFunc_int64_int64.calls _ _ l0_21 () false _ ?side1 ?side2 A15.out).mono ?_); (case side1 => repeat (first | exact (Kd.C_below HR0_21.out HB.out) | (with_reducible refine Kd.C_alloc ?_ _) | (with_reducible refine Kd.C_drewN ?_ _) | (with_reducible refine Kd.C_drew ?_))); (case side2 => exact HC0_21.out); rintro e w' ⟨rfl, ⟨nd, rfl⟩⟩; refine ⟨_, rfl, ?_⟩; have hZ62_ := cells_all BK278.out; simp only [allCells, Nat.zero_add, Nat.reduceAdd] at hZ62_; obtain ⟨hcz62_0, hfz62_0, hcz62_1, hfz62_1, hcz62_2, hfz62_2, hcz62_3, hfz62_3, hcz62_4, hfz62_4, hcz62_5, hfz62_5, hcz62_6, hfz62_6, hcz62_7, hfz62_7, hcz62_8, hfz62_8, hcz62_9, hfz62_9, hcz62_10, hfz62_10, hcz62_11, hfz62_11, _⟩ := hZ62_))
      go_ret
      exact ⟨ze _, zb _⟩

/-! ### impl_replaced: function 55 -/
set_option maxRecDepth 100000 in
theorem impl_replaced.walk (s r : ByteArray) (i : Nat) (v : Int) (cap : Nat) (C : Array Value) (w : World) (hpos : (i : Int) < (s.size : Int)) (hp0 : 0 ≤ (i : Int))
    (hconv : (convert 9 63 (.string s)).run Try.prog w = .ok (.slice (some ⟨w.heap.size, 0, none⟩) s.size cap) (w.drew.alloc (.cells C 5 (C.size, C.size + 1))))
    (c0 : Value) (hc0 : (w.alloc (.cells C 5 (C.size, C.size + 1))).cell? ⟨w.heap.size, i, none⟩ = some c0) (hz0 : (w.alloc (.cells C 5 (C.size, C.size + 1))).frozen? ⟨w.heap.size, i, none⟩ = false)
    (hback : (convert 63 9 (.slice (some ⟨w.heap.size, 0, none⟩) s.size cap)).run Try.prog ((w.alloc (.cells C 5 (C.size, C.size + 1))).setCell ⟨w.heap.size, i, none⟩ (.int .u8 (v % 256))).drew = .ok (.string r) ((w.alloc (.cells C 5 (C.size, C.size + 1))).setCell ⟨w.heap.size, i, none⟩ (.int .u8 (v % 256))).drew) :
    Calls Try.prog 55 #[.string s, .int .i64 i, .int .i64 v] w fun e w' => e = .returned (.string r) ∧ w' = ((w.alloc (.cells C 5 (C.size, C.size + 1))).setCell ⟨w.heap.size, i, none⟩ (.int .u8 (v % 256))).drew := by
  go_enter Try.func55, Try.ntmps55
  go_wp2
  go_ret
  exact ⟨rfl, rfl⟩
def impl_replaced.f (a0 : ByteArray) (a1 : Int) (a2 : Int) : Option ByteArray := if 0 ≤ a1 then (if a1 < (a0.size : Int) then some ⟨(a0.data.toList.set a1.toNat (UInt8.ofNat (a2 % 256).toNat)).toArray⟩ else none) else none
theorem impl_replaced.calls (a0 : ByteArray) (a1 : Int) (a2 : Int) (r : ByteArray) (w : World) (h : impl_replaced.f a0 a1 a2 = some r) :
 Calls Try.prog 55 #[.string a0, .int .i64 a1, .int .i64 a2] w fun e w' => e = .returned (.string r) ∧ Below w.heap.size w w' := by
 unfold impl_replaced.f at h
 by_cases h0 : 0 ≤ a1
 ·by_cases h1 : a1 < (a0.size : Int)
  ·rw [if_pos h0, if_pos h1] at h
   obtain rfl := Option.some.inj h
   obtain ⟨i, rfl⟩ : ∃ i : Nat, a1 = (i : Int) := ⟨a1.toNat, by omega⟩
   have hconv := run_bytes_of_string (P := Try.prog) w 9 63 5 a0 Try.underlying9 Try.underlying63 Try.underlying5
   generalize grownCap w a0.size 0 5 = cap at hconv
   have hi : i < a0.data.size := by
    have : a0.data.size = a0.size := rfl
    omega
   have hC : ∀ j (hj : j < a0.data.size), (bytesRow a0 cap)[j]? = some (.int .u8 (a0.data[j].toNat : Int)) := fun j hj => bytesRow_at a0 cap j hj
   have hlen : a0.data.size ≤ (bytesRow a0 cap).size := by simp [bytesRow]
   generalize bytesRow a0 cap = C at hconv hC hlen
   have hc0 : (w.alloc (.cells C 5 (C.size, C.size + 1))).cell? ⟨w.heap.size, i, none⟩ = some (.int .u8 (a0.data[i].toNat : Int)) := by rw [World.cell?_alloc_mark, hC i hi]
   have hz0 : (w.alloc (.cells C 5 (C.size, C.size + 1))).frozen? ⟨w.heap.size, i, none⟩ = false := by
    rw [World.frozen?_alloc_mark]
    simp
    omega
   have hsz : (a0.data.toList.set i (UInt8.ofNat (a2 % 256).toNat)).length = a0.size := by
    rw [List.length_set]
    rfl
   have hval : ((UInt8.ofNat (a2 % 256).toNat).toNat : Int) = a2 % 256 := by
    rw [UInt8.toNat_ofNat']
    omega
   have hback := run_convert_bytes_back (P := Try.prog) ((w.alloc (.cells C 5 (C.size, C.size + 1))).setCell ⟨w.heap.size, i, none⟩ (.int .u8 (a2 % 256))).drew 63 9 5 ⟨w.heap.size, 0, none⟩ cap (a0.data.toList.set i (UInt8.ofNat (a2 % 256).toNat)) Try.underlying63 Try.underlying5 Try.underlying9 (fun j hj => by
    show ((w.alloc (.cells C 5 (C.size, C.size + 1))).setCell ⟨w.heap.size, i, none⟩ (.int .u8 (a2 % 256))).cell? ((⟨w.heap.size, 0, none⟩ : Addr).add j) = _
    rw [add_plain]
    have hj' : j < a0.data.size := by simpa using hj
    by_cases e : j = i
    ·subst e
     rw [List.getElem_set_self, hval]
     exact World.cell?_setCell_same _ _ _ hc0
    ·rw [World.cell?_setCell_other _ _ _ _ (by first | (simp; done) | (simp; omega)), World.cell?_alloc_mark, hC j hj', List.getElem_set_ne (by omega)]
     simp)
   rw [hsz] at hback
   refine (impl_replaced.walk a0 _ i a2 cap C w h1 h0 hconv _ hc0 hz0 hback).mono ?_
   rintro e w' ⟨rfl, rfl⟩
   exact ⟨rfl, (((Below.refl _ _).alloc (Nat.le_refl _) _).setCell (Nat.le_refl _) _).drew⟩
  ·rw [if_pos h0, if_neg h1] at h
   cases h
 ·rw [if_neg h0] at h
  cases h

/-! ### slices_Clone_int64_int64: function 56 -/
def slices_Clone_int64_int64.f (l0 : List Int) : Option (List Int) := if l0.length ≤ 17592186044416 then some l0 else none
set_option maxHeartbeats 4000000 in
set_option maxRecDepth 100000 in
theorem slices_Clone_int64_int64.calls (A0 : Option Addr) (c0 : Nat) (l0 : List Int) (r : List Int) (w : World) (hr0 : Kd.C (Kd.int .i64) w A0 l0.length l0) (hc0 : l0.length ≤ c0) (h : slices_Clone_int64_int64.f l0 = some r) :
 Calls Try.prog 56 #[.slice A0 l0.length c0] w fun e w' => ∃ v0_ : Value, e = .returned (v0_) ∧ Kd.R (Kd.int .i64) 2 w' w.heap.size (fun _ => True) v0_ r ∧ Below w.heap.size w w' := by
 unfold slices_Clone_int64_int64.f at h
 by_cases hb : l0.length ≤ 17592186044416
 ·rw [if_pos hb] at h
  obtain rfl := Option.some.inj h
  clear h
  cases A0 with
  | none =>
   have h0 : l0.length = 0 := by
    rcases Nat.eq_zero_or_pos l0.length with h0 | h0
    ·exact h0
    ·obtain ⟨ad, he, _⟩ := hr0.2.2 h0
     cases he
   obtain rfl : l0 = [] := List.eq_nil_of_length_eq_zero h0
   clear hr0 hc0 h0 hb
   have hq : ∀ W : World, (binOp .eql 26 (.slice none 0 c0) (.slice none 0 0)).run Try.prog W = .ok (.bool true) W := fun W => Lib.run_eql_slice_nil W 26 2 none 0 c0 0 0 Try.underlying26
   go_enter Try.func56, Try.ntmps56
   go_wp2
   go_ret
   exact ⟨_, rfl, Kd.R_nil _ _ _ _ _, Below.refl _ _⟩
  | some ad =>
   have HR := Aside0.mk hr0
   have HB := Aside0.mk (Below.refl w.heap.size w)
   clear hr0 hc0
   have hq : ∀ W : World, (binOp .eql 26 (.slice (some ad) l0.length c0) (.slice none 0 0)).run Try.prog W = .ok (.bool false) W := fun W => Lib.run_eql_slice_nil W 26 2 (some ad) l0.length c0 0 0 Try.underlying26
   go_enter Try.func56, Try.ntmps56
   go_wp2_with (first | ((with_reducible refine gate_dst (N := 5) rfl ?_); refine Kd.R_lit (Kd.int .i64) _ 2 ?hg (N := 5) ?hd (xs := ([] : List Int)) (inner := []) (ok := fun _ => True) (okp := fun _ => True) ?hr ?hp (fun _ hk => hk) trivial (Below.refl _ _) (Nat.le_refl _) (by simp) ?_; (case hd => rfl); (case hg => rfl); (case hr => first | (go_simp; done) | (go_simp; rfl)); (case hp => exact (Reps.none _ _)); intro v_ w5 ho6 hb5 hg_ hnew_; clear hg_ hnew_; have HO := Aside0.mk (Kd.R_lower ho6 (below_size (by repeat (first | exact HB.out | apply below_alloc | apply pw_below_drewN | apply below_drew1)))); have HN := Aside0.mk (below_step (by repeat (first | exact HB.out | apply below_alloc | apply pw_below_drewN | apply below_drew1)) hb5); clear HB; have HB := HN; clear HN hb5 ho6; obtain ⟨Ao6, co6, eo6⟩ := Kd.R_slice HO.out; subst eo6) | ((with_reducible refine gate_builtin (b := .append) (xs := #[.tmp 5, .tmp 6]) rfl ?_); at_builtin; refine Kd.R_append_rows (Kd.int .i64) (w0 := w) w.heap.size rfl (.tmp 5) (.tmp 6) 26 2 (.int .i64 0) 8 rfl Try.underlying26 info2 rfl (by decide) (by omega) _ [] l0 _ _ _ (fun _ => True) (fun _ => False) rfl rfl ?aO ?aR (fun _ _ h => h) (fun _ h => h.elim) ?aF ?aB ?aS ?aL ?_; (case aR => repeat (first | exact (Kd.C_below HR.out HB.out) | (with_reducible refine Kd.C_alloc ?_ _) | (with_reducible refine Kd.C_drewN ?_ _) | (with_reducible refine Kd.C_drew ?_))); (case aB => exact (by repeat (first | exact HB.out | apply below_alloc | apply pw_below_drewN | apply below_drew1))); (case aF => exact (fun _ _ => trivial)); (case aO => exact HO.out); (case aS => exact (below_size (by repeat (first | exact HB.out | apply below_alloc | apply pw_below_drewN | apply below_drew1)))); (case aL => simp only [List.length_nil]; omega); intro v9 w9 ho hb9 hg hat; rw [List.nil_append] at ho; have HO9 := Aside0.mk ho; have HB9 := Aside0.mk hb9; clear HO HB ho hb9 hg hat; obtain ⟨Ao9, co9, eo9⟩ := Kd.R_slice HO9.out; subst eo9))
   go_ret
   exact ⟨_, rfl, HO9.out, by repeat (first | exact HB9.out | apply below_alloc | apply pw_below_drewN | apply below_drew1)⟩
 ·rw [if_neg hb] at h
  cases h

end Go.Proofs.Ytmgbdbamfljjnaa.PFnExactBusWrite
