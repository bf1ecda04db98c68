/- What the Go functions that the law FnExactBusRead reaches compute, function by function, and that Go comes to just that. -/
import Derived.Test.YtmgbdbamfljjnaaPFnExactBusReadx0
import Derived.Test.YtmgbdbamfljjnaaPFnExactBusReadx4
import Derived.Test.YtmgbdbamfljjnaaPFnExactBusReadx5
namespace Go.Proofs.Ytmgbdbamfljjnaa.PFnExactBusRead
open Go.RowKit Go.Proofs.YtmgbdbamfljjnaaW.PrintWords Go.Proofs.YtmgbdbamfljjnaaW.PrintLast Go.Proofs.YtmgbdbamfljjnaaW.PrintMore
attribute [local go_sem] max2_int min2_int max_two min_two max_three min_three max_four min_four   -- for this text's walks alone
set_option linter.unusedVariables false
set_option linter.unusedSimpArgs false

/-! ### impl_MachineOk: function 10 -/
def impl_MachineOk.l0 : Nat → List Int → Int → Int → Int → Int → Int → Int → Int → Int → Int → Int → Int → Int → Bool → Bool → ByteArray → Int → Int → ByteArray → Int → Bool → Int → ByteArray → ByteArray → List Int → Int → Int → Int → Int → Int → Int → Int → Int → Int → Int → Int → Bool → Bool → Option (Bool)
  | 0, _, _, _, _, _, _, _, _, _, _, _, _, _, _, _, _, _, _, _, _, _, _, _, _, _, _, _, _, _, _, _, _, _, _, _, _, _, _ => none
  | k + 1, x24, x25, x26, x200000, x200001, x200002, x200003, x200004, x200005, x200006, x200007, x200008, x200009, x200010, x200011, x200012, x200013, x200014, x200015, x200016, x200017, x200018, x200019, x200020, x200021, x200022, x201000, x201001, x201002, x201003, x201004, x201005, x201006, x201007, x201008, x201009, x201010, x201011 => if x26 < x25 then (if 0 ≤ x26 then (if x26 < (x24.length : Int) then ((impl_isByte.f (rd x24 x26)).bind fun t205 => (if t205 = true then (impl_MachineOk.l0 k x24 x25 (wrap64 (x26 + 1)) x200000 x200001 x200002 x200003 x200004 x200005 x200006 x200007 x200008 x200009 x200010 x200011 x200012 x200013 x200014 x200015 x200016 x200017 x200018 x200019 x200020 x200021 x200022 x201000 x201001 x201002 x201003 x201004 x201005 x201006 x201007 x201008 x201009 x201010 x201011) else (some false))) else (none)) else (none)) else ((slices_ContainsFunc_int64_int64.f x200021 ()).bind fun t206 => (if t206 = true then (some false) else (if (Int.tmod x201001 16) = 0 then ((impl_isWord.f x201008).bind fun t207 => (if t207 = true then ((impl_isWord.f x201009).bind fun t208 => (if t208 = true then ((impl_CartOk.f k x200012 x200013 x200014 x200015 x200016 x200017 x200018).bind fun t209 => (if t209 = true then (if (x200019.size : Int) = 256 then (if (x200020.size : Int) = 127 then (if (x200021.length : Int) ≤ 100 then ((impl_within.f x200022 0 1000000000).bind fun t210 => (some t210)) else (some false)) else (some false)) else (some false)) else (some false))) else (some false))) else (some false))) else (some false))))
def impl_MachineOk.f (k : Nat) (a0_0 : Int) (a0_1 : Int) (a0_2 : Int) (a0_3 : Int) (a0_4 : Int) (a0_5 : Int) (a0_6 : Int) (a0_7 : Int) (a0_8 : Int) (a0_9 : Int) (a0_10 : Bool) (a0_11 : Bool) (a0_12 : ByteArray) (a0_13 : Int) (a0_14 : Int) (a0_15 : ByteArray) (a0_16 : Int) (a0_17 : Bool) (a0_18 : Int) (a0_19 : ByteArray) (a0_20 : ByteArray) (l0_21 : List Int) (a0_22 : Int) : Option (Bool) := (some (([a0_0, a0_1, a0_2, a0_3, a0_4, a0_5, a0_6, a0_7] : List Int) : List Int)).bind fun y201 => (impl_MachineOk.l0 k y201 (y201.length : Int) 0 a0_0 a0_1 a0_2 a0_3 a0_4 a0_5 a0_6 a0_7 a0_8 a0_9 a0_10 a0_11 a0_12 a0_13 a0_14 a0_15 a0_16 a0_17 a0_18 a0_19 a0_20 l0_21 a0_22 a0_0 a0_1 a0_2 a0_3 a0_4 a0_5 a0_6 a0_7 a0_8 a0_9 a0_10 a0_11)
theorem impl_MachineOk.mono_l : ∀ k, (∀ y0 y1 y2 y3 y4 y5 y6 y7 y8 y9 y10 y11 y12 y13 y14 y15 y16 y17 y18 y19 y20 y21 y22 y23 y24 y25 y26 y27 y28 y29 y30 y31 y32 y33 y34 y35 y36 y37, LeO (impl_MachineOk.l0 k y0 y1 y2 y3 y4 y5 y6 y7 y8 y9 y10 y11 y12 y13 y14 y15 y16 y17 y18 y19 y20 y21 y22 y23 y24 y25 y26 y27 y28 y29 y30 y31 y32 y33 y34 y35 y36 y37) (impl_MachineOk.l0 (k + 1) y0 y1 y2 y3 y4 y5 y6 y7 y8 y9 y10 y11 y12 y13 y14 y15 y16 y17 y18 y19 y20 y21 y22 y23 y24 y25 y26 y27 y28 y29 y30 y31 y32 y33 y34 y35 y36 y37))
  | 0 => fun _ _ _ _ _ _ _ _ _ _ _ _ _ _ _ _ _ _ _ _ _ _ _ _ _ _ _ _ _ _ _ _ _ _ _ _ _ _ r h => by simp [impl_MachineOk.l0] at h
  | k + 1 => by
    have ih0 := impl_MachineOk.mono_l k
    · intro y0 y1 y2 y3 y4 y5 y6 y7 y8 y9 y10 y11 y12 y13 y14 y15 y16 y17 y18 y19 y20 y21 y22 y23 y24 y25 y26 y27 y28 y29 y30 y31 y32 y33 y34 y35 y36 y37
      unfold impl_MachineOk.l0
      repeat' first
      | (with_reducible exact ih0 _ _ _ _ _ _ _ _ _ _ _ _ _ _ _ _ _ _ _ _ _ _ _ _ _ _ _ _ _ _ _ _ _ _ _ _ _ _)
      | (with_reducible exact impl_CartOk.mono _ _ _ _ _ _ _ _)
      | (with_reducible exact LeO.refl _)
      | (with_reducible exact LeO.none _)
      | (with_reducible refine LeO.ite ?_ ?_)
      | (with_reducible refine LeO.bind ?_ (fun _ => ?_))
      | exact ih0 _ _ _ _ _ _ _ _ _ _ _ _ _ _ _ _ _ _ _ _ _ _ _ _ _ _ _ _ _ _ _ _ _ _ _ _ _ _
      | exact impl_CartOk.mono _ _ _ _ _ _ _ _
      | exact LeO.none _
      | refine LeO.ite ?_ ?_
      | refine LeO.bind ?_ (fun _ => ?_)
theorem impl_MachineOk.mono : ∀ a0 a1 a2 a3 a4 a5 a6 a7 a8 a9 a10 a11 a12 a13 a14 a15 a16 a17 a18 a19 a20 a21 a22 k, LeO (impl_MachineOk.f k a0 a1 a2 a3 a4 a5 a6 a7 a8 a9 a10 a11 a12 a13 a14 a15 a16 a17 a18 a19 a20 a21 a22) (impl_MachineOk.f (k + 1) a0 a1 a2 a3 a4 a5 a6 a7 a8 a9 a10 a11 a12 a13 a14 a15 a16 a17 a18 a19 a20 a21 a22) := by
  intro a0 a1 a2 a3 a4 a5 a6 a7 a8 a9 a10 a11 a12 a13 a14 a15 a16 a17 a18 a19 a20 a21 a22 k
  have ih0 := impl_MachineOk.mono_l k
  unfold impl_MachineOk.f
  repeat' first
      | (with_reducible exact ih0 _ _ _ _ _ _ _ _ _ _ _ _ _ _ _ _ _ _ _ _ _ _ _ _ _ _ _ _ _ _ _ _ _ _ _ _ _ _)
      | (with_reducible exact impl_CartOk.mono _ _ _ _ _ _ _ _)
      | (with_reducible exact LeO.refl _)
      | (with_reducible exact LeO.none _)
      | (with_reducible refine LeO.ite ?_ ?_)
      | (with_reducible refine LeO.bind ?_ (fun _ => ?_))
      | exact ih0 _ _ _ _ _ _ _ _ _ _ _ _ _ _ _ _ _ _ _ _ _ _ _ _ _ _ _ _ _ _ _ _ _ _ _ _ _ _
      | exact impl_CartOk.mono _ _ _ _ _ _ _ _
      | exact LeO.none _
      | refine LeO.ite ?_ ?_
      | refine LeO.bind ?_ (fun _ => ?_)
open Go.Proofs.Ytmgbdbamfljjnaa.Aid in
set_option maxHeartbeats 8000000 in
set_option maxRecDepth 100000 in
theorem impl_MachineOk.calls (k : Nat) (a0_0 : Int) (a0_1 : Int) (a0_2 : Int) (a0_3 : Int) (a0_4 : Int) (a0_5 : Int) (a0_6 : Int) (a0_7 : Int) (a0_8 : Int) (a0_9 : Int) (a0_10 : Bool) (a0_11 : Bool) (a0_12 : ByteArray) (a0_13 : Int) (a0_14 : Int) (a0_15 : ByteArray) (a0_16 : Int) (a0_17 : Bool) (a0_18 : Int) (a0_19 : ByteArray) (a0_20 : ByteArray) (A0_21 : Option Addr) (c0_21 : Nat) (l0_21 : List Int) (a0_22 : Int) (r : Bool) (w : World) (hr0_21 : Kd.C (Kd.int .i64) w A0_21 l0_21.length l0_21) (hc0_21 : l0_21.length ≤ c0_21) (h : impl_MachineOk.f k a0_0 a0_1 a0_2 a0_3 a0_4 a0_5 a0_6 a0_7 a0_8 a0_9 a0_10 a0_11 a0_12 a0_13 a0_14 a0_15 a0_16 a0_17 a0_18 a0_19 a0_20 l0_21 a0_22 = some r) :
    Calls Try.prog 10 #[.agg #[.int .i64 a0_0, .int .i64 a0_1, .int .i64 a0_2, .int .i64 a0_3, .int .i64 a0_4, .int .i64 a0_5, .int .i64 a0_6, .int .i64 a0_7, .int .i64 a0_8, .int .i64 a0_9, .bool a0_10, .bool a0_11, .string a0_12, .int .i64 a0_13, .int .i64 a0_14, .string a0_15, .int .i64 a0_16, .bool a0_17, .int .i64 a0_18, .string a0_19, .string a0_20, .slice A0_21 l0_21.length c0_21, .int .i64 a0_22]] w fun e w' => e = .returned (.bool r) ∧ Below w.heap.size w w' := by
  have hu34 := Try.underlying34
  have hu31 := Try.underlying31
  have hu32 := Try.underlying32
  have HR0_21 := Aside0.mk hr0_21
  have HC0_21 := Aside0.mk hc0_21
  clear hr0_21 hc0_21
  have HB := Aside0.mk (Below.refl w.heap.size w)
  have H : ((some (([a0_0, a0_1, a0_2, a0_3, a0_4, a0_5, a0_6, a0_7] : List Int) : List Int)).bind fun y201 => (impl_MachineOk.l0 k y201 (y201.length : Int) 0 a0_0 a0_1 a0_2 a0_3 a0_4 a0_5 a0_6 a0_7 a0_8 a0_9 a0_10 a0_11 a0_12 a0_13 a0_14 a0_15 a0_16 a0_17 a0_18 a0_19 a0_20 l0_21 a0_22 a0_0 a0_1 a0_2 a0_3 a0_4 a0_5 a0_6 a0_7 a0_8 a0_9 a0_10 a0_11)) = some r := h
  clear h
  obtain ⟨y201, hy201⟩ : ∃ y_ : List Int, y_ = (([a0_0, a0_1, a0_2, a0_3, a0_4, a0_5, a0_6, a0_7] : List Int)) := ⟨_, rfl⟩
  replace H : (impl_MachineOk.l0 k y201 (y201.length : Int) 0 a0_0 a0_1 a0_2 a0_3 a0_4 a0_5 a0_6 a0_7 a0_8 a0_9 a0_10 a0_11 a0_12 a0_13 a0_14 a0_15 a0_16 a0_17 a0_18 a0_19 a0_20 l0_21 a0_22 a0_0 a0_1 a0_2 a0_3 a0_4 a0_5 a0_6 a0_7 a0_8 a0_9 a0_10 a0_11) = some r := by first | (rw [hy201]; with_reducible exact H) | (have H2_ := (Option.bind_some _ _).symm.trans H; rw [hy201]; with_reducible exact H2_) | (have H2_ := (Option.bind_some _ _).symm.trans H; with_reducible exact H2_) | with_reducible exact H | (rw [hy201]; exact H) | exact H
  have Ny201 := Aside0.mk hy201
  clear hy201
  have H' := Aside0.mk H
  clear H
  go_enter Try.func10, Try.ntmps10
  go_wp2_with (first | ((with_reducible refine gate_dst (N := 1) rfl ?_); (try (refine gate_guard (by rfl) ?_; dsimp only)); refine box_event ?hg (N := 1) ?hd (cs := #[.int .i64 a0_0, .int .i64 a0_1, .int .i64 a0_2, .int .i64 a0_3, .int .i64 a0_4, .int .i64 a0_5, .int .i64 a0_6, .int .i64 a0_7, .int .i64 a0_8, .int .i64 a0_9, .bool a0_10, .bool a0_11, .string a0_12, .int .i64 a0_13, .int .i64 a0_14, .string a0_15, .int .i64 a0_16, .bool a0_17, .int .i64 a0_18, .string a0_19, .string a0_20, .slice A0_21 l0_21.length c0_21, .int .i64 a0_22]) (t := 34) ?hr ?_; (case hd => rfl); (case hg => rfl); (case hr => first | (go_simp; done) | (go_simp; rfl)); intro gb199 hg w2 hbox hb; have n0_ := Aside0.mk (below_step (by repeat (first | (with_reducible first | exact HB.out | apply below_alloc | apply pw_below_drewN | apply below_drew1) | exact HB.out)) hb); have n1_ := Aside0.mk (hbox); have n2_ := Aside0.mk ((by rw [hg]; exact (below_size (by repeat (first | (with_reducible first | exact HB.out | apply below_alloc | apply pw_below_drewN | apply below_drew1) | exact HB.out))) : w.heap.size ≤ gb199)); have n3_ := Aside0.mk ((by rw [hg]; exact (below_size (by repeat (first | (with_reducible first | exact HB.out | apply below_alloc | apply pw_below_drewN | apply below_drew1) | exact HB.out))) : w.heap.size ≤ gb199)); clear HB; have HB := n0_; have BK199 := n1_; have GW199 := n2_; have GE199 := n3_; clear n0_ n1_ n2_ n3_; clear hb hbox hg; have hZ3_ := cells_all BK199.out; simp only [allCells, Nat.zero_add, Nat.reduceAdd] at hZ3_; obtain ⟨hcz3_0, hfz3_0, hcz3_1, hfz3_1, hcz3_2, hfz3_2, hcz3_3, hfz3_3, hcz3_4, hfz3_4, hcz3_5, hfz3_5, hcz3_6, hfz3_6, hcz3_7, hfz3_7, hcz3_8, hfz3_8, hcz3_9, hfz3_9, hcz3_10, hfz3_10, hcz3_11, hfz3_11, hcz3_12, hfz3_12, hcz3_13, hfz3_13, hcz3_14, hfz3_14, hcz3_15, hfz3_15, hcz3_16, hfz3_16, hcz3_17, hfz3_17, hcz3_18, hfz3_18, hcz3_19, hfz3_19, hcz3_20, hfz3_20, hcz3_21, hfz3_21, hcz3_22, hfz3_22, _⟩ := hZ3_) | ((with_reducible refine gate_dst (N := 3) rfl ?_); (try (refine gate_guard (by rfl) ?_; dsimp only)); refine box_event ?hg (N := 3) ?hd (cs := #[.int .i64 0, .int .i64 0, .int .i64 0, .int .i64 0, .int .i64 0, .int .i64 0, .int .i64 0, .int .i64 0, .int .i64 0, .int .i64 0, .bool false, .bool false]) (t := 31) ?hr ?_; (case hd => rfl); (case hg => rfl); (case hr => first | (go_simp; done) | (go_simp; rfl)); intro gb200 hg w4 hbox hb; have n0_ := Aside0.mk (blk_below (g := gb199) (o := .cells #[.int .i64 a0_0, .int .i64 a0_1, .int .i64 a0_2, .int .i64 a0_3, .int .i64 a0_4, .int .i64 a0_5, .int .i64 a0_6, .int .i64 a0_7, .int .i64 a0_8, .int .i64 a0_9, .bool a0_10, .bool a0_11, .string a0_12, .int .i64 a0_13, .int .i64 a0_14, .string a0_15, .int .i64 a0_16, .bool a0_17, .int .i64 a0_18, .string a0_19, .string a0_20, .slice A0_21 l0_21.length c0_21, .int .i64 a0_22] 34 (0, 0)) (by (with_reducible repeat (first | refine blk_drewN ?_ _ | refine blk_drew ?_ | refine blk_alloc ?_ _)); exact BK199.out) hb); have n1_ := Aside0.mk (below_step (by repeat (first | (with_reducible first | exact HB.out | apply below_alloc | apply pw_below_drewN | apply below_drew1 | refine below_set ?_ GE199.out) | exact HB.out)) hb); have n2_ := Aside0.mk (hbox); have n3_ := Aside0.mk ((by rw [hg]; exact (below_size (by repeat (first | (with_reducible first | exact HB.out | apply below_alloc | apply pw_below_drewN | apply below_drew1 | refine below_set ?_ GE199.out) | exact HB.out))) : w.heap.size ≤ gb200)); have n4_ := Aside0.mk ((by rw [hg]; exact (below_size (by repeat (first | (with_reducible first | exact HB.out | apply below_alloc | apply pw_below_drewN | apply below_drew1 | refine below_set ?_ GE199.out) | exact HB.out))) : w.heap.size ≤ gb200)); have n5_ := Aside0.mk ((by rw [hg]; exact Nat.ne_of_lt (blk_lt (g := gb199) (o := .cells #[.int .i64 a0_0, .int .i64 a0_1, .int .i64 a0_2, .int .i64 a0_3, .int .i64 a0_4, .int .i64 a0_5, .int .i64 a0_6, .int .i64 a0_7, .int .i64 a0_8, .int .i64 a0_9, .bool a0_10, .bool a0_11, .string a0_12, .int .i64 a0_13, .int .i64 a0_14, .string a0_15, .int .i64 a0_16, .bool a0_17, .int .i64 a0_18, .string a0_19, .string a0_20, .slice A0_21 l0_21.length c0_21, .int .i64 a0_22] 34 (0, 0)) (by (with_reducible repeat (first | refine blk_drewN ?_ _ | refine blk_drew ?_ | refine blk_alloc ?_ _)); exact BK199.out)) : gb199 ≠ gb200)); have n6_ := Aside0.mk ((by rw [hg]; exact Nat.ne_of_gt (blk_lt (g := gb199) (o := .cells #[.int .i64 a0_0, .int .i64 a0_1, .int .i64 a0_2, .int .i64 a0_3, .int .i64 a0_4, .int .i64 a0_5, .int .i64 a0_6, .int .i64 a0_7, .int .i64 a0_8, .int .i64 a0_9, .bool a0_10, .bool a0_11, .string a0_12, .int .i64 a0_13, .int .i64 a0_14, .string a0_15, .int .i64 a0_16, .bool a0_17, .int .i64 a0_18, .string a0_19, .string a0_20, .slice A0_21 l0_21.length c0_21, .int .i64 a0_22] 34 (0, 0)) (by (with_reducible repeat (first | refine blk_drewN ?_ _ | refine blk_drew ?_ | refine blk_alloc ?_ _)); exact BK199.out)) : gb200 ≠ gb199)); clear BK199; clear HB; have BK199 := n0_; have HB := n1_; have BK200 := n2_; have GW200 := n3_; have GE200 := n4_; have NB199_200 := n5_; have NB200_199 := n6_; clear n0_ n1_ n2_ n3_ n4_ n5_ n6_; clear hb hbox hg; have hnb5 := NB200_199.out; have hnc5 := NB199_200.out; have hZ6_ := cells_all BK200.out; simp only [allCells, Nat.zero_add, Nat.reduceAdd] at hZ6_; obtain ⟨hcz6_0, hfz6_0, hcz6_1, hfz6_1, hcz6_2, hfz6_2, hcz6_3, hfz6_3, hcz6_4, hfz6_4, hcz6_5, hfz6_5, hcz6_6, hfz6_6, hcz6_7, hfz6_7, hcz6_8, hfz6_8, hcz6_9, hfz6_9, hcz6_10, hfz6_10, hcz6_11, hfz6_11, _⟩ := hZ6_) | ((with_reducible refine gate_dst (N := 24) rfl ?_); (try (refine gate_guard (by rfl) ?_; dsimp only)); refine Kd.R_lit (Kd.int .i64) _ 2 ?hg (N := 24) ?hd (xs := ([a0_0, a0_1, a0_2, a0_3, a0_4, a0_5, a0_6, a0_7] : List Int)) (inner := [.int .i64 a0_0, .int .i64 a0_1, .int .i64 a0_2, .int .i64 a0_3, .int .i64 a0_4, .int .i64 a0_5, .int .i64 a0_6, .int .i64 a0_7]) (ok := fun _ => True) (okp := fun _ => True) ?hr ?hp (fun _ hk => hk) trivial (Below.refl _ _) (Nat.le_refl _) (by simp) ?_; (case hd => rfl); (case hg => rfl); (case hr => first | (go_simp; done) | (go_simp; rfl)); (case hp => exact (Reps.one (show Kd.M (Kd.int .i64) _ _ _ a0_0 [.int .i64 a0_0] from rfl) (Reps.one (show Kd.M (Kd.int .i64) _ _ _ a0_1 [.int .i64 a0_1] from rfl) (Reps.one (show Kd.M (Kd.int .i64) _ _ _ a0_2 [.int .i64 a0_2] from rfl) (Reps.one (show Kd.M (Kd.int .i64) _ _ _ a0_3 [.int .i64 a0_3] from rfl) (Reps.one (show Kd.M (Kd.int .i64) _ _ _ a0_4 [.int .i64 a0_4] from rfl) (Reps.one (show Kd.M (Kd.int .i64) _ _ _ a0_5 [.int .i64 a0_5] from rfl) (Reps.one (show Kd.M (Kd.int .i64) _ _ _ a0_6 [.int .i64 a0_6] from rfl) (Reps.one (show Kd.M (Kd.int .i64) _ _ _ a0_7 [.int .i64 a0_7] from rfl) (Reps.none _ _)))))))))); intro v202 w7 ho8 hb hg_ hnew_; clear hg_ hnew_; (first | rw [← Ny201.out] at ho8 | (simp only [Int.reduceToNat] at ho8; rw [← Ny201.out] at ho8)); have n0_ := Aside0.mk (Kd.R_lower ho8 (below_size (by repeat (first | (with_reducible first | exact HB.out | apply below_alloc | apply pw_below_drewN | apply below_drew1 | refine below_set ?_ GE199.out | refine below_set ?_ GE200.out) | exact HB.out)))); have n1_ := Aside0.mk (blk_below (g := gb199) (o := .cells #[.int .i64 a0_0, .int .i64 a0_1, .int .i64 a0_2, .int .i64 a0_3, .int .i64 a0_4, .int .i64 a0_5, .int .i64 a0_6, .int .i64 a0_7, .int .i64 a0_8, .int .i64 a0_9, .bool a0_10, .bool a0_11, .string a0_12, .int .i64 a0_13, .int .i64 a0_14, .string a0_15, .int .i64 a0_16, .bool a0_17, .int .i64 a0_18, .string a0_19, .string a0_20, .slice A0_21 l0_21.length c0_21, .int .i64 a0_22] 34 (0, 0)) (by (with_reducible repeat (first | refine blk_drewN ?_ _ | refine blk_drew ?_ | refine blk_alloc ?_ _)); refine blk_far ?_ NB199_200.out _; (with_reducible repeat (first | refine blk_drewN ?_ _ | refine blk_drew ?_ | refine blk_alloc ?_ _)); refine blk_far ?_ NB199_200.out _; (with_reducible repeat (first | refine blk_drewN ?_ _ | refine blk_drew ?_ | refine blk_alloc ?_ _)); refine blk_far ?_ NB199_200.out _; (with_reducible repeat (first | refine blk_drewN ?_ _ | refine blk_drew ?_ | refine blk_alloc ?_ _)); refine blk_far ?_ NB199_200.out _; (with_reducible repeat (first | refine blk_drewN ?_ _ | refine blk_drew ?_ | refine blk_alloc ?_ _)); refine blk_far ?_ NB199_200.out _; (with_reducible repeat (first | refine blk_drewN ?_ _ | refine blk_drew ?_ | refine blk_alloc ?_ _)); refine blk_far ?_ NB199_200.out _; (with_reducible repeat (first | refine blk_drewN ?_ _ | refine blk_drew ?_ | refine blk_alloc ?_ _)); refine blk_far ?_ NB199_200.out _; (with_reducible repeat (first | refine blk_drewN ?_ _ | refine blk_drew ?_ | refine blk_alloc ?_ _)); refine blk_far ?_ NB199_200.out _; (with_reducible repeat (first | refine blk_drewN ?_ _ | refine blk_drew ?_ | refine blk_alloc ?_ _)); refine blk_far ?_ NB199_200.out _; (with_reducible repeat (first | refine blk_drewN ?_ _ | refine blk_drew ?_ | refine blk_alloc ?_ _)); refine blk_far ?_ NB199_200.out _; (with_reducible repeat (first | refine blk_drewN ?_ _ | refine blk_drew ?_ | refine blk_alloc ?_ _)); refine blk_far ?_ NB199_200.out _; (with_reducible repeat (first | refine blk_drewN ?_ _ | refine blk_drew ?_ | refine blk_alloc ?_ _)); refine blk_far ?_ NB199_200.out _; (with_reducible repeat (first | refine blk_drewN ?_ _ | refine blk_drew ?_ | refine blk_alloc ?_ _)); exact BK199.out) hb); have n2_ := Aside0.mk (blk_below (g := gb200) (o := .cells #[.int .i64 a0_0, .int .i64 a0_1, .int .i64 a0_2, .int .i64 a0_3, .int .i64 a0_4, .int .i64 a0_5, .int .i64 a0_6, .int .i64 a0_7, .int .i64 a0_8, .int .i64 a0_9, .bool a0_10, .bool a0_11] 31 (0, 0)) (by (with_reducible repeat (first | refine blk_drewN ?_ _ | refine blk_drew ?_ | refine blk_alloc ?_ _)); refine blk_put (cs := #[.int .i64 a0_0, .int .i64 a0_1, .int .i64 a0_2, .int .i64 a0_3, .int .i64 a0_4, .int .i64 a0_5, .int .i64 a0_6, .int .i64 a0_7, .int .i64 a0_8, .int .i64 a0_9, .bool a0_10, .bool false]) ?_ 11 _ rfl; (with_reducible repeat (first | refine blk_drewN ?_ _ | refine blk_drew ?_ | refine blk_alloc ?_ _)); refine blk_put (cs := #[.int .i64 a0_0, .int .i64 a0_1, .int .i64 a0_2, .int .i64 a0_3, .int .i64 a0_4, .int .i64 a0_5, .int .i64 a0_6, .int .i64 a0_7, .int .i64 a0_8, .int .i64 a0_9, .bool false, .bool false]) ?_ 10 _ rfl; (with_reducible repeat (first | refine blk_drewN ?_ _ | refine blk_drew ?_ | refine blk_alloc ?_ _)); refine blk_put (cs := #[.int .i64 a0_0, .int .i64 a0_1, .int .i64 a0_2, .int .i64 a0_3, .int .i64 a0_4, .int .i64 a0_5, .int .i64 a0_6, .int .i64 a0_7, .int .i64 a0_8, .int .i64 0, .bool false, .bool false]) ?_ 9 _ rfl; (with_reducible repeat (first | refine blk_drewN ?_ _ | refine blk_drew ?_ | refine blk_alloc ?_ _)); refine blk_put (cs := #[.int .i64 a0_0, .int .i64 a0_1, .int .i64 a0_2, .int .i64 a0_3, .int .i64 a0_4, .int .i64 a0_5, .int .i64 a0_6, .int .i64 a0_7, .int .i64 0, .int .i64 0, .bool false, .bool false]) ?_ 8 _ rfl; (with_reducible repeat (first | refine blk_drewN ?_ _ | refine blk_drew ?_ | refine blk_alloc ?_ _)); refine blk_put (cs := #[.int .i64 a0_0, .int .i64 a0_1, .int .i64 a0_2, .int .i64 a0_3, .int .i64 a0_4, .int .i64 a0_5, .int .i64 a0_6, .int .i64 0, .int .i64 0, .int .i64 0, .bool false, .bool false]) ?_ 7 _ rfl; (with_reducible repeat (first | refine blk_drewN ?_ _ | refine blk_drew ?_ | refine blk_alloc ?_ _)); refine blk_put (cs := #[.int .i64 a0_0, .int .i64 a0_1, .int .i64 a0_2, .int .i64 a0_3, .int .i64 a0_4, .int .i64 a0_5, .int .i64 0, .int .i64 0, .int .i64 0, .int .i64 0, .bool false, .bool false]) ?_ 6 _ rfl; (with_reducible repeat (first | refine blk_drewN ?_ _ | refine blk_drew ?_ | refine blk_alloc ?_ _)); refine blk_put (cs := #[.int .i64 a0_0, .int .i64 a0_1, .int .i64 a0_2, .int .i64 a0_3, .int .i64 a0_4, .int .i64 0, .int .i64 0, .int .i64 0, .int .i64 0, .int .i64 0, .bool false, .bool false]) ?_ 5 _ rfl; (with_reducible repeat (first | refine blk_drewN ?_ _ | refine blk_drew ?_ | refine blk_alloc ?_ _)); refine blk_put (cs := #[.int .i64 a0_0, .int .i64 a0_1, .int .i64 a0_2, .int .i64 a0_3, .int .i64 0, .int .i64 0, .int .i64 0, .int .i64 0, .int .i64 0, .int .i64 0, .bool false, .bool false]) ?_ 4 _ rfl; (with_reducible repeat (first | refine blk_drewN ?_ _ | refine blk_drew ?_ | refine blk_alloc ?_ _)); refine blk_put (cs := #[.int .i64 a0_0, .int .i64 a0_1, .int .i64 a0_2, .int .i64 0, .int .i64 0, .int .i64 0, .int .i64 0, .int .i64 0, .int .i64 0, .int .i64 0, .bool false, .bool false]) ?_ 3 _ rfl; (with_reducible repeat (first | refine blk_drewN ?_ _ | refine blk_drew ?_ | refine blk_alloc ?_ _)); refine blk_put (cs := #[.int .i64 a0_0, .int .i64 a0_1, .int .i64 0, .int .i64 0, .int .i64 0, .int .i64 0, .int .i64 0, .int .i64 0, .int .i64 0, .int .i64 0, .bool false, .bool false]) ?_ 2 _ rfl; (with_reducible repeat (first | refine blk_drewN ?_ _ | refine blk_drew ?_ | refine blk_alloc ?_ _)); refine blk_put (cs := #[.int .i64 a0_0, .int .i64 0, .int .i64 0, .int .i64 0, .int .i64 0, .int .i64 0, .int .i64 0, .int .i64 0, .int .i64 0, .int .i64 0, .bool false, .bool false]) ?_ 1 _ rfl; (with_reducible repeat (first | refine blk_drewN ?_ _ | refine blk_drew ?_ | refine blk_alloc ?_ _)); refine blk_put (cs := #[.int .i64 0, .int .i64 0, .int .i64 0, .int .i64 0, .int .i64 0, .int .i64 0, .int .i64 0, .int .i64 0, .int .i64 0, .int .i64 0, .bool false, .bool false]) ?_ 0 _ rfl; (with_reducible repeat (first | refine blk_drewN ?_ _ | refine blk_drew ?_ | refine blk_alloc ?_ _)); exact BK200.out) hb); have n3_ := Aside0.mk (below_step (by repeat (first | (with_reducible first | exact HB.out | apply below_alloc | apply pw_below_drewN | apply below_drew1 | refine below_set ?_ GE199.out | refine below_set ?_ GE200.out) | exact HB.out)) hb); clear BK199; clear BK200; clear HB; have HO203 := n0_; have BK199 := n1_; have BK200 := n2_; have HB := n3_; clear n0_ n1_ n2_ n3_; clear hb ho8; obtain ⟨Ao9, co9, eo9⟩ := Kd.R_slice HO203.out; subst eo9))
  go_loopg [26] k (fun kq v26 w' => ∃ (x26_1 : Int), v26 = .int .i64 x26_1 ∧ Aside0 (impl_MachineOk.l0 kq y201 (y201.length : Int) x26_1 a0_0 a0_1 a0_2 a0_3 a0_4 a0_5 a0_6 a0_7 a0_8 a0_9 a0_10 a0_11 a0_12 a0_13 a0_14 a0_15 a0_16 a0_17 a0_18 a0_19 a0_20 l0_21 a0_22 a0_0 a0_1 a0_2 a0_3 a0_4 a0_5 a0_6 a0_7 a0_8 a0_9 a0_10 a0_11 = some r) ∧ Aside0 (kq ≤ k) ∧ Aside0 (Kd.R (Kd.int .i64) 2 w' w.heap.size (fun _ => True) (.slice Ao9 y201.length co9) y201) ∧ Aside0 (w'.heap[gb199]? = some (.cells #[.int .i64 a0_0, .int .i64 a0_1, .int .i64 a0_2, .int .i64 a0_3, .int .i64 a0_4, .int .i64 a0_5, .int .i64 a0_6, .int .i64 a0_7, .int .i64 a0_8, .int .i64 a0_9, .bool a0_10, .bool a0_11, .string a0_12, .int .i64 a0_13, .int .i64 a0_14, .string a0_15, .int .i64 a0_16, .bool a0_17, .int .i64 a0_18, .string a0_19, .string a0_20, (.slice A0_21 l0_21.length c0_21), .int .i64 a0_22] 34 (0, 0))) ∧ Aside0 (w'.heap[gb200]? = some (.cells #[.int .i64 a0_0, .int .i64 a0_1, .int .i64 a0_2, .int .i64 a0_3, .int .i64 a0_4, .int .i64 a0_5, .int .i64 a0_6, .int .i64 a0_7, .int .i64 a0_8, .int .i64 a0_9, .bool a0_10, .bool a0_11] 31 (0, 0))) ∧ Aside0 (Below w.heap.size w w'))
  case atStart => exact ⟨(0), (by first | rfl | (simp; done) | (simp [*]; done)), H', ⟨Nat.le_refl _⟩, ⟨by (with_reducible repeat (first | apply Kd.R_alloc | apply Kd.R_drewN | apply Kd.R_drew)); exact HO203.out⟩, ⟨by (with_reducible repeat (first | refine blk_drewN ?_ _ | refine blk_drew ?_ | refine blk_alloc ?_ _)); exact BK199.out⟩, ⟨by (with_reducible repeat (first | refine blk_drewN ?_ _ | refine blk_drew ?_ | refine blk_alloc ?_ _)); exact BK200.out⟩, ⟨by repeat (first | (with_reducible first | exact HB.out | apply below_alloc | apply pw_below_drewN | apply below_drew1 | refine below_set ?_ GE199.out | refine below_set ?_ GE200.out) | exact HB.out)⟩⟩
  case round =>
    clear H'
    try clear c1
    try clear p2
    try clear c5
    try clear hcz3_0
    try clear hcz3_1
    try clear hcz3_10
    try clear hcz3_11
    try clear hcz3_12
    try clear hcz3_13
    try clear hcz3_14
    try clear hcz3_15
    try clear hcz3_16
    try clear hcz3_17
    try clear hcz3_18
    try clear hcz3_19
    try clear hcz3_2
    try clear hcz3_20
    try clear hcz3_21
    try clear hcz3_22
    try clear hcz3_3
    try clear hcz3_4
    try clear hcz3_5
    try clear hcz3_6
    try clear hcz3_7
    try clear hcz3_8
    try clear hcz3_9
    try clear hcz6_0
    try clear hcz6_1
    try clear hcz6_10
    try clear hcz6_11
    try clear hcz6_2
    try clear hcz6_3
    try clear hcz6_4
    try clear hcz6_5
    try clear hcz6_6
    try clear hcz6_7
    try clear hcz6_8
    try clear hcz6_9
    try clear hfz3_0
    try clear hfz3_1
    try clear hfz3_10
    try clear hfz3_11
    try clear hfz3_12
    try clear hfz3_13
    try clear hfz3_14
    try clear hfz3_15
    try clear hfz3_16
    try clear hfz3_17
    try clear hfz3_18
    try clear hfz3_19
    try clear hfz3_2
    try clear hfz3_20
    try clear hfz3_21
    try clear hfz3_22
    try clear hfz3_3
    try clear hfz3_4
    try clear hfz3_5
    try clear hfz3_6
    try clear hfz3_7
    try clear hfz3_8
    try clear hfz3_9
    try clear hfz6_0
    try clear hfz6_1
    try clear hfz6_10
    try clear hfz6_11
    try clear hfz6_2
    try clear hfz6_3
    try clear hfz6_4
    try clear hfz6_5
    try clear hfz6_6
    try clear hfz6_7
    try clear hfz6_8
    try clear hfz6_9
    obtain ⟨x26_1, rfl, HA, HK1, HO_24, BK199, BK200, HB⟩ := hrel
    cases gk with
    | zero => exact absurd HA.out (by simp [impl_MachineOk.l0])
    | succ k1 =>
      have H := HA.out
      clear HA
      simp only [impl_MachineOk.l0] at H
      by_cases c10 : x26_1 < (y201.length : Int)
      · rw [if_pos c10] at H
        have c10b0 : decide (x26_1 < (y201.length : Int)) = true := decide_eq_true c10
        clear c10
        by_cases c11 : 0 ≤ x26_1
        · rw [if_pos c11] at H
          have c11b0 : decide (0 ≤ x26_1) = true := decide_eq_true c11
          clear c11
          by_cases c12 : x26_1 < (y201.length : Int)
          · rw [if_pos c12] at H
            have c12b0 : decide (x26_1 < (y201.length : Int)) = true := decide_eq_true c12
            clear c12
            replace H := Option.bind_eq_some_iff.mp H
            obtain ⟨t205, A130, H⟩ := H
            replace H : (if t205 = true then (impl_MachineOk.l0 k1 y201 (y201.length : Int) (wrap64 (x26_1 + 1)) a0_0 a0_1 a0_2 a0_3 a0_4 a0_5 a0_6 a0_7 a0_8 a0_9 a0_10 a0_11 a0_12 a0_13 a0_14 a0_15 a0_16 a0_17 a0_18 a0_19 a0_20 l0_21 a0_22 a0_0 a0_1 a0_2 a0_3 a0_4 a0_5 a0_6 a0_7 a0_8 a0_9 a0_10 a0_11) else (some false)) = some r := H
            have A13 := Aside0.mk A130
            clear A130
            by_cases c14 : t205 = true
            · subst c14
              have H1 : (impl_MachineOk.l0 k1 y201 (y201.length : Int) (wrap64 (x26_1 + 1)) a0_0 a0_1 a0_2 a0_3 a0_4 a0_5 a0_6 a0_7 a0_8 a0_9 a0_10 a0_11 a0_12 a0_13 a0_14 a0_15 a0_16 a0_17 a0_18 a0_19 a0_20 l0_21 a0_22 a0_0 a0_1 a0_2 a0_3 a0_4 a0_5 a0_6 a0_7 a0_8 a0_9 a0_10 a0_11) = some r := by rw [if_pos rfl] at H; exact H
              clear H
              have H := H1
              clear H1
              have H' := Aside0.mk H
              clear H
              have p204 : 0 ≤ (x26_1 : Int) := of_decide_eq_true (by first | (with_reducible assumption) | assumption)
              have q204 : x26_1 < (y201.length : Int) := of_decide_eq_true (by first | (with_reducible assumption) | assumption)
              obtain ⟨ad204, e204, hx204_0⟩ := Kd.at_int (Kd.R_reads' HO_24.out).2.2 x26_1 p204 q204
              cases e204
              replace p204 := eq_true p204
              replace q204 := eq_true q204
              go_wp2_with (first | ((with_reducible refine gate_callee (f := 29) rfl ?_); refine goesL_ (some 31) rfl rfl Try.func29 (by kernel_rfl) rfl #[.int .i64 (rd y201 x26_1)] rfl (by (try simp only [List.map_toArray, List.map_cons, List.map_nil]); first | done | rfl | (simp only [List.length_drop, List.length_take]; rfl)) ?_; (with_reducible refine (impl_isByte.calls (rd y201 x26_1) true _ A13.out).mono ?_); rintro e w' ⟨rfl, ⟨nd, rfl⟩⟩; refine ⟨_, rfl, ?_⟩))
              go_roundg k1
              case measure => have := HK1.out; omega
              case rel => exact ⟨(wrap64 (x26_1 + 1)), (by first | rfl | (simp; done) | (simp [*]; done)), H', ⟨by have := HK1.out; omega⟩, ⟨by (with_reducible repeat (first | apply Kd.R_alloc | apply Kd.R_drewN | apply Kd.R_drew)); exact HO_24.out⟩, ⟨by (with_reducible repeat (first | refine blk_drewN ?_ _ | refine blk_drew ?_ | refine blk_alloc ?_ _)); exact BK199.out⟩, ⟨by (with_reducible repeat (first | refine blk_drewN ?_ _ | refine blk_drew ?_ | refine blk_alloc ?_ _)); exact BK200.out⟩, ⟨by repeat (first | (with_reducible first | exact HB.out | apply below_alloc | apply pw_below_drewN | apply below_drew1 | refine below_set ?_ GE199.out | refine below_set ?_ GE200.out) | exact HB.out)⟩⟩
            · replace c14 := Bool.eq_false_iff.mpr c14
              subst c14
              have H1 : (some false) = some r := by rw [if_neg (show ¬ (false = true) by decide)] at H; exact H
              clear H
              have H := H1
              clear H1
              obtain rfl := Option.some.inj H
              have p204 : 0 ≤ (x26_1 : Int) := of_decide_eq_true (by first | (with_reducible assumption) | assumption)
              have q204 : x26_1 < (y201.length : Int) := of_decide_eq_true (by first | (with_reducible assumption) | assumption)
              obtain ⟨ad204, e204, hx204_0⟩ := Kd.at_int (Kd.R_reads' HO_24.out).2.2 x26_1 p204 q204
              cases e204
              replace p204 := eq_true p204
              replace q204 := eq_true q204
              go_wp2_with (first | ((with_reducible refine gate_callee (f := 29) rfl ?_); refine goesL_ (some 31) rfl rfl Try.func29 (by kernel_rfl) rfl #[.int .i64 (rd y201 x26_1)] rfl (by (try simp only [List.map_toArray, List.map_cons, List.map_nil]); first | done | rfl | (simp only [List.length_drop, List.length_take]; rfl)) ?_; (with_reducible refine (impl_isByte.calls (rd y201 x26_1) false _ A13.out).mono ?_); rintro e w' ⟨rfl, ⟨nd, rfl⟩⟩; refine ⟨_, rfl, ?_⟩))
              go_ret
              exact ⟨by first | rfl | (simp [errW_none, errW_some] <;> rfl) | (simp [*, errW_none, errW_some] <;> rfl), by repeat (first | (with_reducible first | exact HB.out | apply below_alloc | apply pw_below_drewN | apply below_drew1 | refine below_set ?_ GE199.out | refine below_set ?_ GE200.out) | exact HB.out)⟩
          · rw [if_neg c12] at H
            exact absurd H (by simp)
        · rw [if_neg c11] at H
          exact absurd H (by simp)
      · rw [if_neg c10] at H
        have c10b0 : decide (x26_1 < (y201.length : Int)) = false := decide_eq_false c10
        clear c10
        replace H := Option.bind_eq_some_iff.mp H
        obtain ⟨t206, A150, H⟩ := H
        replace H : (if t206 = true then (some false) else (if (Int.tmod a0_1 16) = 0 then ((impl_isWord.f a0_8).bind fun t207 => (if t207 = true then ((impl_isWord.f a0_9).bind fun t208 => (if t208 = true then ((impl_CartOk.f k1 a0_12 a0_13 a0_14 a0_15 a0_16 a0_17 a0_18).bind fun t209 => (if t209 = true then (if (a0_19.size : Int) = 256 then (if (a0_20.size : Int) = 127 then (if (l0_21.length : Int) ≤ 100 then ((impl_within.f a0_22 0 1000000000).bind fun t210 => (some t210)) else (some false)) else (some false)) else (some false)) else (some false))) else (some false))) else (some false))) else (some false))) = some r := H
        have A15 := Aside0.mk A150
        clear A150
        by_cases c16 : t206 = true
        · subst c16
          have H1 : (some false) = some r := by rw [if_pos rfl] at H; exact H
          clear H
          have H := H1
          clear H1
          obtain rfl := Option.some.inj H
          have hnb17 := NB199_200.out
          have hnc17 := NB200_199.out
          have hcz18_0 : wr.cell? ⟨gb199, 0, none⟩ = some (.int .i64 a0_0) := (blk_cell BK199.out 0).trans rfl
          have hcz18_1 : wr.cell? ⟨gb199, 1, none⟩ = some (.int .i64 a0_1) := (blk_cell BK199.out 1).trans rfl
          have hcz18_2 : wr.cell? ⟨gb199, 2, none⟩ = some (.int .i64 a0_2) := (blk_cell BK199.out 2).trans rfl
          have hcz18_3 : wr.cell? ⟨gb199, 3, none⟩ = some (.int .i64 a0_3) := (blk_cell BK199.out 3).trans rfl
          have hcz18_4 : wr.cell? ⟨gb199, 4, none⟩ = some (.int .i64 a0_4) := (blk_cell BK199.out 4).trans rfl
          have hcz18_5 : wr.cell? ⟨gb199, 5, none⟩ = some (.int .i64 a0_5) := (blk_cell BK199.out 5).trans rfl
          have hcz18_6 : wr.cell? ⟨gb199, 6, none⟩ = some (.int .i64 a0_6) := (blk_cell BK199.out 6).trans rfl
          have hcz18_7 : wr.cell? ⟨gb199, 7, none⟩ = some (.int .i64 a0_7) := (blk_cell BK199.out 7).trans rfl
          have hcz18_8 : wr.cell? ⟨gb199, 8, none⟩ = some (.int .i64 a0_8) := (blk_cell BK199.out 8).trans rfl
          have hcz18_9 : wr.cell? ⟨gb199, 9, none⟩ = some (.int .i64 a0_9) := (blk_cell BK199.out 9).trans rfl
          have hcz18_10 : wr.cell? ⟨gb199, 10, none⟩ = some (.bool a0_10) := (blk_cell BK199.out 10).trans rfl
          have hcz18_11 : wr.cell? ⟨gb199, 11, none⟩ = some (.bool a0_11) := (blk_cell BK199.out 11).trans rfl
          have hcz18_12 : wr.cell? ⟨gb199, 12, none⟩ = some (.string a0_12) := (blk_cell BK199.out 12).trans rfl
          have hcz18_13 : wr.cell? ⟨gb199, 13, none⟩ = some (.int .i64 a0_13) := (blk_cell BK199.out 13).trans rfl
          have hcz18_14 : wr.cell? ⟨gb199, 14, none⟩ = some (.int .i64 a0_14) := (blk_cell BK199.out 14).trans rfl
          have hcz18_15 : wr.cell? ⟨gb199, 15, none⟩ = some (.string a0_15) := (blk_cell BK199.out 15).trans rfl
          have hcz18_16 : wr.cell? ⟨gb199, 16, none⟩ = some (.int .i64 a0_16) := (blk_cell BK199.out 16).trans rfl
          have hcz18_17 : wr.cell? ⟨gb199, 17, none⟩ = some (.bool a0_17) := (blk_cell BK199.out 17).trans rfl
          have hcz18_18 : wr.cell? ⟨gb199, 18, none⟩ = some (.int .i64 a0_18) := (blk_cell BK199.out 18).trans rfl
          have hcz18_19 : wr.cell? ⟨gb199, 19, none⟩ = some (.string a0_19) := (blk_cell BK199.out 19).trans rfl
          have hcz18_20 : wr.cell? ⟨gb199, 20, none⟩ = some (.string a0_20) := (blk_cell BK199.out 20).trans rfl
          have hcz18_21 : wr.cell? ⟨gb199, 21, none⟩ = some (.slice A0_21 l0_21.length c0_21) := (blk_cell BK199.out 21).trans rfl
          have hcz18_22 : wr.cell? ⟨gb199, 22, none⟩ = some (.int .i64 a0_22) := (blk_cell BK199.out 22).trans rfl
          have hfz18_0 := blk_frozen BK199.out 0
          have hfz18_1 := blk_frozen BK199.out 1
          have hfz18_2 := blk_frozen BK199.out 2
          have hfz18_3 := blk_frozen BK199.out 3
          have hfz18_4 := blk_frozen BK199.out 4
          have hfz18_5 := blk_frozen BK199.out 5
          have hfz18_6 := blk_frozen BK199.out 6
          have hfz18_7 := blk_frozen BK199.out 7
          have hfz18_8 := blk_frozen BK199.out 8
          have hfz18_9 := blk_frozen BK199.out 9
          have hfz18_10 := blk_frozen BK199.out 10
          have hfz18_11 := blk_frozen BK199.out 11
          have hfz18_12 := blk_frozen BK199.out 12
          have hfz18_13 := blk_frozen BK199.out 13
          have hfz18_14 := blk_frozen BK199.out 14
          have hfz18_15 := blk_frozen BK199.out 15
          have hfz18_16 := blk_frozen BK199.out 16
          have hfz18_17 := blk_frozen BK199.out 17
          have hfz18_18 := blk_frozen BK199.out 18
          have hfz18_19 := blk_frozen BK199.out 19
          have hfz18_20 := blk_frozen BK199.out 20
          have hfz18_21 := blk_frozen BK199.out 21
          have hfz18_22 := blk_frozen BK199.out 22
          go_wp2_with (first | ((with_reducible refine gate_callee (f := 30) rfl ?_); refine goesL_ (some 36) rfl rfl Try.func30 (by kernel_rfl) rfl #[.slice A0_21 l0_21.length c0_21, .func (.func 31) #[] #[]] rfl (by (try simp only [List.map_toArray, List.map_cons, List.map_nil]); first | done | rfl | (simp only [List.length_drop, List.length_take]; rfl)) ?_; (with_reducible refine (slices_ContainsFunc_int64_int64.calls _ _ l0_21 () true _ ?side1 ?side2 A15.out).mono ?_); (case side1 => repeat (first | exact (Kd.C_below HR0_21.out HB.out) | (with_reducible refine Kd.C_alloc ?_ _) | (with_reducible refine Kd.C_drewN ?_ _) | (with_reducible refine Kd.C_drew ?_))); (case side2 => exact HC0_21.out); rintro e w' ⟨rfl, ⟨nd, rfl⟩⟩; refine ⟨_, rfl, ?_⟩))
          go_ret
          exact ⟨by first | rfl | (simp [errW_none, errW_some] <;> rfl) | (simp [*, errW_none, errW_some] <;> rfl), by repeat (first | (with_reducible first | exact HB.out | apply below_alloc | apply pw_below_drewN | apply below_drew1 | refine below_set ?_ GE199.out | refine below_set ?_ GE200.out) | exact HB.out)⟩
        · replace c16 := Bool.eq_false_iff.mpr c16
          subst c16
          have H1 : (if (Int.tmod a0_1 16) = 0 then ((impl_isWord.f a0_8).bind fun t207 => (if t207 = true then ((impl_isWord.f a0_9).bind fun t208 => (if t208 = true then ((impl_CartOk.f k1 a0_12 a0_13 a0_14 a0_15 a0_16 a0_17 a0_18).bind fun t209 => (if t209 = true then (if (a0_19.size : Int) = 256 then (if (a0_20.size : Int) = 127 then (if (l0_21.length : Int) ≤ 100 then ((impl_within.f a0_22 0 1000000000).bind fun t210 => (some t210)) else (some false)) else (some false)) else (some false)) else (some false))) else (some false))) else (some false))) else (some false)) = some r := by rw [if_neg (show ¬ (false = true) by decide)] at H; exact H
          clear H
          have H := H1
          clear H1
          by_cases c19 : (Int.tmod a0_1 16) = 0
          · rw [if_pos c19] at H
            have c19b0 : ((Int.tmod a0_1 16) == 0) = true := beq_iff_eq.mpr c19
            have c19b1 : ((Int.tmod a0_1 16) != 0) = false := bne_eq_false_iff_eq.mpr c19
            clear c19
            replace H := Option.bind_eq_some_iff.mp H
            obtain ⟨t207, A200, H⟩ := H
            replace H : (if t207 = true then ((impl_isWord.f a0_9).bind fun t208 => (if t208 = true then ((impl_CartOk.f k1 a0_12 a0_13 a0_14 a0_15 a0_16 a0_17 a0_18).bind fun t209 => (if t209 = true then (if (a0_19.size : Int) = 256 then (if (a0_20.size : Int) = 127 then (if (l0_21.length : Int) ≤ 100 then ((impl_within.f a0_22 0 1000000000).bind fun t210 => (some t210)) else (some false)) else (some false)) else (some false)) else (some false))) else (some false))) else (some false)) = some r := H
            have A20 := Aside0.mk A200
            clear A200
            by_cases c21 : t207 = true
            · subst c21
              have H1 : ((impl_isWord.f a0_9).bind fun t208 => (if t208 = true then ((impl_CartOk.f k1 a0_12 a0_13 a0_14 a0_15 a0_16 a0_17 a0_18).bind fun t209 => (if t209 = true then (if (a0_19.size : Int) = 256 then (if (a0_20.size : Int) = 127 then (if (l0_21.length : Int) ≤ 100 then ((impl_within.f a0_22 0 1000000000).bind fun t210 => (some t210)) else (some false)) else (some false)) else (some false)) else (some false))) else (some false))) = some r := by rw [if_pos rfl] at H; exact H
              clear H
              have H := H1
              clear H1
              replace H := Option.bind_eq_some_iff.mp H
              obtain ⟨t208, A220, H⟩ := H
              replace H : (if t208 = true then ((impl_CartOk.f k1 a0_12 a0_13 a0_14 a0_15 a0_16 a0_17 a0_18).bind fun t209 => (if t209 = true then (if (a0_19.size : Int) = 256 then (if (a0_20.size : Int) = 127 then (if (l0_21.length : Int) ≤ 100 then ((impl_within.f a0_22 0 1000000000).bind fun t210 => (some t210)) else (some false)) else (some false)) else (some false)) else (some false))) else (some false)) = some r := H
              have A22 := Aside0.mk A220
              clear A220
              by_cases c23 : t208 = true
              · subst c23
                have H1 : ((impl_CartOk.f k1 a0_12 a0_13 a0_14 a0_15 a0_16 a0_17 a0_18).bind fun t209 => (if t209 = true then (if (a0_19.size : Int) = 256 then (if (a0_20.size : Int) = 127 then (if (l0_21.length : Int) ≤ 100 then ((impl_within.f a0_22 0 1000000000).bind fun t210 => (some t210)) else (some false)) else (some false)) else (some false)) else (some false))) = some r := by rw [if_pos rfl] at H; exact H
                clear H
                have H := H1
                clear H1
                replace H := Option.bind_eq_some_iff.mp H
                obtain ⟨t209, A240, H⟩ := H
                replace H : (if t209 = true then (if (a0_19.size : Int) = 256 then (if (a0_20.size : Int) = 127 then (if (l0_21.length : Int) ≤ 100 then ((impl_within.f a0_22 0 1000000000).bind fun t210 => (some t210)) else (some false)) else (some false)) else (some false)) else (some false)) = some r := H
                have A24 := Aside0.mk A240
                clear A240
                by_cases c25 : t209 = true
                · subst c25
                  have H1 : (if (a0_19.size : Int) = 256 then (if (a0_20.size : Int) = 127 then (if (l0_21.length : Int) ≤ 100 then ((impl_within.f a0_22 0 1000000000).bind fun t210 => (some t210)) else (some false)) else (some false)) else (some false)) = some r := by rw [if_pos rfl] at H; exact H
                  clear H
                  have H := H1
                  clear H1
                  by_cases c26 : (a0_19.size : Int) = 256
                  · rw [if_pos c26] at H
                    have c26b0 : ((a0_19.size : Int) == 256) = true := beq_iff_eq.mpr c26
                    have c26b1 : ((a0_19.size : Int) != 256) = false := bne_eq_false_iff_eq.mpr c26
                    clear c26
                    by_cases c27 : (a0_20.size : Int) = 127
                    · rw [if_pos c27] at H
                      have c27b0 : ((a0_20.size : Int) == 127) = true := beq_iff_eq.mpr c27
                      have c27b1 : ((a0_20.size : Int) != 127) = false := bne_eq_false_iff_eq.mpr c27
                      clear c27
                      by_cases c28 : (l0_21.length : Int) ≤ 100
                      · rw [if_pos c28] at H
                        have c28b0 : decide ((l0_21.length : Int) ≤ 100) = true := decide_eq_true c28
                        have c28b1 : decide (l0_21.length ≤ 100) = true := decide_eq_true (by omega)
                        clear c28
                        replace H := Option.bind_eq_some_iff.mp H
                        obtain ⟨t210, A290, H⟩ := H
                        replace H : (some t210) = some r := H
                        have A29 := Aside0.mk A290
                        clear A290
                        obtain rfl := Option.some.inj H
                        have hnb30 := NB199_200.out
                        have hnc30 := NB200_199.out
                        have hcz31_0 : wr.cell? ⟨gb199, 0, none⟩ = some (.int .i64 a0_0) := (blk_cell BK199.out 0).trans rfl
                        have hcz31_1 : wr.cell? ⟨gb199, 1, none⟩ = some (.int .i64 a0_1) := (blk_cell BK199.out 1).trans rfl
                        have hcz31_2 : wr.cell? ⟨gb199, 2, none⟩ = some (.int .i64 a0_2) := (blk_cell BK199.out 2).trans rfl
                        have hcz31_3 : wr.cell? ⟨gb199, 3, none⟩ = some (.int .i64 a0_3) := (blk_cell BK199.out 3).trans rfl
                        have hcz31_4 : wr.cell? ⟨gb199, 4, none⟩ = some (.int .i64 a0_4) := (blk_cell BK199.out 4).trans rfl
                        have hcz31_5 : wr.cell? ⟨gb199, 5, none⟩ = some (.int .i64 a0_5) := (blk_cell BK199.out 5).trans rfl
                        have hcz31_6 : wr.cell? ⟨gb199, 6, none⟩ = some (.int .i64 a0_6) := (blk_cell BK199.out 6).trans rfl
                        have hcz31_7 : wr.cell? ⟨gb199, 7, none⟩ = some (.int .i64 a0_7) := (blk_cell BK199.out 7).trans rfl
                        have hcz31_8 : wr.cell? ⟨gb199, 8, none⟩ = some (.int .i64 a0_8) := (blk_cell BK199.out 8).trans rfl
                        have hcz31_9 : wr.cell? ⟨gb199, 9, none⟩ = some (.int .i64 a0_9) := (blk_cell BK199.out 9).trans rfl
                        have hcz31_10 : wr.cell? ⟨gb199, 10, none⟩ = some (.bool a0_10) := (blk_cell BK199.out 10).trans rfl
                        have hcz31_11 : wr.cell? ⟨gb199, 11, none⟩ = some (.bool a0_11) := (blk_cell BK199.out 11).trans rfl
                        have hcz31_12 : wr.cell? ⟨gb199, 12, none⟩ = some (.string a0_12) := (blk_cell BK199.out 12).trans rfl
                        have hcz31_13 : wr.cell? ⟨gb199, 13, none⟩ = some (.int .i64 a0_13) := (blk_cell BK199.out 13).trans rfl
                        have hcz31_14 : wr.cell? ⟨gb199, 14, none⟩ = some (.int .i64 a0_14) := (blk_cell BK199.out 14).trans rfl
                        have hcz31_15 : wr.cell? ⟨gb199, 15, none⟩ = some (.string a0_15) := (blk_cell BK199.out 15).trans rfl
                        have hcz31_16 : wr.cell? ⟨gb199, 16, none⟩ = some (.int .i64 a0_16) := (blk_cell BK199.out 16).trans rfl
                        have hcz31_17 : wr.cell? ⟨gb199, 17, none⟩ = some (.bool a0_17) := (blk_cell BK199.out 17).trans rfl
                        have hcz31_18 : wr.cell? ⟨gb199, 18, none⟩ = some (.int .i64 a0_18) := (blk_cell BK199.out 18).trans rfl
                        have hcz31_19 : wr.cell? ⟨gb199, 19, none⟩ = some (.string a0_19) := (blk_cell BK199.out 19).trans rfl
                        have hcz31_20 : wr.cell? ⟨gb199, 20, none⟩ = some (.string a0_20) := (blk_cell BK199.out 20).trans rfl
                        have hcz31_21 : wr.cell? ⟨gb199, 21, none⟩ = some (.slice A0_21 l0_21.length c0_21) := (blk_cell BK199.out 21).trans rfl
                        have hcz31_22 : wr.cell? ⟨gb199, 22, none⟩ = some (.int .i64 a0_22) := (blk_cell BK199.out 22).trans rfl
                        have hfz31_0 := blk_frozen BK199.out 0
                        have hfz31_1 := blk_frozen BK199.out 1
                        have hfz31_2 := blk_frozen BK199.out 2
                        have hfz31_3 := blk_frozen BK199.out 3
                        have hfz31_4 := blk_frozen BK199.out 4
                        have hfz31_5 := blk_frozen BK199.out 5
                        have hfz31_6 := blk_frozen BK199.out 6
                        have hfz31_7 := blk_frozen BK199.out 7
                        have hfz31_8 := blk_frozen BK199.out 8
                        have hfz31_9 := blk_frozen BK199.out 9
                        have hfz31_10 := blk_frozen BK199.out 10
                        have hfz31_11 := blk_frozen BK199.out 11
                        have hfz31_12 := blk_frozen BK199.out 12
                        have hfz31_13 := blk_frozen BK199.out 13
                        have hfz31_14 := blk_frozen BK199.out 14
                        have hfz31_15 := blk_frozen BK199.out 15
                        have hfz31_16 := blk_frozen BK199.out 16
                        have hfz31_17 := blk_frozen BK199.out 17
                        have hfz31_18 := blk_frozen BK199.out 18
                        have hfz31_19 := blk_frozen BK199.out 19
                        have hfz31_20 := blk_frozen BK199.out 20
                        have hfz31_21 := blk_frozen BK199.out 21
                        have hfz31_22 := blk_frozen BK199.out 22
                        go_wp2_with (first | ((with_reducible refine gate_callee (f := 30) rfl ?_); refine goesL_ (some 36) rfl rfl Try.func30 (by kernel_rfl) rfl #[.slice A0_21 l0_21.length c0_21, .func (.func 31) #[] #[]] rfl (by (try simp only [List.map_toArray, List.map_cons, List.map_nil]); first | done | rfl | (simp only [List.length_drop, List.length_take]; rfl)) ?_; (with_reducible refine (slices_ContainsFunc_int64_int64.calls _ _ l0_21 () false _ ?side1 ?side2 A15.out).mono ?_); (case side1 => repeat (first | exact (Kd.C_below HR0_21.out HB.out) | (with_reducible refine Kd.C_alloc ?_ _) | (with_reducible refine Kd.C_drewN ?_ _) | (with_reducible refine Kd.C_drew ?_))); (case side2 => exact HC0_21.out); rintro e w' ⟨rfl, ⟨nd, rfl⟩⟩; refine ⟨_, rfl, ?_⟩; have hZ32_ := cells_all BK200.out; simp only [allCells, Nat.zero_add, Nat.reduceAdd] at hZ32_; obtain ⟨hcz32_0, hfz32_0, hcz32_1, hfz32_1, hcz32_2, hfz32_2, hcz32_3, hfz32_3, hcz32_4, hfz32_4, hcz32_5, hfz32_5, hcz32_6, hfz32_6, hcz32_7, hfz32_7, hcz32_8, hfz32_8, hcz32_9, hfz32_9, hcz32_10, hfz32_10, hcz32_11, hfz32_11, _⟩ := hZ32_) | (go_at_call 32; (with_reducible refine (impl_isWord.calls a0_8 true _ A20.out).mono ?_); rintro e w' ⟨rfl, ⟨nd, rfl⟩⟩) | (go_at_call 32; (with_reducible refine (impl_isWord.calls a0_9 true _ A22.out).mono ?_); rintro e w' ⟨rfl, ⟨nd, rfl⟩⟩) | (go_at_call 33; (with_reducible refine (impl_CartOk.calls k1 a0_12 a0_13 a0_14 a0_15 a0_16 a0_17 a0_18 true _ A24.out).mono ?_); rintro e w33 ⟨rfl, hb⟩; have n0_ := Aside0.mk (Kd.R_below (by (with_reducible repeat (first | apply Kd.R_alloc | apply Kd.R_drewN | apply Kd.R_drew)); exact HO_24.out) hb); have n1_ := Aside0.mk (blk_below (g := gb199) (o := .cells #[.int .i64 a0_0, .int .i64 a0_1, .int .i64 a0_2, .int .i64 a0_3, .int .i64 a0_4, .int .i64 a0_5, .int .i64 a0_6, .int .i64 a0_7, .int .i64 a0_8, .int .i64 a0_9, .bool a0_10, .bool a0_11, .string a0_12, .int .i64 a0_13, .int .i64 a0_14, .string a0_15, .int .i64 a0_16, .bool a0_17, .int .i64 a0_18, .string a0_19, .string a0_20, .slice A0_21 l0_21.length c0_21, .int .i64 a0_22] 34 (0, 0)) (by (with_reducible repeat (first | refine blk_drewN ?_ _ | refine blk_drew ?_ | refine blk_alloc ?_ _)); exact BK199.out) hb); have n2_ := Aside0.mk (blk_below (g := gb200) (o := .cells #[.int .i64 a0_0, .int .i64 a0_1, .int .i64 a0_2, .int .i64 a0_3, .int .i64 a0_4, .int .i64 a0_5, .int .i64 a0_6, .int .i64 a0_7, .int .i64 a0_8, .int .i64 a0_9, .bool a0_10, .bool a0_11] 31 (0, 0)) (by (with_reducible repeat (first | refine blk_drewN ?_ _ | refine blk_drew ?_ | refine blk_alloc ?_ _)); exact BK200.out) hb); have n3_ := Aside0.mk (below_step (by repeat (first | (with_reducible first | exact HB.out | apply below_alloc | apply pw_below_drewN | apply below_drew1 | refine below_set ?_ GE199.out | refine below_set ?_ GE200.out) | exact HB.out)) hb); clear HO_24; clear BK199; clear BK200; clear HB; have HO_24 := n0_; have BK199 := n1_; have BK200 := n2_; have HB := n3_; clear n0_ n1_ n2_ n3_; (try clear hb); (try clear hb2); (try clear hk); (try clear hi); have hZ34_ := cells_all BK199.out; simp only [allCells, Nat.zero_add, Nat.reduceAdd] at hZ34_; obtain ⟨hcz34_0, hfz34_0, hcz34_1, hfz34_1, hcz34_2, hfz34_2, hcz34_3, hfz34_3, hcz34_4, hfz34_4, hcz34_5, hfz34_5, hcz34_6, hfz34_6, hcz34_7, hfz34_7, hcz34_8, hfz34_8, hcz34_9, hfz34_9, hcz34_10, hfz34_10, hcz34_11, hfz34_11, hcz34_12, hfz34_12, hcz34_13, hfz34_13, hcz34_14, hfz34_14, hcz34_15, hfz34_15, hcz34_16, hfz34_16, hcz34_17, hfz34_17, hcz34_18, hfz34_18, hcz34_19, hfz34_19, hcz34_20, hfz34_20, hcz34_21, hfz34_21, hcz34_22, hfz34_22, _⟩ := hZ34_) | (go_at_call 34; (with_reducible refine (impl_within.calls a0_22 0 1000000000 t210 _ A29.out).mono ?_); rintro e w' ⟨rfl, ⟨nd, rfl⟩⟩))
                        go_ret
                        exact ⟨by first | rfl | (simp [errW_none, errW_some] <;> rfl) | (simp [*, errW_none, errW_some] <;> rfl), by repeat (first | (with_reducible first | exact HB.out | apply below_alloc | apply pw_below_drewN | apply below_drew1 | refine below_set ?_ GE199.out | refine below_set ?_ GE200.out) | exact HB.out)⟩
                      · rw [if_neg c28] at H
                        have c28b0 : decide ((l0_21.length : Int) ≤ 100) = false := decide_eq_false c28
                        have c28b1 : decide (l0_21.length ≤ 100) = false := decide_eq_false (by omega)
                        clear c28
                        obtain rfl := Option.some.inj H
                        have hnb35 := NB199_200.out
                        have hnc35 := NB200_199.out
                        have hcz36_0 : wr.cell? ⟨gb199, 0, none⟩ = some (.int .i64 a0_0) := (blk_cell BK199.out 0).trans rfl
                        have hcz36_1 : wr.cell? ⟨gb199, 1, none⟩ = some (.int .i64 a0_1) := (blk_cell BK199.out 1).trans rfl
                        have hcz36_2 : wr.cell? ⟨gb199, 2, none⟩ = some (.int .i64 a0_2) := (blk_cell BK199.out 2).trans rfl
                        have hcz36_3 : wr.cell? ⟨gb199, 3, none⟩ = some (.int .i64 a0_3) := (blk_cell BK199.out 3).trans rfl
                        have hcz36_4 : wr.cell? ⟨gb199, 4, none⟩ = some (.int .i64 a0_4) := (blk_cell BK199.out 4).trans rfl
                        have hcz36_5 : wr.cell? ⟨gb199, 5, none⟩ = some (.int .i64 a0_5) := (blk_cell BK199.out 5).trans rfl
                        have hcz36_6 : wr.cell? ⟨gb199, 6, none⟩ = some (.int .i64 a0_6) := (blk_cell BK199.out 6).trans rfl
                        have hcz36_7 : wr.cell? ⟨gb199, 7, none⟩ = some (.int .i64 a0_7) := (blk_cell BK199.out 7).trans rfl
                        have hcz36_8 : wr.cell? ⟨gb199, 8, none⟩ = some (.int .i64 a0_8) := (blk_cell BK199.out 8).trans rfl
                        have hcz36_9 : wr.cell? ⟨gb199, 9, none⟩ = some (.int .i64 a0_9) := (blk_cell BK199.out 9).trans rfl
                        have hcz36_10 : wr.cell? ⟨gb199, 10, none⟩ = some (.bool a0_10) := (blk_cell BK199.out 10).trans rfl
                        have hcz36_11 : wr.cell? ⟨gb199, 11, none⟩ = some (.bool a0_11) := (blk_cell BK199.out 11).trans rfl
                        have hcz36_12 : wr.cell? ⟨gb199, 12, none⟩ = some (.string a0_12) := (blk_cell BK199.out 12).trans rfl
                        have hcz36_13 : wr.cell? ⟨gb199, 13, none⟩ = some (.int .i64 a0_13) := (blk_cell BK199.out 13).trans rfl
                        have hcz36_14 : wr.cell? ⟨gb199, 14, none⟩ = some (.int .i64 a0_14) := (blk_cell BK199.out 14).trans rfl
                        have hcz36_15 : wr.cell? ⟨gb199, 15, none⟩ = some (.string a0_15) := (blk_cell BK199.out 15).trans rfl
                        have hcz36_16 : wr.cell? ⟨gb199, 16, none⟩ = some (.int .i64 a0_16) := (blk_cell BK199.out 16).trans rfl
                        have hcz36_17 : wr.cell? ⟨gb199, 17, none⟩ = some (.bool a0_17) := (blk_cell BK199.out 17).trans rfl
                        have hcz36_18 : wr.cell? ⟨gb199, 18, none⟩ = some (.int .i64 a0_18) := (blk_cell BK199.out 18).trans rfl
                        have hcz36_19 : wr.cell? ⟨gb199, 19, none⟩ = some (.string a0_19) := (blk_cell BK199.out 19).trans rfl
                        have hcz36_20 : wr.cell? ⟨gb199, 20, none⟩ = some (.string a0_20) := (blk_cell BK199.out 20).trans rfl
                        have hcz36_21 : wr.cell? ⟨gb199, 21, none⟩ = some (.slice A0_21 l0_21.length c0_21) := (blk_cell BK199.out 21).trans rfl
                        have hcz36_22 : wr.cell? ⟨gb199, 22, none⟩ = some (.int .i64 a0_22) := (blk_cell BK199.out 22).trans rfl
                        have hfz36_0 := blk_frozen BK199.out 0
                        have hfz36_1 := blk_frozen BK199.out 1
                        have hfz36_2 := blk_frozen BK199.out 2
                        have hfz36_3 := blk_frozen BK199.out 3
                        have hfz36_4 := blk_frozen BK199.out 4
                        have hfz36_5 := blk_frozen BK199.out 5
                        have hfz36_6 := blk_frozen BK199.out 6
                        have hfz36_7 := blk_frozen BK199.out 7
                        have hfz36_8 := blk_frozen BK199.out 8
                        have hfz36_9 := blk_frozen BK199.out 9
                        have hfz36_10 := blk_frozen BK199.out 10
                        have hfz36_11 := blk_frozen BK199.out 11
                        have hfz36_12 := blk_frozen BK199.out 12
                        have hfz36_13 := blk_frozen BK199.out 13
                        have hfz36_14 := blk_frozen BK199.out 14
                        have hfz36_15 := blk_frozen BK199.out 15
                        have hfz36_16 := blk_frozen BK199.out 16
                        have hfz36_17 := blk_frozen BK199.out 17
                        have hfz36_18 := blk_frozen BK199.out 18
                        have hfz36_19 := blk_frozen BK199.out 19
                        have hfz36_20 := blk_frozen BK199.out 20
                        have hfz36_21 := blk_frozen BK199.out 21
                        have hfz36_22 := blk_frozen BK199.out 22
                        go_wp2_with (first | ((with_reducible refine gate_callee (f := 30) rfl ?_); refine goesL_ (some 36) rfl rfl Try.func30 (by kernel_rfl) rfl #[.slice A0_21 l0_21.length c0_21, .func (.func 31) #[] #[]] rfl (by (try simp only [List.map_toArray, List.map_cons, List.map_nil]); first | done | rfl | (simp only [List.length_drop, List.length_take]; rfl)) ?_; (with_reducible refine (slices_ContainsFunc_int64_int64.calls _ _ l0_21 () false _ ?side1 ?side2 A15.out).mono ?_); (case side1 => repeat (first | exact (Kd.C_below HR0_21.out HB.out) | (with_reducible refine Kd.C_alloc ?_ _) | (with_reducible refine Kd.C_drewN ?_ _) | (with_reducible refine Kd.C_drew ?_))); (case side2 => exact HC0_21.out); rintro e w' ⟨rfl, ⟨nd, rfl⟩⟩; refine ⟨_, rfl, ?_⟩; have hZ37_ := cells_all BK200.out; simp only [allCells, Nat.zero_add, Nat.reduceAdd] at hZ37_; obtain ⟨hcz37_0, hfz37_0, hcz37_1, hfz37_1, hcz37_2, hfz37_2, hcz37_3, hfz37_3, hcz37_4, hfz37_4, hcz37_5, hfz37_5, hcz37_6, hfz37_6, hcz37_7, hfz37_7, hcz37_8, hfz37_8, hcz37_9, hfz37_9, hcz37_10, hfz37_10, hcz37_11, hfz37_11, _⟩ := hZ37_) | (go_at_call 32; (with_reducible refine (impl_isWord.calls a0_8 true _ A20.out).mono ?_); rintro e w' ⟨rfl, ⟨nd, rfl⟩⟩) | (go_at_call 32; (with_reducible refine (impl_isWord.calls a0_9 true _ A22.out).mono ?_); rintro e w' ⟨rfl, ⟨nd, rfl⟩⟩) | (go_at_call 33; (with_reducible refine (impl_CartOk.calls k1 a0_12 a0_13 a0_14 a0_15 a0_16 a0_17 a0_18 true _ A24.out).mono ?_); rintro e w38 ⟨rfl, hb⟩; have n0_ := Aside0.mk (Kd.R_below (by (with_reducible repeat (first | apply Kd.R_alloc | apply Kd.R_drewN | apply Kd.R_drew)); exact HO_24.out) hb); have n1_ := Aside0.mk (blk_below (g := gb199) (o := .cells #[.int .i64 a0_0, .int .i64 a0_1, .int .i64 a0_2, .int .i64 a0_3, .int .i64 a0_4, .int .i64 a0_5, .int .i64 a0_6, .int .i64 a0_7, .int .i64 a0_8, .int .i64 a0_9, .bool a0_10, .bool a0_11, .string a0_12, .int .i64 a0_13, .int .i64 a0_14, .string a0_15, .int .i64 a0_16, .bool a0_17, .int .i64 a0_18, .string a0_19, .string a0_20, .slice A0_21 l0_21.length c0_21, .int .i64 a0_22] 34 (0, 0)) (by (with_reducible repeat (first | refine blk_drewN ?_ _ | refine blk_drew ?_ | refine blk_alloc ?_ _)); exact BK199.out) hb); have n2_ := Aside0.mk (blk_below (g := gb200) (o := .cells #[.int .i64 a0_0, .int .i64 a0_1, .int .i64 a0_2, .int .i64 a0_3, .int .i64 a0_4, .int .i64 a0_5, .int .i64 a0_6, .int .i64 a0_7, .int .i64 a0_8, .int .i64 a0_9, .bool a0_10, .bool a0_11] 31 (0, 0)) (by (with_reducible repeat (first | refine blk_drewN ?_ _ | refine blk_drew ?_ | refine blk_alloc ?_ _)); exact BK200.out) hb); have n3_ := Aside0.mk (below_step (by repeat (first | (with_reducible first | exact HB.out | apply below_alloc | apply pw_below_drewN | apply below_drew1 | refine below_set ?_ GE199.out | refine below_set ?_ GE200.out) | exact HB.out)) hb); clear HO_24; clear BK199; clear BK200; clear HB; have HO_24 := n0_; have BK199 := n1_; have BK200 := n2_; have HB := n3_; clear n0_ n1_ n2_ n3_; (try clear hb); (try clear hb2); (try clear hk); (try clear hi); have hZ39_ := cells_all BK199.out; simp only [allCells, Nat.zero_add, Nat.reduceAdd] at hZ39_; obtain ⟨hcz39_0, hfz39_0, hcz39_1, hfz39_1, hcz39_2, hfz39_2, hcz39_3, hfz39_3, hcz39_4, hfz39_4, hcz39_5, hfz39_5, hcz39_6, hfz39_6, hcz39_7, hfz39_7, hcz39_8, hfz39_8, hcz39_9, hfz39_9, hcz39_10, hfz39_10, hcz39_11, hfz39_11, hcz39_12, hfz39_12, hcz39_13, hfz39_13, hcz39_14, hfz39_14, hcz39_15, hfz39_15, hcz39_16, hfz39_16, hcz39_17, hfz39_17, hcz39_18, hfz39_18, hcz39_19, hfz39_19, hcz39_20, hfz39_20, hcz39_21, hfz39_21, hcz39_22, hfz39_22, _⟩ := hZ39_))
                        go_ret
                        exact ⟨by first | rfl | (simp [errW_none, errW_some] <;> rfl) | (simp [*, errW_none, errW_some] <;> rfl), by repeat (first | (with_reducible first | exact HB.out | apply below_alloc | apply pw_below_drewN | apply below_drew1 | refine below_set ?_ GE199.out | refine below_set ?_ GE200.out) | exact HB.out)⟩
                    · rw [if_neg c27] at H
                      have c27b0 : ((a0_20.size : Int) == 127) = false := beq_eq_false_iff_ne.mpr c27
                      have c27b1 : ((a0_20.size : Int) != 127) = true := bne_iff_ne.mpr c27
                      obtain rfl := Option.some.inj H
                      have hnb40 := NB199_200.out
                      have hnc40 := NB200_199.out
                      have hcz41_0 : wr.cell? ⟨gb199, 0, none⟩ = some (.int .i64 a0_0) := (blk_cell BK199.out 0).trans rfl
                      have hcz41_1 : wr.cell? ⟨gb199, 1, none⟩ = some (.int .i64 a0_1) := (blk_cell BK199.out 1).trans rfl
                      have hcz41_2 : wr.cell? ⟨gb199, 2, none⟩ = some (.int .i64 a0_2) := (blk_cell BK199.out 2).trans rfl
                      have hcz41_3 : wr.cell? ⟨gb199, 3, none⟩ = some (.int .i64 a0_3) := (blk_cell BK199.out 3).trans rfl
                      have hcz41_4 : wr.cell? ⟨gb199, 4, none⟩ = some (.int .i64 a0_4) := (blk_cell BK199.out 4).trans rfl
                      have hcz41_5 : wr.cell? ⟨gb199, 5, none⟩ = some (.int .i64 a0_5) := (blk_cell BK199.out 5).trans rfl
                      have hcz41_6 : wr.cell? ⟨gb199, 6, none⟩ = some (.int .i64 a0_6) := (blk_cell BK199.out 6).trans rfl
                      have hcz41_7 : wr.cell? ⟨gb199, 7, none⟩ = some (.int .i64 a0_7) := (blk_cell BK199.out 7).trans rfl
                      have hcz41_8 : wr.cell? ⟨gb199, 8, none⟩ = some (.int .i64 a0_8) := (blk_cell BK199.out 8).trans rfl
                      have hcz41_9 : wr.cell? ⟨gb199, 9, none⟩ = some (.int .i64 a0_9) := (blk_cell BK199.out 9).trans rfl
                      have hcz41_10 : wr.cell? ⟨gb199, 10, none⟩ = some (.bool a0_10) := (blk_cell BK199.out 10).trans rfl
                      have hcz41_11 : wr.cell? ⟨gb199, 11, none⟩ = some (.bool a0_11) := (blk_cell BK199.out 11).trans rfl
                      have hcz41_12 : wr.cell? ⟨gb199, 12, none⟩ = some (.string a0_12) := (blk_cell BK199.out 12).trans rfl
                      have hcz41_13 : wr.cell? ⟨gb199, 13, none⟩ = some (.int .i64 a0_13) := (blk_cell BK199.out 13).trans rfl
                      have hcz41_14 : wr.cell? ⟨gb199, 14, none⟩ = some (.int .i64 a0_14) := (blk_cell BK199.out 14).trans rfl
                      have hcz41_15 : wr.cell? ⟨gb199, 15, none⟩ = some (.string a0_15) := (blk_cell BK199.out 15).trans rfl
                      have hcz41_16 : wr.cell? ⟨gb199, 16, none⟩ = some (.int .i64 a0_16) := (blk_cell BK199.out 16).trans rfl
                      have hcz41_17 : wr.cell? ⟨gb199, 17, none⟩ = some (.bool a0_17) := (blk_cell BK199.out 17).trans rfl
                      have hcz41_18 : wr.cell? ⟨gb199, 18, none⟩ = some (.int .i64 a0_18) := (blk_cell BK199.out 18).trans rfl
                      have hcz41_19 : wr.cell? ⟨gb199, 19, none⟩ = some (.string a0_19) := (blk_cell BK199.out 19).trans rfl
                      have hcz41_20 : wr.cell? ⟨gb199, 20, none⟩ = some (.string a0_20) := (blk_cell BK199.out 20).trans rfl
                      have hcz41_21 : wr.cell? ⟨gb199, 21, none⟩ = some (.slice A0_21 l0_21.length c0_21) := (blk_cell BK199.out 21).trans rfl
                      have hcz41_22 : wr.cell? ⟨gb199, 22, none⟩ = some (.int .i64 a0_22) := (blk_cell BK199.out 22).trans rfl
                      have hfz41_0 := blk_frozen BK199.out 0
                      have hfz41_1 := blk_frozen BK199.out 1
                      have hfz41_2 := blk_frozen BK199.out 2
                      have hfz41_3 := blk_frozen BK199.out 3
                      have hfz41_4 := blk_frozen BK199.out 4
                      have hfz41_5 := blk_frozen BK199.out 5
                      have hfz41_6 := blk_frozen BK199.out 6
                      have hfz41_7 := blk_frozen BK199.out 7
                      have hfz41_8 := blk_frozen BK199.out 8
                      have hfz41_9 := blk_frozen BK199.out 9
                      have hfz41_10 := blk_frozen BK199.out 10
                      have hfz41_11 := blk_frozen BK199.out 11
                      have hfz41_12 := blk_frozen BK199.out 12
                      have hfz41_13 := blk_frozen BK199.out 13
                      have hfz41_14 := blk_frozen BK199.out 14
                      have hfz41_15 := blk_frozen BK199.out 15
                      have hfz41_16 := blk_frozen BK199.out 16
                      have hfz41_17 := blk_frozen BK199.out 17
                      have hfz41_18 := blk_frozen BK199.out 18
                      have hfz41_19 := blk_frozen BK199.out 19
                      have hfz41_20 := blk_frozen BK199.out 20
                      have hfz41_21 := blk_frozen BK199.out 21
                      have hfz41_22 := blk_frozen BK199.out 22
                      go_wp2_with (first | ((with_reducible refine gate_callee (f := 30) rfl ?_); refine goesL_ (some 36) rfl rfl Try.func30 (by kernel_rfl) rfl #[.slice A0_21 l0_21.length c0_21, .func (.func 31) #[] #[]] rfl (by (try simp only [List.map_toArray, List.map_cons, List.map_nil]); first | done | rfl | (simp only [List.length_drop, List.length_take]; rfl)) ?_; (with_reducible refine (slices_ContainsFunc_int64_int64.calls _ _ l0_21 () false _ ?side1 ?side2 A15.out).mono ?_); (case side1 => repeat (first | exact (Kd.C_below HR0_21.out HB.out) | (with_reducible refine Kd.C_alloc ?_ _) | (with_reducible refine Kd.C_drewN ?_ _) | (with_reducible refine Kd.C_drew ?_))); (case side2 => exact HC0_21.out); rintro e w' ⟨rfl, ⟨nd, rfl⟩⟩; refine ⟨_, rfl, ?_⟩; have hZ42_ := cells_all BK200.out; simp only [allCells, Nat.zero_add, Nat.reduceAdd] at hZ42_; obtain ⟨hcz42_0, hfz42_0, hcz42_1, hfz42_1, hcz42_2, hfz42_2, hcz42_3, hfz42_3, hcz42_4, hfz42_4, hcz42_5, hfz42_5, hcz42_6, hfz42_6, hcz42_7, hfz42_7, hcz42_8, hfz42_8, hcz42_9, hfz42_9, hcz42_10, hfz42_10, hcz42_11, hfz42_11, _⟩ := hZ42_) | (go_at_call 32; (with_reducible refine (impl_isWord.calls a0_8 true _ A20.out).mono ?_); rintro e w' ⟨rfl, ⟨nd, rfl⟩⟩) | (go_at_call 32; (with_reducible refine (impl_isWord.calls a0_9 true _ A22.out).mono ?_); rintro e w' ⟨rfl, ⟨nd, rfl⟩⟩) | (go_at_call 33; (with_reducible refine (impl_CartOk.calls k1 a0_12 a0_13 a0_14 a0_15 a0_16 a0_17 a0_18 true _ A24.out).mono ?_); rintro e w43 ⟨rfl, hb⟩; have n0_ := Aside0.mk (Kd.R_below (by (with_reducible repeat (first | apply Kd.R_alloc | apply Kd.R_drewN | apply Kd.R_drew)); exact HO_24.out) hb); have n1_ := Aside0.mk (blk_below (g := gb199) (o := .cells #[.int .i64 a0_0, .int .i64 a0_1, .int .i64 a0_2, .int .i64 a0_3, .int .i64 a0_4, .int .i64 a0_5, .int .i64 a0_6, .int .i64 a0_7, .int .i64 a0_8, .int .i64 a0_9, .bool a0_10, .bool a0_11, .string a0_12, .int .i64 a0_13, .int .i64 a0_14, .string a0_15, .int .i64 a0_16, .bool a0_17, .int .i64 a0_18, .string a0_19, .string a0_20, .slice A0_21 l0_21.length c0_21, .int .i64 a0_22] 34 (0, 0)) (by (with_reducible repeat (first | refine blk_drewN ?_ _ | refine blk_drew ?_ | refine blk_alloc ?_ _)); exact BK199.out) hb); have n2_ := Aside0.mk (blk_below (g := gb200) (o := .cells #[.int .i64 a0_0, .int .i64 a0_1, .int .i64 a0_2, .int .i64 a0_3, .int .i64 a0_4, .int .i64 a0_5, .int .i64 a0_6, .int .i64 a0_7, .int .i64 a0_8, .int .i64 a0_9, .bool a0_10, .bool a0_11] 31 (0, 0)) (by (with_reducible repeat (first | refine blk_drewN ?_ _ | refine blk_drew ?_ | refine blk_alloc ?_ _)); exact BK200.out) hb); have n3_ := Aside0.mk (below_step (by repeat (first | (with_reducible first | exact HB.out | apply below_alloc | apply pw_below_drewN | apply below_drew1 | refine below_set ?_ GE199.out | refine below_set ?_ GE200.out) | exact HB.out)) hb); clear HO_24; clear BK199; clear BK200; clear HB; have HO_24 := n0_; have BK199 := n1_; have BK200 := n2_; have HB := n3_; clear n0_ n1_ n2_ n3_; (try clear hb); (try clear hb2); (try clear hk); (try clear hi); have hZ44_ := cells_all BK199.out; simp only [allCells, Nat.zero_add, Nat.reduceAdd] at hZ44_; obtain ⟨hcz44_0, hfz44_0, hcz44_1, hfz44_1, hcz44_2, hfz44_2, hcz44_3, hfz44_3, hcz44_4, hfz44_4, hcz44_5, hfz44_5, hcz44_6, hfz44_6, hcz44_7, hfz44_7, hcz44_8, hfz44_8, hcz44_9, hfz44_9, hcz44_10, hfz44_10, hcz44_11, hfz44_11, hcz44_12, hfz44_12, hcz44_13, hfz44_13, hcz44_14, hfz44_14, hcz44_15, hfz44_15, hcz44_16, hfz44_16, hcz44_17, hfz44_17, hcz44_18, hfz44_18, hcz44_19, hfz44_19, hcz44_20, hfz44_20, hcz44_21, hfz44_21, hcz44_22, hfz44_22, _⟩ := hZ44_))
                      go_ret
                      exact ⟨by first | rfl | (simp [errW_none, errW_some] <;> rfl) | (simp [*, errW_none, errW_some] <;> rfl), by repeat (first | (with_reducible first | exact HB.out | apply below_alloc | apply pw_below_drewN | apply below_drew1 | refine below_set ?_ GE199.out | refine below_set ?_ GE200.out) | exact HB.out)⟩
                  · rw [if_neg c26] at H
                    have c26b0 : ((a0_19.size : Int) == 256) = false := beq_eq_false_iff_ne.mpr c26
                    have c26b1 : ((a0_19.size : Int) != 256) = true := bne_iff_ne.mpr c26
                    obtain rfl := Option.some.inj H
                    have hnb45 := NB199_200.out
                    have hnc45 := NB200_199.out
                    have hcz46_0 : wr.cell? ⟨gb199, 0, none⟩ = some (.int .i64 a0_0) := (blk_cell BK199.out 0).trans rfl
                    have hcz46_1 : wr.cell? ⟨gb199, 1, none⟩ = some (.int .i64 a0_1) := (blk_cell BK199.out 1).trans rfl
                    have hcz46_2 : wr.cell? ⟨gb199, 2, none⟩ = some (.int .i64 a0_2) := (blk_cell BK199.out 2).trans rfl
                    have hcz46_3 : wr.cell? ⟨gb199, 3, none⟩ = some (.int .i64 a0_3) := (blk_cell BK199.out 3).trans rfl
                    have hcz46_4 : wr.cell? ⟨gb199, 4, none⟩ = some (.int .i64 a0_4) := (blk_cell BK199.out 4).trans rfl
                    have hcz46_5 : wr.cell? ⟨gb199, 5, none⟩ = some (.int .i64 a0_5) := (blk_cell BK199.out 5).trans rfl
                    have hcz46_6 : wr.cell? ⟨gb199, 6, none⟩ = some (.int .i64 a0_6) := (blk_cell BK199.out 6).trans rfl
                    have hcz46_7 : wr.cell? ⟨gb199, 7, none⟩ = some (.int .i64 a0_7) := (blk_cell BK199.out 7).trans rfl
                    have hcz46_8 : wr.cell? ⟨gb199, 8, none⟩ = some (.int .i64 a0_8) := (blk_cell BK199.out 8).trans rfl
                    have hcz46_9 : wr.cell? ⟨gb199, 9, none⟩ = some (.int .i64 a0_9) := (blk_cell BK199.out 9).trans rfl
                    have hcz46_10 : wr.cell? ⟨gb199, 10, none⟩ = some (.bool a0_10) := (blk_cell BK199.out 10).trans rfl
                    have hcz46_11 : wr.cell? ⟨gb199, 11, none⟩ = some (.bool a0_11) := (blk_cell BK199.out 11).trans rfl
                    have hcz46_12 : wr.cell? ⟨gb199, 12, none⟩ = some (.string a0_12) := (blk_cell BK199.out 12).trans rfl
                    have hcz46_13 : wr.cell? ⟨gb199, 13, none⟩ = some (.int .i64 a0_13) := (blk_cell BK199.out 13).trans rfl
                    have hcz46_14 : wr.cell? ⟨gb199, 14, none⟩ = some (.int .i64 a0_14) := (blk_cell BK199.out 14).trans rfl
                    have hcz46_15 : wr.cell? ⟨gb199, 15, none⟩ = some (.string a0_15) := (blk_cell BK199.out 15).trans rfl
                    have hcz46_16 : wr.cell? ⟨gb199, 16, none⟩ = some (.int .i64 a0_16) := (blk_cell BK199.out 16).trans rfl
                    have hcz46_17 : wr.cell? ⟨gb199, 17, none⟩ = some (.bool a0_17) := (blk_cell BK199.out 17).trans rfl
                    have hcz46_18 : wr.cell? ⟨gb199, 18, none⟩ = some (.int .i64 a0_18) := (blk_cell BK199.out 18).trans rfl
                    have hcz46_19 : wr.cell? ⟨gb199, 19, none⟩ = some (.string a0_19) := (blk_cell BK199.out 19).trans rfl
                    have hcz46_20 : wr.cell? ⟨gb199, 20, none⟩ = some (.string a0_20) := (blk_cell BK199.out 20).trans rfl
                    have hcz46_21 : wr.cell? ⟨gb199, 21, none⟩ = some (.slice A0_21 l0_21.length c0_21) := (blk_cell BK199.out 21).trans rfl
                    have hcz46_22 : wr.cell? ⟨gb199, 22, none⟩ = some (.int .i64 a0_22) := (blk_cell BK199.out 22).trans rfl
                    have hfz46_0 := blk_frozen BK199.out 0
                    have hfz46_1 := blk_frozen BK199.out 1
                    have hfz46_2 := blk_frozen BK199.out 2
                    have hfz46_3 := blk_frozen BK199.out 3
                    have hfz46_4 := blk_frozen BK199.out 4
                    have hfz46_5 := blk_frozen BK199.out 5
                    have hfz46_6 := blk_frozen BK199.out 6
                    have hfz46_7 := blk_frozen BK199.out 7
                    have hfz46_8 := blk_frozen BK199.out 8
                    have hfz46_9 := blk_frozen BK199.out 9
                    have hfz46_10 := blk_frozen BK199.out 10
                    have hfz46_11 := blk_frozen BK199.out 11
                    have hfz46_12 := blk_frozen BK199.out 12
                    have hfz46_13 := blk_frozen BK199.out 13
                    have hfz46_14 := blk_frozen BK199.out 14
                    have hfz46_15 := blk_frozen BK199.out 15
                    have hfz46_16 := blk_frozen BK199.out 16
                    have hfz46_17 := blk_frozen BK199.out 17
                    have hfz46_18 := blk_frozen BK199.out 18
                    have hfz46_19 := blk_frozen BK199.out 19
                    have hfz46_20 := blk_frozen BK199.out 20
                    have hfz46_21 := blk_frozen BK199.out 21
                    have hfz46_22 := blk_frozen BK199.out 22
                    go_wp2_with (first | ((with_reducible refine gate_callee (f := 30) rfl ?_); refine goesL_ (some 36) rfl rfl Try.func30 (by kernel_rfl) rfl #[.slice A0_21 l0_21.length c0_21, .func (.func 31) #[] #[]] rfl (by (try simp only [List.map_toArray, List.map_cons, List.map_nil]); first | done | rfl | (simp only [List.length_drop, List.length_take]; rfl)) ?_; (with_reducible refine (slices_ContainsFunc_int64_int64.calls _ _ l0_21 () false _ ?side1 ?side2 A15.out).mono ?_); (case side1 => repeat (first | exact (Kd.C_below HR0_21.out HB.out) | (with_reducible refine Kd.C_alloc ?_ _) | (with_reducible refine Kd.C_drewN ?_ _) | (with_reducible refine Kd.C_drew ?_))); (case side2 => exact HC0_21.out); rintro e w' ⟨rfl, ⟨nd, rfl⟩⟩; refine ⟨_, rfl, ?_⟩; have hZ47_ := cells_all BK200.out; simp only [allCells, Nat.zero_add, Nat.reduceAdd] at hZ47_; obtain ⟨hcz47_0, hfz47_0, hcz47_1, hfz47_1, hcz47_2, hfz47_2, hcz47_3, hfz47_3, hcz47_4, hfz47_4, hcz47_5, hfz47_5, hcz47_6, hfz47_6, hcz47_7, hfz47_7, hcz47_8, hfz47_8, hcz47_9, hfz47_9, hcz47_10, hfz47_10, hcz47_11, hfz47_11, _⟩ := hZ47_) | (go_at_call 32; (with_reducible refine (impl_isWord.calls a0_8 true _ A20.out).mono ?_); rintro e w' ⟨rfl, ⟨nd, rfl⟩⟩) | (go_at_call 32; (with_reducible refine (impl_isWord.calls a0_9 true _ A22.out).mono ?_); rintro e w' ⟨rfl, ⟨nd, rfl⟩⟩) | (go_at_call 33; (with_reducible refine (impl_CartOk.calls k1 a0_12 a0_13 a0_14 a0_15 a0_16 a0_17 a0_18 true _ A24.out).mono ?_); rintro e w48 ⟨rfl, hb⟩; have n0_ := Aside0.mk (Kd.R_below (by (with_reducible repeat (first | apply Kd.R_alloc | apply Kd.R_drewN | apply Kd.R_drew)); exact HO_24.out) hb); have n1_ := Aside0.mk (blk_below (g := gb199) (o := .cells #[.int .i64 a0_0, .int .i64 a0_1, .int .i64 a0_2, .int .i64 a0_3, .int .i64 a0_4, .int .i64 a0_5, .int .i64 a0_6, .int .i64 a0_7, .int .i64 a0_8, .int .i64 a0_9, .bool a0_10, .bool a0_11, .string a0_12, .int .i64 a0_13, .int .i64 a0_14, .string a0_15, .int .i64 a0_16, .bool a0_17, .int .i64 a0_18, .string a0_19, .string a0_20, .slice A0_21 l0_21.length c0_21, .int .i64 a0_22] 34 (0, 0)) (by (with_reducible repeat (first | refine blk_drewN ?_ _ | refine blk_drew ?_ | refine blk_alloc ?_ _)); exact BK199.out) hb); have n2_ := Aside0.mk (blk_below (g := gb200) (o := .cells #[.int .i64 a0_0, .int .i64 a0_1, .int .i64 a0_2, .int .i64 a0_3, .int .i64 a0_4, .int .i64 a0_5, .int .i64 a0_6, .int .i64 a0_7, .int .i64 a0_8, .int .i64 a0_9, .bool a0_10, .bool a0_11] 31 (0, 0)) (by (with_reducible repeat (first | refine blk_drewN ?_ _ | refine blk_drew ?_ | refine blk_alloc ?_ _)); exact BK200.out) hb); have n3_ := Aside0.mk (below_step (by repeat (first | (with_reducible first | exact HB.out | apply below_alloc | apply pw_below_drewN | apply below_drew1 | refine below_set ?_ GE199.out | refine below_set ?_ GE200.out) | exact HB.out)) hb); clear HO_24; clear BK199; clear BK200; clear HB; have HO_24 := n0_; have BK199 := n1_; have BK200 := n2_; have HB := n3_; clear n0_ n1_ n2_ n3_; (try clear hb); (try clear hb2); (try clear hk); (try clear hi); have hZ49_ := cells_all BK199.out; simp only [allCells, Nat.zero_add, Nat.reduceAdd] at hZ49_; obtain ⟨hcz49_0, hfz49_0, hcz49_1, hfz49_1, hcz49_2, hfz49_2, hcz49_3, hfz49_3, hcz49_4, hfz49_4, hcz49_5, hfz49_5, hcz49_6, hfz49_6, hcz49_7, hfz49_7, hcz49_8, hfz49_8, hcz49_9, hfz49_9, hcz49_10, hfz49_10, hcz49_11, hfz49_11, hcz49_12, hfz49_12, hcz49_13, hfz49_13, hcz49_14, hfz49_14, hcz49_15, hfz49_15, hcz49_16, hfz49_16, hcz49_17, hfz49_17, hcz49_18, hfz49_18, hcz49_19, hfz49_19, hcz49_20, hfz49_20, hcz49_21, hfz49_21, hcz49_22, hfz49_22, _⟩ := hZ49_))
                    go_ret
                    exact ⟨by first | rfl | (simp [errW_none, errW_some] <;> rfl) | (simp [*, errW_none, errW_some] <;> rfl), by repeat (first | (with_reducible first | exact HB.out | apply below_alloc | apply pw_below_drewN | apply below_drew1 | refine below_set ?_ GE199.out | refine below_set ?_ GE200.out) | exact HB.out)⟩
                · replace c25 := Bool.eq_false_iff.mpr c25
                  subst c25
                  have H1 : (some false) = some r := by rw [if_neg (show ¬ (false = true) by decide)] at H; exact H
                  clear H
                  have H := H1
                  clear H1
                  obtain rfl := Option.some.inj H
                  have hnb50 := NB199_200.out
                  have hnc50 := NB200_199.out
                  have hcz51_0 : wr.cell? ⟨gb199, 0, none⟩ = some (.int .i64 a0_0) := (blk_cell BK199.out 0).trans rfl
                  have hcz51_1 : wr.cell? ⟨gb199, 1, none⟩ = some (.int .i64 a0_1) := (blk_cell BK199.out 1).trans rfl
                  have hcz51_2 : wr.cell? ⟨gb199, 2, none⟩ = some (.int .i64 a0_2) := (blk_cell BK199.out 2).trans rfl
                  have hcz51_3 : wr.cell? ⟨gb199, 3, none⟩ = some (.int .i64 a0_3) := (blk_cell BK199.out 3).trans rfl
                  have hcz51_4 : wr.cell? ⟨gb199, 4, none⟩ = some (.int .i64 a0_4) := (blk_cell BK199.out 4).trans rfl
                  have hcz51_5 : wr.cell? ⟨gb199, 5, none⟩ = some (.int .i64 a0_5) := (blk_cell BK199.out 5).trans rfl
                  have hcz51_6 : wr.cell? ⟨gb199, 6, none⟩ = some (.int .i64 a0_6) := (blk_cell BK199.out 6).trans rfl
                  have hcz51_7 : wr.cell? ⟨gb199, 7, none⟩ = some (.int .i64 a0_7) := (blk_cell BK199.out 7).trans rfl
                  have hcz51_8 : wr.cell? ⟨gb199, 8, none⟩ = some (.int .i64 a0_8) := (blk_cell BK199.out 8).trans rfl
                  have hcz51_9 : wr.cell? ⟨gb199, 9, none⟩ = some (.int .i64 a0_9) := (blk_cell BK199.out 9).trans rfl
                  have hcz51_10 : wr.cell? ⟨gb199, 10, none⟩ = some (.bool a0_10) := (blk_cell BK199.out 10).trans rfl
                  have hcz51_11 : wr.cell? ⟨gb199, 11, none⟩ = some (.bool a0_11) := (blk_cell BK199.out 11).trans rfl
                  have hcz51_12 : wr.cell? ⟨gb199, 12, none⟩ = some (.string a0_12) := (blk_cell BK199.out 12).trans rfl
                  have hcz51_13 : wr.cell? ⟨gb199, 13, none⟩ = some (.int .i64 a0_13) := (blk_cell BK199.out 13).trans rfl
                  have hcz51_14 : wr.cell? ⟨gb199, 14, none⟩ = some (.int .i64 a0_14) := (blk_cell BK199.out 14).trans rfl
                  have hcz51_15 : wr.cell? ⟨gb199, 15, none⟩ = some (.string a0_15) := (blk_cell BK199.out 15).trans rfl
                  have hcz51_16 : wr.cell? ⟨gb199, 16, none⟩ = some (.int .i64 a0_16) := (blk_cell BK199.out 16).trans rfl
                  have hcz51_17 : wr.cell? ⟨gb199, 17, none⟩ = some (.bool a0_17) := (blk_cell BK199.out 17).trans rfl
                  have hcz51_18 : wr.cell? ⟨gb199, 18, none⟩ = some (.int .i64 a0_18) := (blk_cell BK199.out 18).trans rfl
                  have hcz51_19 : wr.cell? ⟨gb199, 19, none⟩ = some (.string a0_19) := (blk_cell BK199.out 19).trans rfl
                  have hcz51_20 : wr.cell? ⟨gb199, 20, none⟩ = some (.string a0_20) := (blk_cell BK199.out 20).trans rfl
                  have hcz51_21 : wr.cell? ⟨gb199, 21, none⟩ = some (.slice A0_21 l0_21.length c0_21) := (blk_cell BK199.out 21).trans rfl
                  have hcz51_22 : wr.cell? ⟨gb199, 22, none⟩ = some (.int .i64 a0_22) := (blk_cell BK199.out 22).trans rfl
                  have hfz51_0 := blk_frozen BK199.out 0
                  have hfz51_1 := blk_frozen BK199.out 1
                  have hfz51_2 := blk_frozen BK199.out 2
                  have hfz51_3 := blk_frozen BK199.out 3
                  have hfz51_4 := blk_frozen BK199.out 4
                  have hfz51_5 := blk_frozen BK199.out 5
                  have hfz51_6 := blk_frozen BK199.out 6
                  have hfz51_7 := blk_frozen BK199.out 7
                  have hfz51_8 := blk_frozen BK199.out 8
                  have hfz51_9 := blk_frozen BK199.out 9
                  have hfz51_10 := blk_frozen BK199.out 10
                  have hfz51_11 := blk_frozen BK199.out 11
                  have hfz51_12 := blk_frozen BK199.out 12
                  have hfz51_13 := blk_frozen BK199.out 13
                  have hfz51_14 := blk_frozen BK199.out 14
                  have hfz51_15 := blk_frozen BK199.out 15
                  have hfz51_16 := blk_frozen BK199.out 16
                  have hfz51_17 := blk_frozen BK199.out 17
                  have hfz51_18 := blk_frozen BK199.out 18
                  have hfz51_19 := blk_frozen BK199.out 19
                  have hfz51_20 := blk_frozen BK199.out 20
                  have hfz51_21 := blk_frozen BK199.out 21
                  have hfz51_22 := blk_frozen BK199.out 22
                  go_wp2_with (first | ((with_reducible refine gate_callee (f := 30) rfl ?_); refine goesL_ (some 36) rfl rfl Try.func30 (by kernel_rfl) rfl #[.slice A0_21 l0_21.length c0_21, .func (.func 31) #[] #[]] rfl (by (try simp only [List.map_toArray, List.map_cons, List.map_nil]); first | done | rfl | (simp only [List.length_drop, List.length_take]; rfl)) ?_; (with_reducible refine (slices_ContainsFunc_int64_int64.calls _ _ l0_21 () false _ ?side1 ?side2 A15.out).mono ?_); (case side1 => repeat (first | exact (Kd.C_below HR0_21.out HB.out) | (with_reducible refine Kd.C_alloc ?_ _) | (with_reducible refine Kd.C_drewN ?_ _) | (with_reducible refine Kd.C_drew ?_))); (case side2 => exact HC0_21.out); rintro e w' ⟨rfl, ⟨nd, rfl⟩⟩; refine ⟨_, rfl, ?_⟩; have hZ52_ := cells_all BK200.out; simp only [allCells, Nat.zero_add, Nat.reduceAdd] at hZ52_; obtain ⟨hcz52_0, hfz52_0, hcz52_1, hfz52_1, hcz52_2, hfz52_2, hcz52_3, hfz52_3, hcz52_4, hfz52_4, hcz52_5, hfz52_5, hcz52_6, hfz52_6, hcz52_7, hfz52_7, hcz52_8, hfz52_8, hcz52_9, hfz52_9, hcz52_10, hfz52_10, hcz52_11, hfz52_11, _⟩ := hZ52_) | (go_at_call 32; (with_reducible refine (impl_isWord.calls a0_8 true _ A20.out).mono ?_); rintro e w' ⟨rfl, ⟨nd, rfl⟩⟩) | (go_at_call 32; (with_reducible refine (impl_isWord.calls a0_9 true _ A22.out).mono ?_); rintro e w' ⟨rfl, ⟨nd, rfl⟩⟩) | (go_at_call 33; (with_reducible refine (impl_CartOk.calls k1 a0_12 a0_13 a0_14 a0_15 a0_16 a0_17 a0_18 false _ A24.out).mono ?_); rintro e w53 ⟨rfl, hb⟩; have n0_ := Aside0.mk (Kd.R_below (by (with_reducible repeat (first | apply Kd.R_alloc | apply Kd.R_drewN | apply Kd.R_drew)); exact HO_24.out) hb); have n1_ := Aside0.mk (blk_below (g := gb199) (o := .cells #[.int .i64 a0_0, .int .i64 a0_1, .int .i64 a0_2, .int .i64 a0_3, .int .i64 a0_4, .int .i64 a0_5, .int .i64 a0_6, .int .i64 a0_7, .int .i64 a0_8, .int .i64 a0_9, .bool a0_10, .bool a0_11, .string a0_12, .int .i64 a0_13, .int .i64 a0_14, .string a0_15, .int .i64 a0_16, .bool a0_17, .int .i64 a0_18, .string a0_19, .string a0_20, .slice A0_21 l0_21.length c0_21, .int .i64 a0_22] 34 (0, 0)) (by (with_reducible repeat (first | refine blk_drewN ?_ _ | refine blk_drew ?_ | refine blk_alloc ?_ _)); exact BK199.out) hb); have n2_ := Aside0.mk (blk_below (g := gb200) (o := .cells #[.int .i64 a0_0, .int .i64 a0_1, .int .i64 a0_2, .int .i64 a0_3, .int .i64 a0_4, .int .i64 a0_5, .int .i64 a0_6, .int .i64 a0_7, .int .i64 a0_8, .int .i64 a0_9, .bool a0_10, .bool a0_11] 31 (0, 0)) (by (with_reducible repeat (first | refine blk_drewN ?_ _ | refine blk_drew ?_ | refine blk_alloc ?_ _)); exact BK200.out) hb); have n3_ := Aside0.mk (below_step (by repeat (first | (with_reducible first | exact HB.out | apply below_alloc | apply pw_below_drewN | apply below_drew1 | refine below_set ?_ GE199.out | refine below_set ?_ GE200.out) | exact HB.out)) hb); clear HO_24; clear BK199; clear BK200; clear HB; have HO_24 := n0_; have BK199 := n1_; have BK200 := n2_; have HB := n3_; clear n0_ n1_ n2_ n3_; (try clear hb); (try clear hb2); (try clear hk); (try clear hi)))
                  go_ret
                  exact ⟨by first | rfl | (simp [errW_none, errW_some] <;> rfl) | (simp [*, errW_none, errW_some] <;> rfl), by repeat (first | (with_reducible first | exact HB.out | apply below_alloc | apply pw_below_drewN | apply below_drew1 | refine below_set ?_ GE199.out | refine below_set ?_ GE200.out) | exact HB.out)⟩
              · replace c23 := Bool.eq_false_iff.mpr c23
                subst c23
                have H1 : (some false) = some r := by rw [if_neg (show ¬ (false = true) by decide)] at H; exact H
                clear H
                have H := H1
                clear H1
                obtain rfl := Option.some.inj H
                have hnb54 := NB199_200.out
                have hnc54 := NB200_199.out
                have hcz55_0 : wr.cell? ⟨gb199, 0, none⟩ = some (.int .i64 a0_0) := (blk_cell BK199.out 0).trans rfl
                have hcz55_1 : wr.cell? ⟨gb199, 1, none⟩ = some (.int .i64 a0_1) := (blk_cell BK199.out 1).trans rfl
                have hcz55_2 : wr.cell? ⟨gb199, 2, none⟩ = some (.int .i64 a0_2) := (blk_cell BK199.out 2).trans rfl
                have hcz55_3 : wr.cell? ⟨gb199, 3, none⟩ = some (.int .i64 a0_3) := (blk_cell BK199.out 3).trans rfl
                have hcz55_4 : wr.cell? ⟨gb199, 4, none⟩ = some (.int .i64 a0_4) := (blk_cell BK199.out 4).trans rfl
                have hcz55_5 : wr.cell? ⟨gb199, 5, none⟩ = some (.int .i64 a0_5) := (blk_cell BK199.out 5).trans rfl
                have hcz55_6 : wr.cell? ⟨gb199, 6, none⟩ = some (.int .i64 a0_6) := (blk_cell BK199.out 6).trans rfl
                have hcz55_7 : wr.cell? ⟨gb199, 7, none⟩ = some (.int .i64 a0_7) := (blk_cell BK199.out 7).trans rfl
                have hcz55_8 : wr.cell? ⟨gb199, 8, none⟩ = some (.int .i64 a0_8) := (blk_cell BK199.out 8).trans rfl
                have hcz55_9 : wr.cell? ⟨gb199, 9, none⟩ = some (.int .i64 a0_9) := (blk_cell BK199.out 9).trans rfl
                have hcz55_10 : wr.cell? ⟨gb199, 10, none⟩ = some (.bool a0_10) := (blk_cell BK199.out 10).trans rfl
                have hcz55_11 : wr.cell? ⟨gb199, 11, none⟩ = some (.bool a0_11) := (blk_cell BK199.out 11).trans rfl
                have hcz55_12 : wr.cell? ⟨gb199, 12, none⟩ = some (.string a0_12) := (blk_cell BK199.out 12).trans rfl
                have hcz55_13 : wr.cell? ⟨gb199, 13, none⟩ = some (.int .i64 a0_13) := (blk_cell BK199.out 13).trans rfl
                have hcz55_14 : wr.cell? ⟨gb199, 14, none⟩ = some (.int .i64 a0_14) := (blk_cell BK199.out 14).trans rfl
                have hcz55_15 : wr.cell? ⟨gb199, 15, none⟩ = some (.string a0_15) := (blk_cell BK199.out 15).trans rfl
                have hcz55_16 : wr.cell? ⟨gb199, 16, none⟩ = some (.int .i64 a0_16) := (blk_cell BK199.out 16).trans rfl
                have hcz55_17 : wr.cell? ⟨gb199, 17, none⟩ = some (.bool a0_17) := (blk_cell BK199.out 17).trans rfl
                have hcz55_18 : wr.cell? ⟨gb199, 18, none⟩ = some (.int .i64 a0_18) := (blk_cell BK199.out 18).trans rfl
                have hcz55_19 : wr.cell? ⟨gb199, 19, none⟩ = some (.string a0_19) := (blk_cell BK199.out 19).trans rfl
                have hcz55_20 : wr.cell? ⟨gb199, 20, none⟩ = some (.string a0_20) := (blk_cell BK199.out 20).trans rfl
                have hcz55_21 : wr.cell? ⟨gb199, 21, none⟩ = some (.slice A0_21 l0_21.length c0_21) := (blk_cell BK199.out 21).trans rfl
                have hcz55_22 : wr.cell? ⟨gb199, 22, none⟩ = some (.int .i64 a0_22) := (blk_cell BK199.out 22).trans rfl
                have hfz55_0 := blk_frozen BK199.out 0
                have hfz55_1 := blk_frozen BK199.out 1
                have hfz55_2 := blk_frozen BK199.out 2
                have hfz55_3 := blk_frozen BK199.out 3
                have hfz55_4 := blk_frozen BK199.out 4
                have hfz55_5 := blk_frozen BK199.out 5
                have hfz55_6 := blk_frozen BK199.out 6
                have hfz55_7 := blk_frozen BK199.out 7
                have hfz55_8 := blk_frozen BK199.out 8
                have hfz55_9 := blk_frozen BK199.out 9
                have hfz55_10 := blk_frozen BK199.out 10
                have hfz55_11 := blk_frozen BK199.out 11
                have hfz55_12 := blk_frozen BK199.out 12
                have hfz55_13 := blk_frozen BK199.out 13
                have hfz55_14 := blk_frozen BK199.out 14
                have hfz55_15 := blk_frozen BK199.out 15
                have hfz55_16 := blk_frozen BK199.out 16
                have hfz55_17 := blk_frozen BK199.out 17
                have hfz55_18 := blk_frozen BK199.out 18
                have hfz55_19 := blk_frozen BK199.out 19
                have hfz55_20 := blk_frozen BK199.out 20
                have hfz55_21 := blk_frozen BK199.out 21
                have hfz55_22 := blk_frozen BK199.out 22
                go_wp2_with (first | ((with_reducible refine gate_callee (f := 30) rfl ?_); refine goesL_ (some 36) rfl rfl Try.func30 (by kernel_rfl) rfl #[.slice A0_21 l0_21.length c0_21, .func (.func 31) #[] #[]] rfl (by (try simp only [List.map_toArray, List.map_cons, List.map_nil]); first | done | rfl | (simp only [List.length_drop, List.length_take]; rfl)) ?_; (with_reducible refine (slices_ContainsFunc_int64_int64.calls _ _ l0_21 () false _ ?side1 ?side2 A15.out).mono ?_); (case side1 => repeat (first | exact (Kd.C_below HR0_21.out HB.out) | (with_reducible refine Kd.C_alloc ?_ _) | (with_reducible refine Kd.C_drewN ?_ _) | (with_reducible refine Kd.C_drew ?_))); (case side2 => exact HC0_21.out); rintro e w' ⟨rfl, ⟨nd, rfl⟩⟩; refine ⟨_, rfl, ?_⟩; have hZ56_ := cells_all BK200.out; simp only [allCells, Nat.zero_add, Nat.reduceAdd] at hZ56_; obtain ⟨hcz56_0, hfz56_0, hcz56_1, hfz56_1, hcz56_2, hfz56_2, hcz56_3, hfz56_3, hcz56_4, hfz56_4, hcz56_5, hfz56_5, hcz56_6, hfz56_6, hcz56_7, hfz56_7, hcz56_8, hfz56_8, hcz56_9, hfz56_9, hcz56_10, hfz56_10, hcz56_11, hfz56_11, _⟩ := hZ56_) | (go_at_call 32; (with_reducible refine (impl_isWord.calls a0_8 true _ A20.out).mono ?_); rintro e w' ⟨rfl, ⟨nd, rfl⟩⟩) | (go_at_call 32; (with_reducible refine (impl_isWord.calls a0_9 false _ A22.out).mono ?_); rintro e w' ⟨rfl, ⟨nd, rfl⟩⟩))
                go_ret
                exact ⟨by first | rfl | (simp [errW_none, errW_some] <;> rfl) | (simp [*, errW_none, errW_some] <;> rfl), by repeat (first | (with_reducible first | exact HB.out | apply below_alloc | apply pw_below_drewN | apply below_drew1 | refine below_set ?_ GE199.out | refine below_set ?_ GE200.out) | exact HB.out)⟩
            · replace c21 := Bool.eq_false_iff.mpr c21
              subst c21
              have H1 : (some false) = some r := by rw [if_neg (show ¬ (false = true) by decide)] at H; exact H
              clear H
              have H := H1
              clear H1
              obtain rfl := Option.some.inj H
              have hnb57 := NB199_200.out
              have hnc57 := NB200_199.out
              have hcz58_0 : wr.cell? ⟨gb199, 0, none⟩ = some (.int .i64 a0_0) := (blk_cell BK199.out 0).trans rfl
              have hcz58_1 : wr.cell? ⟨gb199, 1, none⟩ = some (.int .i64 a0_1) := (blk_cell BK199.out 1).trans rfl
              have hcz58_2 : wr.cell? ⟨gb199, 2, none⟩ = some (.int .i64 a0_2) := (blk_cell BK199.out 2).trans rfl
              have hcz58_3 : wr.cell? ⟨gb199, 3, none⟩ = some (.int .i64 a0_3) := (blk_cell BK199.out 3).trans rfl
              have hcz58_4 : wr.cell? ⟨gb199, 4, none⟩ = some (.int .i64 a0_4) := (blk_cell BK199.out 4).trans rfl
              have hcz58_5 : wr.cell? ⟨gb199, 5, none⟩ = some (.int .i64 a0_5) := (blk_cell BK199.out 5).trans rfl
              have hcz58_6 : wr.cell? ⟨gb199, 6, none⟩ = some (.int .i64 a0_6) := (blk_cell BK199.out 6).trans rfl
              have hcz58_7 : wr.cell? ⟨gb199, 7, none⟩ = some (.int .i64 a0_7) := (blk_cell BK199.out 7).trans rfl
              have hcz58_8 : wr.cell? ⟨gb199, 8, none⟩ = some (.int .i64 a0_8) := (blk_cell BK199.out 8).trans rfl
              have hcz58_9 : wr.cell? ⟨gb199, 9, none⟩ = some (.int .i64 a0_9) := (blk_cell BK199.out 9).trans rfl
              have hcz58_10 : wr.cell? ⟨gb199, 10, none⟩ = some (.bool a0_10) := (blk_cell BK199.out 10).trans rfl
              have hcz58_11 : wr.cell? ⟨gb199, 11, none⟩ = some (.bool a0_11) := (blk_cell BK199.out 11).trans rfl
              have hcz58_12 : wr.cell? ⟨gb199, 12, none⟩ = some (.string a0_12) := (blk_cell BK199.out 12).trans rfl
              have hcz58_13 : wr.cell? ⟨gb199, 13, none⟩ = some (.int .i64 a0_13) := (blk_cell BK199.out 13).trans rfl
              have hcz58_14 : wr.cell? ⟨gb199, 14, none⟩ = some (.int .i64 a0_14) := (blk_cell BK199.out 14).trans rfl
              have hcz58_15 : wr.cell? ⟨gb199, 15, none⟩ = some (.string a0_15) := (blk_cell BK199.out 15).trans rfl
              have hcz58_16 : wr.cell? ⟨gb199, 16, none⟩ = some (.int .i64 a0_16) := (blk_cell BK199.out 16).trans rfl
              have hcz58_17 : wr.cell? ⟨gb199, 17, none⟩ = some (.bool a0_17) := (blk_cell BK199.out 17).trans rfl
              have hcz58_18 : wr.cell? ⟨gb199, 18, none⟩ = some (.int .i64 a0_18) := (blk_cell BK199.out 18).trans rfl
              have hcz58_19 : wr.cell? ⟨gb199, 19, none⟩ = some (.string a0_19) := (blk_cell BK199.out 19).trans rfl
              have hcz58_20 : wr.cell? ⟨gb199, 20, none⟩ = some (.string a0_20) := (blk_cell BK199.out 20).trans rfl
              have hcz58_21 : wr.cell? ⟨gb199, 21, none⟩ = some (.slice A0_21 l0_21.length c0_21) := (blk_cell BK199.out 21).trans rfl
              have hcz58_22 : wr.cell? ⟨gb199, 22, none⟩ = some (.int .i64 a0_22) := (blk_cell BK199.out 22).trans rfl
              have hfz58_0 := blk_frozen BK199.out 0
              have hfz58_1 := blk_frozen BK199.out 1
              have hfz58_2 := blk_frozen BK199.out 2
              have hfz58_3 := blk_frozen BK199.out 3
              have hfz58_4 := blk_frozen BK199.out 4
              have hfz58_5 := blk_frozen BK199.out 5
              have hfz58_6 := blk_frozen BK199.out 6
              have hfz58_7 := blk_frozen BK199.out 7
              have hfz58_8 := blk_frozen BK199.out 8
              have hfz58_9 := blk_frozen BK199.out 9
              have hfz58_10 := blk_frozen BK199.out 10
              have hfz58_11 := blk_frozen BK199.out 11
              have hfz58_12 := blk_frozen BK199.out 12
              have hfz58_13 := blk_frozen BK199.out 13
              have hfz58_14 := blk_frozen BK199.out 14
              have hfz58_15 := blk_frozen BK199.out 15
              have hfz58_16 := blk_frozen BK199.out 16
              have hfz58_17 := blk_frozen BK199.out 17
              have hfz58_18 := blk_frozen BK199.out 18
              have hfz58_19 := blk_frozen BK199.out 19
              have hfz58_20 := blk_frozen BK199.out 20
              have hfz58_21 := blk_frozen BK199.out 21
              have hfz58_22 := blk_frozen BK199.out 22
              go_wp2_with (first | ((with_reducible refine gate_callee (f := 30) rfl ?_); refine goesL_ (some 36) rfl rfl Try.func30 (by kernel_rfl) rfl #[.slice A0_21 l0_21.length c0_21, .func (.func 31) #[] #[]] rfl (by (try simp only [List.map_toArray, List.map_cons, List.map_nil]); first | done | rfl | (simp only [List.length_drop, List.length_take]; rfl)) ?_; (with_reducible refine (slices_ContainsFunc_int64_int64.calls _ _ l0_21 () false _ ?side1 ?side2 A15.out).mono ?_); (case side1 => repeat (first | exact (Kd.C_below HR0_21.out HB.out) | (with_reducible refine Kd.C_alloc ?_ _) | (with_reducible refine Kd.C_drewN ?_ _) | (with_reducible refine Kd.C_drew ?_))); (case side2 => exact HC0_21.out); rintro e w' ⟨rfl, ⟨nd, rfl⟩⟩; refine ⟨_, rfl, ?_⟩; have hZ59_ := cells_all BK200.out; simp only [allCells, Nat.zero_add, Nat.reduceAdd] at hZ59_; obtain ⟨hcz59_0, hfz59_0, hcz59_1, hfz59_1, hcz59_2, hfz59_2, hcz59_3, hfz59_3, hcz59_4, hfz59_4, hcz59_5, hfz59_5, hcz59_6, hfz59_6, hcz59_7, hfz59_7, hcz59_8, hfz59_8, hcz59_9, hfz59_9, hcz59_10, hfz59_10, hcz59_11, hfz59_11, _⟩ := hZ59_) | (go_at_call 32; (with_reducible refine (impl_isWord.calls a0_8 false _ A20.out).mono ?_); rintro e w' ⟨rfl, ⟨nd, rfl⟩⟩))
              go_ret
              exact ⟨by first | rfl | (simp [errW_none, errW_some] <;> rfl) | (simp [*, errW_none, errW_some] <;> rfl), by repeat (first | (with_reducible first | exact HB.out | apply below_alloc | apply pw_below_drewN | apply below_drew1 | refine below_set ?_ GE199.out | refine below_set ?_ GE200.out) | exact HB.out)⟩
          · rw [if_neg c19] at H
            have c19b0 : ((Int.tmod a0_1 16) == 0) = false := beq_eq_false_iff_ne.mpr c19
            have c19b1 : ((Int.tmod a0_1 16) != 0) = true := bne_iff_ne.mpr c19
            obtain rfl := Option.some.inj H
            have hnb60 := NB199_200.out
            have hnc60 := NB200_199.out
            have hcz61_0 : wr.cell? ⟨gb199, 0, none⟩ = some (.int .i64 a0_0) := (blk_cell BK199.out 0).trans rfl
            have hcz61_1 : wr.cell? ⟨gb199, 1, none⟩ = some (.int .i64 a0_1) := (blk_cell BK199.out 1).trans rfl
            have hcz61_2 : wr.cell? ⟨gb199, 2, none⟩ = some (.int .i64 a0_2) := (blk_cell BK199.out 2).trans rfl
            have hcz61_3 : wr.cell? ⟨gb199, 3, none⟩ = some (.int .i64 a0_3) := (blk_cell BK199.out 3).trans rfl
            have hcz61_4 : wr.cell? ⟨gb199, 4, none⟩ = some (.int .i64 a0_4) := (blk_cell BK199.out 4).trans rfl
            have hcz61_5 : wr.cell? ⟨gb199, 5, none⟩ = some (.int .i64 a0_5) := (blk_cell BK199.out 5).trans rfl
            have hcz61_6 : wr.cell? ⟨gb199, 6, none⟩ = some (.int .i64 a0_6) := (blk_cell BK199.out 6).trans rfl
            have hcz61_7 : wr.cell? ⟨gb199, 7, none⟩ = some (.int .i64 a0_7) := (blk_cell BK199.out 7).trans rfl
            have hcz61_8 : wr.cell? ⟨gb199, 8, none⟩ = some (.int .i64 a0_8) := (blk_cell BK199.out 8).trans rfl
            have hcz61_9 : wr.cell? ⟨gb199, 9, none⟩ = some (.int .i64 a0_9) := (blk_cell BK199.out 9).trans rfl
            have hcz61_10 : wr.cell? ⟨gb199, 10, none⟩ = some (.bool a0_10) := (blk_cell BK199.out 10).trans rfl
            have hcz61_11 : wr.cell? ⟨gb199, 11, none⟩ = some (.bool a0_11) := (blk_cell BK199.out 11).trans rfl
            have hcz61_12 : wr.cell? ⟨gb199, 12, none⟩ = some (.string a0_12) := (blk_cell BK199.out 12).trans rfl
            have hcz61_13 : wr.cell? ⟨gb199, 13, none⟩ = some (.int .i64 a0_13) := (blk_cell BK199.out 13).trans rfl
            have hcz61_14 : wr.cell? ⟨gb199, 14, none⟩ = some (.int .i64 a0_14) := (blk_cell BK199.out 14).trans rfl
            have hcz61_15 : wr.cell? ⟨gb199, 15, none⟩ = some (.string a0_15) := (blk_cell BK199.out 15).trans rfl
            have hcz61_16 : wr.cell? ⟨gb199, 16, none⟩ = some (.int .i64 a0_16) := (blk_cell BK199.out 16).trans rfl
            have hcz61_17 : wr.cell? ⟨gb199, 17, none⟩ = some (.bool a0_17) := (blk_cell BK199.out 17).trans rfl
            have hcz61_18 : wr.cell? ⟨gb199, 18, none⟩ = some (.int .i64 a0_18) := (blk_cell BK199.out 18).trans rfl
            have hcz61_19 : wr.cell? ⟨gb199, 19, none⟩ = some (.string a0_19) := (blk_cell BK199.out 19).trans rfl
            have hcz61_20 : wr.cell? ⟨gb199, 20, none⟩ = some (.string a0_20) := (blk_cell BK199.out 20).trans rfl
            have hcz61_21 : wr.cell? ⟨gb199, 21, none⟩ = some (.slice A0_21 l0_21.length c0_21) := (blk_cell BK199.out 21).trans rfl
            have hcz61_22 : wr.cell? ⟨gb199, 22, none⟩ = some (.int .i64 a0_22) := (blk_cell BK199.out 22).trans rfl
            have hfz61_0 := blk_frozen BK199.out 0
            have hfz61_1 := blk_frozen BK199.out 1
            have hfz61_2 := blk_frozen BK199.out 2
            have hfz61_3 := blk_frozen BK199.out 3
            have hfz61_4 := blk_frozen BK199.out 4
            have hfz61_5 := blk_frozen BK199.out 5
            have hfz61_6 := blk_frozen BK199.out 6
            have hfz61_7 := blk_frozen BK199.out 7
            have hfz61_8 := blk_frozen BK199.out 8
            have hfz61_9 := blk_frozen BK199.out 9
            have hfz61_10 := blk_frozen BK199.out 10
            have hfz61_11 := blk_frozen BK199.out 11
            have hfz61_12 := blk_frozen BK199.out 12
            have hfz61_13 := blk_frozen BK199.out 13
            have hfz61_14 := blk_frozen BK199.out 14
            have hfz61_15 := blk_frozen BK199.out 15
            have hfz61_16 := blk_frozen BK199.out 16
            have hfz61_17 := blk_frozen BK199.out 17
            have hfz61_18 := blk_frozen BK199.out 18
            have hfz61_19 := blk_frozen BK199.out 19
            have hfz61_20 := blk_frozen BK199.out 20
            have hfz61_21 := blk_frozen BK199.out 21
            have hfz61_22 := blk_frozen BK199.out 22
            go_wp2_with (first | ((with_reducible refine gate_callee (f := 30) rfl ?_); refine goesL_ (some 36) rfl rfl Try.func30 (by kernel_rfl) rfl #[.slice A0_21 l0_21.length c0_21, .func (.func 31) #[] #[]] rfl (by (try simp only [List.map_toArray, List.map_cons, List.map_nil]); first | done | rfl | (simp only [List.length_drop, List.length_take]; rfl)) ?_; (with_reducible refine (slices_ContainsFunc_int64_int64.calls _ _ l0_21 () false _ ?side1 ?side2 A15.out).mono ?_); (case side1 => repeat (first | exact (Kd.C_below HR0_21.out HB.out) | (with_reducible refine Kd.C_alloc ?_ _) | (with_reducible refine Kd.C_drewN ?_ _) | (with_reducible refine Kd.C_drew ?_))); (case side2 => exact HC0_21.out); rintro e w' ⟨rfl, ⟨nd, rfl⟩⟩; refine ⟨_, rfl, ?_⟩; have hZ62_ := cells_all BK200.out; simp only [allCells, Nat.zero_add, Nat.reduceAdd] at hZ62_; obtain ⟨hcz62_0, hfz62_0, hcz62_1, hfz62_1, hcz62_2, hfz62_2, hcz62_3, hfz62_3, hcz62_4, hfz62_4, hcz62_5, hfz62_5, hcz62_6, hfz62_6, hcz62_7, hfz62_7, hcz62_8, hfz62_8, hcz62_9, hfz62_9, hcz62_10, hfz62_10, hcz62_11, hfz62_11, _⟩ := hZ62_))
            go_ret
            exact ⟨by first | rfl | (simp [errW_none, errW_some] <;> rfl) | (simp [*, errW_none, errW_some] <;> rfl), by repeat (first | (with_reducible first | exact HB.out | apply below_alloc | apply pw_below_drewN | apply below_drew1 | refine below_set ?_ GE199.out | refine below_set ?_ GE200.out) | exact HB.out)⟩

end Go.Proofs.Ytmgbdbamfljjnaa.PFnExactBusRead
