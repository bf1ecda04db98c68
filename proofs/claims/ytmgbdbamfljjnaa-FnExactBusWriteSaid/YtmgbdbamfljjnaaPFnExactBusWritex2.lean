/- What the Go functions that the law FnExactBusWrite reaches compute, function by function, and that Go comes to just that. -/
import Derived.Test.YtmgbdbamfljjnaaPFnExactBusWritex0
import Derived.Test.YtmgbdbamfljjnaaAidZ
import Derived.Test.YtmgbdbamfljjnaaPFnExactBusWritex1
namespace Go.Proofs.Ytmgbdbamfljjnaa.PFnExactBusWrite
open Go.RowKit Go.Proofs.Ytmgbdbamfljjnaa.Z Go.Proofs.YtmgbdbamfljjnaaW.PrintWords Go.Proofs.YtmgbdbamfljjnaaW.PrintLast Go.Proofs.YtmgbdbamfljjnaaW.PrintMore
attribute [local go_sem] max2_int min2_int max_two min_two max_three min_three max_four min_four   -- for this text's walks alone
set_option linter.unusedVariables false
set_option linter.unusedSimpArgs false

/-! ### laws_eqMachine: function 11 -/
def laws_eqMachine.f (k : Nat) (a0_0 : Int) (a0_1 : Int) (a0_2 : Int) (a0_3 : Int) (a0_4 : Int) (a0_5 : Int) (a0_6 : Int) (a0_7 : Int) (a0_8 : Int) (a0_9 : Int) (a0_10 : Bool) (a0_11 : Bool) (a0_12 : ByteArray) (a0_13 : Int) (a0_14 : Int) (a0_15 : ByteArray) (a0_16 : Int) (a0_17 : Bool) (a0_18 : Int) (a0_19 : ByteArray) (a0_20 : ByteArray) (l0_21 : List Int) (a0_22 : Int) (a1_0 : Int) (a1_1 : Int) (a1_2 : Int) (a1_3 : Int) (a1_4 : Int) (a1_5 : Int) (a1_6 : Int) (a1_7 : Int) (a1_8 : Int) (a1_9 : Int) (a1_10 : Bool) (a1_11 : Bool) (a1_12 : ByteArray) (a1_13 : Int) (a1_14 : Int) (a1_15 : ByteArray) (a1_16 : Int) (a1_17 : Bool) (a1_18 : Int) (a1_19 : ByteArray) (a1_20 : ByteArray) (l1_21 : List Int) (a1_22 : Int) : Option (Bool) := (laws_eqCpu.f a0_0 a0_1 a0_2 a0_3 a0_4 a0_5 a0_6 a0_7 a0_8 a0_9 a0_10 a0_11 a1_0 a1_1 a1_2 a1_3 a1_4 a1_5 a1_6 a1_7 a1_8 a1_9 a1_10 a1_11).bind fun t149 => (if t149 = true then ((laws_eqCart.f a0_12 a0_13 a0_14 a0_15 a0_16 a0_17 a0_18 a1_12 a1_13 a1_14 a1_15 a1_16 a1_17 a1_18).bind fun t150 => (if t150 = true then (if a0_19.toList = a1_19.toList then (if a0_20.toList = a1_20.toList then ((laws_eqInt64S.f k l0_21 l1_21).bind fun t151 => (if t151 = true then (if a0_22 = a1_22 then (some true) else (some false)) else (some false))) else (some false)) else (some false)) else (some false))) else (some false))
theorem laws_eqMachine.mono : ∀ a0 a1 a2 a3 a4 a5 a6 a7 a8 a9 a10 a11 a12 a13 a14 a15 a16 a17 a18 a19 a20 a21 a22 a23 a24 a25 a26 a27 a28 a29 a30 a31 a32 a33 a34 a35 a36 a37 a38 a39 a40 a41 a42 a43 a44 a45 k, LeO (laws_eqMachine.f k a0 a1 a2 a3 a4 a5 a6 a7 a8 a9 a10 a11 a12 a13 a14 a15 a16 a17 a18 a19 a20 a21 a22 a23 a24 a25 a26 a27 a28 a29 a30 a31 a32 a33 a34 a35 a36 a37 a38 a39 a40 a41 a42 a43 a44 a45) (laws_eqMachine.f (k + 1) a0 a1 a2 a3 a4 a5 a6 a7 a8 a9 a10 a11 a12 a13 a14 a15 a16 a17 a18 a19 a20 a21 a22 a23 a24 a25 a26 a27 a28 a29 a30 a31 a32 a33 a34 a35 a36 a37 a38 a39 a40 a41 a42 a43 a44 a45) := by
  intro a0 a1 a2 a3 a4 a5 a6 a7 a8 a9 a10 a11 a12 a13 a14 a15 a16 a17 a18 a19 a20 a21 a22 a23 a24 a25 a26 a27 a28 a29 a30 a31 a32 a33 a34 a35 a36 a37 a38 a39 a40 a41 a42 a43 a44 a45 k
  unfold laws_eqMachine.f
  repeat' first
      | (with_reducible exact laws_eqInt64S.mono _ _ _)
      | (with_reducible exact LeO.refl _)
      | (with_reducible exact LeO.none _)
      | (with_reducible refine LeO.ite ?_ ?_)
      | (with_reducible refine LeO.bind ?_ (fun _ => ?_))
      | exact laws_eqInt64S.mono _ _ _
      | exact LeO.none _
      | refine LeO.ite ?_ ?_
      | refine LeO.bind ?_ (fun _ => ?_)
open Go.Proofs.Ytmgbdbamfljjnaa.Aid in
set_option maxHeartbeats 8000000 in
set_option maxRecDepth 100000 in
theorem laws_eqMachine.calls (k : Nat) (a0_0 : Int) (a0_1 : Int) (a0_2 : Int) (a0_3 : Int) (a0_4 : Int) (a0_5 : Int) (a0_6 : Int) (a0_7 : Int) (a0_8 : Int) (a0_9 : Int) (a0_10 : Bool) (a0_11 : Bool) (a0_12 : ByteArray) (a0_13 : Int) (a0_14 : Int) (a0_15 : ByteArray) (a0_16 : Int) (a0_17 : Bool) (a0_18 : Int) (a0_19 : ByteArray) (a0_20 : ByteArray) (A0_21 : Option Addr) (c0_21 : Nat) (l0_21 : List Int) (a0_22 : Int) (a1_0 : Int) (a1_1 : Int) (a1_2 : Int) (a1_3 : Int) (a1_4 : Int) (a1_5 : Int) (a1_6 : Int) (a1_7 : Int) (a1_8 : Int) (a1_9 : Int) (a1_10 : Bool) (a1_11 : Bool) (a1_12 : ByteArray) (a1_13 : Int) (a1_14 : Int) (a1_15 : ByteArray) (a1_16 : Int) (a1_17 : Bool) (a1_18 : Int) (a1_19 : ByteArray) (a1_20 : ByteArray) (A1_21 : Option Addr) (c1_21 : Nat) (l1_21 : List Int) (a1_22 : Int) (r : Bool) (w : World) (hr0_21 : Kd.C (Kd.int .i64) w A0_21 l0_21.length l0_21) (hc0_21 : l0_21.length ≤ c0_21) (hr1_21 : Kd.C (Kd.int .i64) w A1_21 l1_21.length l1_21) (hc1_21 : l1_21.length ≤ c1_21) (h : laws_eqMachine.f k a0_0 a0_1 a0_2 a0_3 a0_4 a0_5 a0_6 a0_7 a0_8 a0_9 a0_10 a0_11 a0_12 a0_13 a0_14 a0_15 a0_16 a0_17 a0_18 a0_19 a0_20 l0_21 a0_22 a1_0 a1_1 a1_2 a1_3 a1_4 a1_5 a1_6 a1_7 a1_8 a1_9 a1_10 a1_11 a1_12 a1_13 a1_14 a1_15 a1_16 a1_17 a1_18 a1_19 a1_20 l1_21 a1_22 = some r) :
 Calls Try.prog 11 #[.agg #[.int .i64 a0_0, .int .i64 a0_1, .int .i64 a0_2, .int .i64 a0_3, .int .i64 a0_4, .int .i64 a0_5, .int .i64 a0_6, .int .i64 a0_7, .int .i64 a0_8, .int .i64 a0_9, .bool a0_10, .bool a0_11, .string a0_12, .int .i64 a0_13, .int .i64 a0_14, .string a0_15, .int .i64 a0_16, .bool a0_17, .int .i64 a0_18, .string a0_19, .string a0_20, .slice A0_21 l0_21.length c0_21, .int .i64 a0_22], .agg #[.int .i64 a1_0, .int .i64 a1_1, .int .i64 a1_2, .int .i64 a1_3, .int .i64 a1_4, .int .i64 a1_5, .int .i64 a1_6, .int .i64 a1_7, .int .i64 a1_8, .int .i64 a1_9, .bool a1_10, .bool a1_11, .string a1_12, .int .i64 a1_13, .int .i64 a1_14, .string a1_15, .int .i64 a1_16, .bool a1_17, .int .i64 a1_18, .string a1_19, .string a1_20, .slice A1_21 l1_21.length c1_21, .int .i64 a1_22]] w fun e w' => e = .returned (.bool r) ∧ Below w.heap.size w w' := by
 have hu34 := Try.underlying34
 have hu31 := Try.underlying31
 have hu32 := Try.underlying32
 have HR0_21 := Aside0.mk hr0_21
 have HC0_21 := Aside0.mk hc0_21
 clear hr0_21 hc0_21
 have HR1_21 := Aside0.mk hr1_21
 have HC1_21 := Aside0.mk hc1_21
 clear hr1_21 hc1_21
 have HB := Aside0.mk (Below.refl w.heap.size w)
 have H : ((laws_eqCpu.f a0_0 a0_1 a0_2 a0_3 a0_4 a0_5 a0_6 a0_7 a0_8 a0_9 a0_10 a0_11 a1_0 a1_1 a1_2 a1_3 a1_4 a1_5 a1_6 a1_7 a1_8 a1_9 a1_10 a1_11).bind fun t149 => (if t149 = true then ((laws_eqCart.f a0_12 a0_13 a0_14 a0_15 a0_16 a0_17 a0_18 a1_12 a1_13 a1_14 a1_15 a1_16 a1_17 a1_18).bind fun t150 => (if t150 = true then (if a0_19.toList = a1_19.toList then (if a0_20.toList = a1_20.toList then ((laws_eqInt64S.f k l0_21 l1_21).bind fun t151 => (if t151 = true then (if a0_22 = a1_22 then (some true) else (some false)) else (some false))) else (some false)) else (some false)) else (some false))) else (some false))) = some r := h
 clear h
 obtain ⟨t149, A30, H⟩ := Option.bind_eq_some_iff.mp H
 have A3 := Aside0.mk A30
 clear A30
 by_cases c4 : t149 = true
 ·subst c4
  rw [if_pos rfl] at H
  obtain ⟨t150, A50, H⟩ := Option.bind_eq_some_iff.mp H
  have A5 := Aside0.mk A50
  clear A50
  by_cases c6 : t150 = true
  ·subst c6
   rw [if_pos rfl] at H
   by_cases c7 : a0_19.toList = a1_19.toList
   ·rw [if_pos c7] at H
    have c7b0 : (a0_19.toList == a1_19.toList) = true := beq_iff_eq.mpr c7
    have c7b1 : (a0_19.toList != a1_19.toList) = false := bne_eq_false_iff_eq.mpr c7
    clear c7
    by_cases c8 : a0_20.toList = a1_20.toList
    ·rw [if_pos c8] at H
     have c8b0 : (a0_20.toList == a1_20.toList) = true := beq_iff_eq.mpr c8
     have c8b1 : (a0_20.toList != a1_20.toList) = false := bne_eq_false_iff_eq.mpr c8
     clear c8
     obtain ⟨t151, A90, H⟩ := Option.bind_eq_some_iff.mp H
     have A9 := Aside0.mk A90
     clear A90
     by_cases c10 : t151 = true
     ·subst c10
      rw [if_pos rfl] at H
      by_cases c11 : a0_22 = a1_22
      ·rw [if_pos c11] at H
       have c11b0 : (a0_22 == a1_22) = true := beq_iff_eq.mpr c11
       have c11b1 : (a0_22 != a1_22) = false := bne_eq_false_iff_eq.mpr c11
       clear c11
       obtain rfl := Option.some.inj H
       go_enter Try.func11, Try.ntmps11
       go_wp2_with (first | ((with_reducible refine gate_dst (N := 6) rfl ?_); refine load_blkg rfl (ty := 31) (p := 5) rfl BK147.out 0 12 rfl rfl Try.underlying31 rfl (by kernel_rfl) ?_; simp only [List.drop_succ_cons, List.drop_zero, List.take_succ_cons, List.take_zero, Act.put, List.setIfInBounds_toArray, List.set_cons_zero, List.set_cons_succ, Option.elim]) | ((with_reducible refine gate_dst (N := 8) rfl ?_); refine load_blkg rfl (ty := 31) (p := 7) rfl BK148.out 0 12 rfl rfl Try.underlying31 rfl (by kernel_rfl) ?_; simp only [List.drop_succ_cons, List.drop_zero, List.take_succ_cons, List.take_zero, Act.put, List.setIfInBounds_toArray, List.set_cons_zero, List.set_cons_succ, Option.elim]) | ((with_reducible refine gate_dst (N := 12) rfl ?_); refine load_blkg rfl (ty := 32) (p := 11) rfl BK147.out 12 7 rfl rfl Try.underlying32 rfl (by kernel_rfl) ?_; simp only [List.drop_succ_cons, List.drop_zero, List.take_succ_cons, List.take_zero, Act.put, List.setIfInBounds_toArray, List.set_cons_zero, List.set_cons_succ, Option.elim]) | ((with_reducible refine gate_dst (N := 14) rfl ?_); refine load_blkg rfl (ty := 32) (p := 13) rfl BK148.out 12 7 rfl rfl Try.underlying32 rfl (by kernel_rfl) ?_; simp only [List.drop_succ_cons, List.drop_zero, List.take_succ_cons, List.take_zero, Act.put, List.setIfInBounds_toArray, List.set_cons_zero, List.set_cons_succ, Option.elim]) | ((with_reducible refine gate_dst (N := 18) rfl ?_); refine load_one rfl (ty := 9) (p := 17) rfl BK147.out 19 rfl rfl Try.underlying9 rfl ?_; simp only [List.drop_succ_cons, List.drop_zero, List.take_succ_cons, List.take_zero, Act.put, List.setIfInBounds_toArray, List.set_cons_zero, List.set_cons_succ, Option.elim]) | ((with_reducible refine gate_dst (N := 20) rfl ?_); refine load_one rfl (ty := 9) (p := 19) rfl BK148.out 19 rfl rfl Try.underlying9 rfl ?_; simp only [List.drop_succ_cons, List.drop_zero, List.take_succ_cons, List.take_zero, Act.put, List.setIfInBounds_toArray, List.set_cons_zero, List.set_cons_succ, Option.elim]) | ((with_reducible refine gate_dst (N := 23) rfl ?_); refine load_one rfl (ty := 9) (p := 22) rfl BK147.out 20 rfl rfl Try.underlying9 rfl ?_; simp only [List.drop_succ_cons, List.drop_zero, List.take_succ_cons, List.take_zero, Act.put, List.setIfInBounds_toArray, List.set_cons_zero, List.set_cons_succ, Option.elim]) | ((with_reducible refine gate_dst (N := 25) rfl ?_); refine load_one rfl (ty := 9) (p := 24) rfl BK148.out 20 rfl rfl Try.underlying9 rfl ?_; simp only [List.drop_succ_cons, List.drop_zero, List.take_succ_cons, List.take_zero, Act.put, List.setIfInBounds_toArray, List.set_cons_zero, List.set_cons_succ, Option.elim]) | ((with_reducible refine gate_dst (N := 28) rfl ?_); refine load_one rfl (ty := 26) (p := 27) rfl BK147.out 21 rfl rfl Try.underlying26 rfl ?_; simp only [List.drop_succ_cons, List.drop_zero, List.take_succ_cons, List.take_zero, Act.put, List.setIfInBounds_toArray, List.set_cons_zero, List.set_cons_succ, Option.elim]) | ((with_reducible refine gate_dst (N := 30) rfl ?_); refine load_one rfl (ty := 26) (p := 29) rfl BK148.out 21 rfl rfl Try.underlying26 rfl ?_; simp only [List.drop_succ_cons, List.drop_zero, List.take_succ_cons, List.take_zero, Act.put, List.setIfInBounds_toArray, List.set_cons_zero, List.set_cons_succ, Option.elim]) | ((with_reducible refine gate_dst (N := 34) rfl ?_); refine load_one rfl (ty := 2) (p := 33) rfl BK147.out 22 rfl rfl Try.underlying2 rfl ?_; simp only [List.drop_succ_cons, List.drop_zero, List.take_succ_cons, List.take_zero, Act.put, List.setIfInBounds_toArray, List.set_cons_zero, List.set_cons_succ, Option.elim]) | ((with_reducible refine gate_dst (N := 36) rfl ?_); refine load_one rfl (ty := 2) (p := 35) rfl BK148.out 22 rfl rfl Try.underlying2 rfl ?_; simp only [List.drop_succ_cons, List.drop_zero, List.take_succ_cons, List.take_zero, Act.put, List.setIfInBounds_toArray, List.set_cons_zero, List.set_cons_succ, Option.elim]) | ((with_reducible refine gate_dst (N := 2) rfl ?_); refine zbx 2 #[.int .i64 a0_0, .int .i64 a0_1, .int .i64 a0_2, .int .i64 a0_3, .int .i64 a0_4, .int .i64 a0_5, .int .i64 a0_6, .int .i64 a0_7, .int .i64 a0_8, .int .i64 a0_9, .bool a0_10, .bool a0_11, .string a0_12, .int .i64 a0_13, .int .i64 a0_14, .string a0_15, .int .i64 a0_16, .bool a0_17, .int .i64 a0_18, .string a0_19, .string a0_20, .slice A0_21 l0_21.length c0_21, .int .i64 a0_22] 34 ?_; intro gb147 hg w12 hbox hb; have BK147 := Aside0.mk (hbox); have GW147 := zs w hg; have GE147 := GW147; replace HB := zt w hb; clear hb hbox hg) | ((with_reducible refine gate_dst (N := 3) rfl ?_); refine zbx 3 #[.int .i64 a1_0, .int .i64 a1_1, .int .i64 a1_2, .int .i64 a1_3, .int .i64 a1_4, .int .i64 a1_5, .int .i64 a1_6, .int .i64 a1_7, .int .i64 a1_8, .int .i64 a1_9, .bool a1_10, .bool a1_11, .string a1_12, .int .i64 a1_13, .int .i64 a1_14, .string a1_15, .int .i64 a1_16, .bool a1_17, .int .i64 a1_18, .string a1_19, .string a1_20, .slice A1_21 l1_21.length c1_21, .int .i64 a1_22] 34 ?_; intro gb148 hg w13 hbox hb; have BK148 := Aside0.mk (hbox); have GW148 := zs w hg; have GE148 := GW148; have NB147_148 := zlt BK147 hg; have NB148_147 := zgt (zlt BK147 hg); replace BK147 := zk BK147 hb; replace HB := zt w hb; clear hb hbox hg) | ((with_reducible refine gate_callee (f := 35) rfl ?_); refine zc (some 9) Try.func35 #[.agg #[.int .i64 a0_0, .int .i64 a0_1, .int .i64 a0_2, .int .i64 a0_3, .int .i64 a0_4, .int .i64 a0_5, .int .i64 a0_6, .int .i64 a0_7, .int .i64 a0_8, .int .i64 a0_9, .bool a0_10, .bool a0_11], .agg #[.int .i64 a1_0, .int .i64 a1_1, .int .i64 a1_2, .int .i64 a1_3, .int .i64 a1_4, .int .i64 a1_5, .int .i64 a1_6, .int .i64 a1_7, .int .i64 a1_8, .int .i64 a1_9, .bool a1_10, .bool a1_11]] ?_; (with_reducible refine (laws_eqCpu.calls a0_0 a0_1 a0_2 a0_3 a0_4 a0_5 a0_6 a0_7 a0_8 a0_9 a0_10 a0_11 a1_0 a1_1 a1_2 a1_3 a1_4 a1_5 a1_6 a1_7 a1_8 a1_9 a1_10 a1_11 true _ A3.out).mono ?_); rintro e w17 ⟨rfl, hb⟩; refine ⟨_, rfl, ?_⟩; replace BK147 := zk BK147 hb; replace BK148 := zk BK148 hb; replace HB := zt w hb; (try clear hb); (try clear hb2); (try clear hk); (try clear hi)) | ((with_reducible refine gate_callee (f := 36) rfl ?_); refine zc (some 15) Try.func36 #[.agg #[.string a0_12, .int .i64 a0_13, .int .i64 a0_14, .string a0_15, .int .i64 a0_16, .bool a0_17, .int .i64 a0_18], .agg #[.string a1_12, .int .i64 a1_13, .int .i64 a1_14, .string a1_15, .int .i64 a1_16, .bool a1_17, .int .i64 a1_18]] ?_; (with_reducible refine (laws_eqCart.calls a0_12 a0_13 a0_14 a0_15 a0_16 a0_17 a0_18 a1_12 a1_13 a1_14 a1_15 a1_16 a1_17 a1_18 true _ A5.out).mono ?_); rintro e w20 ⟨rfl, hb⟩; refine ⟨_, rfl, ?_⟩; replace BK147 := zk BK147 hb; replace BK148 := zk BK148 hb; replace HB := zt w hb; (try clear hb); (try clear hb2); (try clear hk); (try clear hi)) | ((with_reducible refine gate_callee (f := 37) rfl ?_); refine zc (some 31) Try.func37 #[.slice A0_21 l0_21.length c0_21, .slice A1_21 l1_21.length c1_21] ?_; (with_reducible refine (laws_eqInt64S.calls k _ _ l0_21 _ _ l1_21 true _ ?side1 ?side2 ?side3 ?side4 A9.out).mono ?_); (case side1 => repeat (first | exact (Kd.C_below HR0_21.out HB.out) | (with_reducible refine Kd.C_alloc ?_ _) | (with_reducible refine Kd.C_drewN ?_ _) | (with_reducible refine Kd.C_drew ?_))); (case side2 => exact HC0_21.out); (case side3 => repeat (first | exact (Kd.C_below HR1_21.out HB.out) | (with_reducible refine Kd.C_alloc ?_ _) | (with_reducible refine Kd.C_drewN ?_ _) | (with_reducible refine Kd.C_drew ?_))); (case side4 => exact HC1_21.out); rintro e w' ⟨rfl, ⟨nd, rfl⟩⟩; refine ⟨_, rfl, ?_⟩))
       go_ret
       exact ⟨ze _, zb _⟩
      ·rw [if_neg c11] at H
       have c11b0 : (a0_22 == a1_22) = false := beq_eq_false_iff_ne.mpr c11
       have c11b1 : (a0_22 != a1_22) = true := bne_iff_ne.mpr c11
       obtain rfl := Option.some.inj H
       go_enter Try.func11, Try.ntmps11
       go_wp2_with (first | ((with_reducible refine gate_dst (N := 6) rfl ?_); refine load_blkg rfl (ty := 31) (p := 5) rfl BK147.out 0 12 rfl rfl Try.underlying31 rfl (by kernel_rfl) ?_; simp only [List.drop_succ_cons, List.drop_zero, List.take_succ_cons, List.take_zero, Act.put, List.setIfInBounds_toArray, List.set_cons_zero, List.set_cons_succ, Option.elim]) | ((with_reducible refine gate_dst (N := 8) rfl ?_); refine load_blkg rfl (ty := 31) (p := 7) rfl BK148.out 0 12 rfl rfl Try.underlying31 rfl (by kernel_rfl) ?_; simp only [List.drop_succ_cons, List.drop_zero, List.take_succ_cons, List.take_zero, Act.put, List.setIfInBounds_toArray, List.set_cons_zero, List.set_cons_succ, Option.elim]) | ((with_reducible refine gate_dst (N := 12) rfl ?_); refine load_blkg rfl (ty := 32) (p := 11) rfl BK147.out 12 7 rfl rfl Try.underlying32 rfl (by kernel_rfl) ?_; simp only [List.drop_succ_cons, List.drop_zero, List.take_succ_cons, List.take_zero, Act.put, List.setIfInBounds_toArray, List.set_cons_zero, List.set_cons_succ, Option.elim]) | ((with_reducible refine gate_dst (N := 14) rfl ?_); refine load_blkg rfl (ty := 32) (p := 13) rfl BK148.out 12 7 rfl rfl Try.underlying32 rfl (by kernel_rfl) ?_; simp only [List.drop_succ_cons, List.drop_zero, List.take_succ_cons, List.take_zero, Act.put, List.setIfInBounds_toArray, List.set_cons_zero, List.set_cons_succ, Option.elim]) | ((with_reducible refine gate_dst (N := 18) rfl ?_); refine load_one rfl (ty := 9) (p := 17) rfl BK147.out 19 rfl rfl Try.underlying9 rfl ?_; simp only [List.drop_succ_cons, List.drop_zero, List.take_succ_cons, List.take_zero, Act.put, List.setIfInBounds_toArray, List.set_cons_zero, List.set_cons_succ, Option.elim]) | ((with_reducible refine gate_dst (N := 20) rfl ?_); refine load_one rfl (ty := 9) (p := 19) rfl BK148.out 19 rfl rfl Try.underlying9 rfl ?_; simp only [List.drop_succ_cons, List.drop_zero, List.take_succ_cons, List.take_zero, Act.put, List.setIfInBounds_toArray, List.set_cons_zero, List.set_cons_succ, Option.elim]) | ((with_reducible refine gate_dst (N := 23) rfl ?_); refine load_one rfl (ty := 9) (p := 22) rfl BK147.out 20 rfl rfl Try.underlying9 rfl ?_; simp only [List.drop_succ_cons, List.drop_zero, List.take_succ_cons, List.take_zero, Act.put, List.setIfInBounds_toArray, List.set_cons_zero, List.set_cons_succ, Option.elim]) | ((with_reducible refine gate_dst (N := 25) rfl ?_); refine load_one rfl (ty := 9) (p := 24) rfl BK148.out 20 rfl rfl Try.underlying9 rfl ?_; simp only [List.drop_succ_cons, List.drop_zero, List.take_succ_cons, List.take_zero, Act.put, List.setIfInBounds_toArray, List.set_cons_zero, List.set_cons_succ, Option.elim]) | ((with_reducible refine gate_dst (N := 28) rfl ?_); refine load_one rfl (ty := 26) (p := 27) rfl BK147.out 21 rfl rfl Try.underlying26 rfl ?_; simp only [List.drop_succ_cons, List.drop_zero, List.take_succ_cons, List.take_zero, Act.put, List.setIfInBounds_toArray, List.set_cons_zero, List.set_cons_succ, Option.elim]) | ((with_reducible refine gate_dst (N := 30) rfl ?_); refine load_one rfl (ty := 26) (p := 29) rfl BK148.out 21 rfl rfl Try.underlying26 rfl ?_; simp only [List.drop_succ_cons, List.drop_zero, List.take_succ_cons, List.take_zero, Act.put, List.setIfInBounds_toArray, List.set_cons_zero, List.set_cons_succ, Option.elim]) | ((with_reducible refine gate_dst (N := 34) rfl ?_); refine load_one rfl (ty := 2) (p := 33) rfl BK147.out 22 rfl rfl Try.underlying2 rfl ?_; simp only [List.drop_succ_cons, List.drop_zero, List.take_succ_cons, List.take_zero, Act.put, List.setIfInBounds_toArray, List.set_cons_zero, List.set_cons_succ, Option.elim]) | ((with_reducible refine gate_dst (N := 36) rfl ?_); refine load_one rfl (ty := 2) (p := 35) rfl BK148.out 22 rfl rfl Try.underlying2 rfl ?_; simp only [List.drop_succ_cons, List.drop_zero, List.take_succ_cons, List.take_zero, Act.put, List.setIfInBounds_toArray, List.set_cons_zero, List.set_cons_succ, Option.elim]) | ((with_reducible refine gate_dst (N := 2) rfl ?_); refine zbx 2 #[.int .i64 a0_0, .int .i64 a0_1, .int .i64 a0_2, .int .i64 a0_3, .int .i64 a0_4, .int .i64 a0_5, .int .i64 a0_6, .int .i64 a0_7, .int .i64 a0_8, .int .i64 a0_9, .bool a0_10, .bool a0_11, .string a0_12, .int .i64 a0_13, .int .i64 a0_14, .string a0_15, .int .i64 a0_16, .bool a0_17, .int .i64 a0_18, .string a0_19, .string a0_20, .slice A0_21 l0_21.length c0_21, .int .i64 a0_22] 34 ?_; intro gb147 hg w23 hbox hb; have BK147 := Aside0.mk (hbox); have GW147 := zs w hg; have GE147 := GW147; replace HB := zt w hb; clear hb hbox hg) | ((with_reducible refine gate_dst (N := 3) rfl ?_); refine zbx 3 #[.int .i64 a1_0, .int .i64 a1_1, .int .i64 a1_2, .int .i64 a1_3, .int .i64 a1_4, .int .i64 a1_5, .int .i64 a1_6, .int .i64 a1_7, .int .i64 a1_8, .int .i64 a1_9, .bool a1_10, .bool a1_11, .string a1_12, .int .i64 a1_13, .int .i64 a1_14, .string a1_15, .int .i64 a1_16, .bool a1_17, .int .i64 a1_18, .string a1_19, .string a1_20, .slice A1_21 l1_21.length c1_21, .int .i64 a1_22] 34 ?_; intro gb148 hg w24 hbox hb; have BK148 := Aside0.mk (hbox); have GW148 := zs w hg; have GE148 := GW148; have NB147_148 := zlt BK147 hg; have NB148_147 := zgt (zlt BK147 hg); replace BK147 := zk BK147 hb; replace HB := zt w hb; clear hb hbox hg) | ((with_reducible refine gate_callee (f := 35) rfl ?_); refine zc (some 9) Try.func35 #[.agg #[.int .i64 a0_0, .int .i64 a0_1, .int .i64 a0_2, .int .i64 a0_3, .int .i64 a0_4, .int .i64 a0_5, .int .i64 a0_6, .int .i64 a0_7, .int .i64 a0_8, .int .i64 a0_9, .bool a0_10, .bool a0_11], .agg #[.int .i64 a1_0, .int .i64 a1_1, .int .i64 a1_2, .int .i64 a1_3, .int .i64 a1_4, .int .i64 a1_5, .int .i64 a1_6, .int .i64 a1_7, .int .i64 a1_8, .int .i64 a1_9, .bool a1_10, .bool a1_11]] ?_; (with_reducible refine (laws_eqCpu.calls a0_0 a0_1 a0_2 a0_3 a0_4 a0_5 a0_6 a0_7 a0_8 a0_9 a0_10 a0_11 a1_0 a1_1 a1_2 a1_3 a1_4 a1_5 a1_6 a1_7 a1_8 a1_9 a1_10 a1_11 true _ A3.out).mono ?_); rintro e w28 ⟨rfl, hb⟩; refine ⟨_, rfl, ?_⟩; replace BK147 := zk BK147 hb; replace BK148 := zk BK148 hb; replace HB := zt w hb; (try clear hb); (try clear hb2); (try clear hk); (try clear hi)) | ((with_reducible refine gate_callee (f := 36) rfl ?_); refine zc (some 15) Try.func36 #[.agg #[.string a0_12, .int .i64 a0_13, .int .i64 a0_14, .string a0_15, .int .i64 a0_16, .bool a0_17, .int .i64 a0_18], .agg #[.string a1_12, .int .i64 a1_13, .int .i64 a1_14, .string a1_15, .int .i64 a1_16, .bool a1_17, .int .i64 a1_18]] ?_; (with_reducible refine (laws_eqCart.calls a0_12 a0_13 a0_14 a0_15 a0_16 a0_17 a0_18 a1_12 a1_13 a1_14 a1_15 a1_16 a1_17 a1_18 true _ A5.out).mono ?_); rintro e w31 ⟨rfl, hb⟩; refine ⟨_, rfl, ?_⟩; replace BK147 := zk BK147 hb; replace BK148 := zk BK148 hb; replace HB := zt w hb; (try clear hb); (try clear hb2); (try clear hk); (try clear hi)) | ((with_reducible refine gate_callee (f := 37) rfl ?_); refine zc (some 31) Try.func37 #[.slice A0_21 l0_21.length c0_21, .slice A1_21 l1_21.length c1_21] ?_; (with_reducible refine (laws_eqInt64S.calls k _ _ l0_21 _ _ l1_21 true _ ?side1 ?side2 ?side3 ?side4 A9.out).mono ?_); (case side1 => repeat (first | exact (Kd.C_below HR0_21.out HB.out) | (with_reducible refine Kd.C_alloc ?_ _) | (with_reducible refine Kd.C_drewN ?_ _) | (with_reducible refine Kd.C_drew ?_))); (case side2 => exact HC0_21.out); (case side3 => repeat (first | exact (Kd.C_below HR1_21.out HB.out) | (with_reducible refine Kd.C_alloc ?_ _) | (with_reducible refine Kd.C_drewN ?_ _) | (with_reducible refine Kd.C_drew ?_))); (case side4 => exact HC1_21.out); rintro e w' ⟨rfl, ⟨nd, rfl⟩⟩; refine ⟨_, rfl, ?_⟩))
       go_ret
       exact ⟨ze _, zb _⟩
     ·replace c10 := Bool.eq_false_iff.mpr c10
      subst c10
      rw [if_neg (show ¬ (false = true) by decide)] at H
      obtain rfl := Option.some.inj H
      go_enter Try.func11, Try.ntmps11
      go_wp2_with (first | ((with_reducible refine gate_dst (N := 6) rfl ?_); refine load_blkg rfl (ty := 31) (p := 5) rfl BK147.out 0 12 rfl rfl Try.underlying31 rfl (by kernel_rfl) ?_; simp only [List.drop_succ_cons, List.drop_zero, List.take_succ_cons, List.take_zero, Act.put, List.setIfInBounds_toArray, List.set_cons_zero, List.set_cons_succ, Option.elim]) | ((with_reducible refine gate_dst (N := 8) rfl ?_); refine load_blkg rfl (ty := 31) (p := 7) rfl BK148.out 0 12 rfl rfl Try.underlying31 rfl (by kernel_rfl) ?_; simp only [List.drop_succ_cons, List.drop_zero, List.take_succ_cons, List.take_zero, Act.put, List.setIfInBounds_toArray, List.set_cons_zero, List.set_cons_succ, Option.elim]) | ((with_reducible refine gate_dst (N := 12) rfl ?_); refine load_blkg rfl (ty := 32) (p := 11) rfl BK147.out 12 7 rfl rfl Try.underlying32 rfl (by kernel_rfl) ?_; simp only [List.drop_succ_cons, List.drop_zero, List.take_succ_cons, List.take_zero, Act.put, List.setIfInBounds_toArray, List.set_cons_zero, List.set_cons_succ, Option.elim]) | ((with_reducible refine gate_dst (N := 14) rfl ?_); refine load_blkg rfl (ty := 32) (p := 13) rfl BK148.out 12 7 rfl rfl Try.underlying32 rfl (by kernel_rfl) ?_; simp only [List.drop_succ_cons, List.drop_zero, List.take_succ_cons, List.take_zero, Act.put, List.setIfInBounds_toArray, List.set_cons_zero, List.set_cons_succ, Option.elim]) | ((with_reducible refine gate_dst (N := 18) rfl ?_); refine load_one rfl (ty := 9) (p := 17) rfl BK147.out 19 rfl rfl Try.underlying9 rfl ?_; simp only [List.drop_succ_cons, List.drop_zero, List.take_succ_cons, List.take_zero, Act.put, List.setIfInBounds_toArray, List.set_cons_zero, List.set_cons_succ, Option.elim]) | ((with_reducible refine gate_dst (N := 20) rfl ?_); refine load_one rfl (ty := 9) (p := 19) rfl BK148.out 19 rfl rfl Try.underlying9 rfl ?_; simp only [List.drop_succ_cons, List.drop_zero, List.take_succ_cons, List.take_zero, Act.put, List.setIfInBounds_toArray, List.set_cons_zero, List.set_cons_succ, Option.elim]) | ((with_reducible refine gate_dst (N := 23) rfl ?_); refine load_one rfl (ty := 9) (p := 22) rfl BK147.out 20 rfl rfl Try.underlying9 rfl ?_; simp only [List.drop_succ_cons, List.drop_zero, List.take_succ_cons, List.take_zero, Act.put, List.setIfInBounds_toArray, List.set_cons_zero, List.set_cons_succ, Option.elim]) | ((with_reducible refine gate_dst (N := 25) rfl ?_); refine load_one rfl (ty := 9) (p := 24) rfl BK148.out 20 rfl rfl Try.underlying9 rfl ?_; simp only [List.drop_succ_cons, List.drop_zero, List.take_succ_cons, List.take_zero, Act.put, List.setIfInBounds_toArray, List.set_cons_zero, List.set_cons_succ, Option.elim]) | ((with_reducible refine gate_dst (N := 28) rfl ?_); refine load_one rfl (ty := 26) (p := 27) rfl BK147.out 21 rfl rfl Try.underlying26 rfl ?_; simp only [List.drop_succ_cons, List.drop_zero, List.take_succ_cons, List.take_zero, Act.put, List.setIfInBounds_toArray, List.set_cons_zero, List.set_cons_succ, Option.elim]) | ((with_reducible refine gate_dst (N := 30) rfl ?_); refine load_one rfl (ty := 26) (p := 29) rfl BK148.out 21 rfl rfl Try.underlying26 rfl ?_; simp only [List.drop_succ_cons, List.drop_zero, List.take_succ_cons, List.take_zero, Act.put, List.setIfInBounds_toArray, List.set_cons_zero, List.set_cons_succ, Option.elim]) | ((with_reducible refine gate_dst (N := 34) rfl ?_); refine load_one rfl (ty := 2) (p := 33) rfl BK147.out 22 rfl rfl Try.underlying2 rfl ?_; simp only [List.drop_succ_cons, List.drop_zero, List.take_succ_cons, List.take_zero, Act.put, List.setIfInBounds_toArray, List.set_cons_zero, List.set_cons_succ, Option.elim]) | ((with_reducible refine gate_dst (N := 36) rfl ?_); refine load_one rfl (ty := 2) (p := 35) rfl BK148.out 22 rfl rfl Try.underlying2 rfl ?_; simp only [List.drop_succ_cons, List.drop_zero, List.take_succ_cons, List.take_zero, Act.put, List.setIfInBounds_toArray, List.set_cons_zero, List.set_cons_succ, Option.elim]) | ((with_reducible refine gate_dst (N := 2) rfl ?_); refine zbx 2 #[.int .i64 a0_0, .int .i64 a0_1, .int .i64 a0_2, .int .i64 a0_3, .int .i64 a0_4, .int .i64 a0_5, .int .i64 a0_6, .int .i64 a0_7, .int .i64 a0_8, .int .i64 a0_9, .bool a0_10, .bool a0_11, .string a0_12, .int .i64 a0_13, .int .i64 a0_14, .string a0_15, .int .i64 a0_16, .bool a0_17, .int .i64 a0_18, .string a0_19, .string a0_20, .slice A0_21 l0_21.length c0_21, .int .i64 a0_22] 34 ?_; intro gb147 hg w34 hbox hb; have BK147 := Aside0.mk (hbox); have GW147 := zs w hg; have GE147 := GW147; replace HB := zt w hb; clear hb hbox hg) | ((with_reducible refine gate_dst (N := 3) rfl ?_); refine zbx 3 #[.int .i64 a1_0, .int .i64 a1_1, .int .i64 a1_2, .int .i64 a1_3, .int .i64 a1_4, .int .i64 a1_5, .int .i64 a1_6, .int .i64 a1_7, .int .i64 a1_8, .int .i64 a1_9, .bool a1_10, .bool a1_11, .string a1_12, .int .i64 a1_13, .int .i64 a1_14, .string a1_15, .int .i64 a1_16, .bool a1_17, .int .i64 a1_18, .string a1_19, .string a1_20, .slice A1_21 l1_21.length c1_21, .int .i64 a1_22] 34 ?_; intro gb148 hg w35 hbox hb; have BK148 := Aside0.mk (hbox); have GW148 := zs w hg; have GE148 := GW148; have NB147_148 := zlt BK147 hg; have NB148_147 := zgt (zlt BK147 hg); replace BK147 := zk BK147 hb; replace HB := zt w hb; clear hb hbox hg) | ((with_reducible refine gate_callee (f := 35) rfl ?_); refine zc (some 9) Try.func35 #[.agg #[.int .i64 a0_0, .int .i64 a0_1, .int .i64 a0_2, .int .i64 a0_3, .int .i64 a0_4, .int .i64 a0_5, .int .i64 a0_6, .int .i64 a0_7, .int .i64 a0_8, .int .i64 a0_9, .bool a0_10, .bool a0_11], .agg #[.int .i64 a1_0, .int .i64 a1_1, .int .i64 a1_2, .int .i64 a1_3, .int .i64 a1_4, .int .i64 a1_5, .int .i64 a1_6, .int .i64 a1_7, .int .i64 a1_8, .int .i64 a1_9, .bool a1_10, .bool a1_11]] ?_; (with_reducible refine (laws_eqCpu.calls a0_0 a0_1 a0_2 a0_3 a0_4 a0_5 a0_6 a0_7 a0_8 a0_9 a0_10 a0_11 a1_0 a1_1 a1_2 a1_3 a1_4 a1_5 a1_6 a1_7 a1_8 a1_9 a1_10 a1_11 true _ A3.out).mono ?_); rintro e w39 ⟨rfl, hb⟩; refine ⟨_, rfl, ?_⟩; replace BK147 := zk BK147 hb; replace BK148 := zk BK148 hb; replace HB := zt w hb; (try clear hb); (try clear hb2); (try clear hk); (try clear hi)) | ((with_reducible refine gate_callee (f := 36) rfl ?_); refine zc (some 15) Try.func36 #[.agg #[.string a0_12, .int .i64 a0_13, .int .i64 a0_14, .string a0_15, .int .i64 a0_16, .bool a0_17, .int .i64 a0_18], .agg #[.string a1_12, .int .i64 a1_13, .int .i64 a1_14, .string a1_15, .int .i64 a1_16, .bool a1_17, .int .i64 a1_18]] ?_; (with_reducible refine (laws_eqCart.calls a0_12 a0_13 a0_14 a0_15 a0_16 a0_17 a0_18 a1_12 a1_13 a1_14 a1_15 a1_16 a1_17 a1_18 true _ A5.out).mono ?_); rintro e w42 ⟨rfl, hb⟩; refine ⟨_, rfl, ?_⟩; replace BK147 := zk BK147 hb; replace BK148 := zk BK148 hb; replace HB := zt w hb; (try clear hb); (try clear hb2); (try clear hk); (try clear hi)) | ((with_reducible refine gate_callee (f := 37) rfl ?_); refine zc (some 31) Try.func37 #[.slice A0_21 l0_21.length c0_21, .slice A1_21 l1_21.length c1_21] ?_; (with_reducible refine (laws_eqInt64S.calls k _ _ l0_21 _ _ l1_21 false _ ?side1 ?side2 ?side3 ?side4 A9.out).mono ?_); (case side1 => repeat (first | exact (Kd.C_below HR0_21.out HB.out) | (with_reducible refine Kd.C_alloc ?_ _) | (with_reducible refine Kd.C_drewN ?_ _) | (with_reducible refine Kd.C_drew ?_))); (case side2 => exact HC0_21.out); (case side3 => repeat (first | exact (Kd.C_below HR1_21.out HB.out) | (with_reducible refine Kd.C_alloc ?_ _) | (with_reducible refine Kd.C_drewN ?_ _) | (with_reducible refine Kd.C_drew ?_))); (case side4 => exact HC1_21.out); rintro e w' ⟨rfl, ⟨nd, rfl⟩⟩; refine ⟨_, rfl, ?_⟩))
      go_ret
      exact ⟨ze _, zb _⟩
    ·rw [if_neg c8] at H
     have c8b0 : (a0_20.toList == a1_20.toList) = false := beq_eq_false_iff_ne.mpr c8
     have c8b1 : (a0_20.toList != a1_20.toList) = true := bne_iff_ne.mpr c8
     obtain rfl := Option.some.inj H
     go_enter Try.func11, Try.ntmps11
     go_wp2_with (first | ((with_reducible refine gate_dst (N := 6) rfl ?_); refine load_blkg rfl (ty := 31) (p := 5) rfl BK147.out 0 12 rfl rfl Try.underlying31 rfl (by kernel_rfl) ?_; simp only [List.drop_succ_cons, List.drop_zero, List.take_succ_cons, List.take_zero, Act.put, List.setIfInBounds_toArray, List.set_cons_zero, List.set_cons_succ, Option.elim]) | ((with_reducible refine gate_dst (N := 8) rfl ?_); refine load_blkg rfl (ty := 31) (p := 7) rfl BK148.out 0 12 rfl rfl Try.underlying31 rfl (by kernel_rfl) ?_; simp only [List.drop_succ_cons, List.drop_zero, List.take_succ_cons, List.take_zero, Act.put, List.setIfInBounds_toArray, List.set_cons_zero, List.set_cons_succ, Option.elim]) | ((with_reducible refine gate_dst (N := 12) rfl ?_); refine load_blkg rfl (ty := 32) (p := 11) rfl BK147.out 12 7 rfl rfl Try.underlying32 rfl (by kernel_rfl) ?_; simp only [List.drop_succ_cons, List.drop_zero, List.take_succ_cons, List.take_zero, Act.put, List.setIfInBounds_toArray, List.set_cons_zero, List.set_cons_succ, Option.elim]) | ((with_reducible refine gate_dst (N := 14) rfl ?_); refine load_blkg rfl (ty := 32) (p := 13) rfl BK148.out 12 7 rfl rfl Try.underlying32 rfl (by kernel_rfl) ?_; simp only [List.drop_succ_cons, List.drop_zero, List.take_succ_cons, List.take_zero, Act.put, List.setIfInBounds_toArray, List.set_cons_zero, List.set_cons_succ, Option.elim]) | ((with_reducible refine gate_dst (N := 18) rfl ?_); refine load_one rfl (ty := 9) (p := 17) rfl BK147.out 19 rfl rfl Try.underlying9 rfl ?_; simp only [List.drop_succ_cons, List.drop_zero, List.take_succ_cons, List.take_zero, Act.put, List.setIfInBounds_toArray, List.set_cons_zero, List.set_cons_succ, Option.elim]) | ((with_reducible refine gate_dst (N := 20) rfl ?_); refine load_one rfl (ty := 9) (p := 19) rfl BK148.out 19 rfl rfl Try.underlying9 rfl ?_; simp only [List.drop_succ_cons, List.drop_zero, List.take_succ_cons, List.take_zero, Act.put, List.setIfInBounds_toArray, List.set_cons_zero, List.set_cons_succ, Option.elim]) | ((with_reducible refine gate_dst (N := 23) rfl ?_); refine load_one rfl (ty := 9) (p := 22) rfl BK147.out 20 rfl rfl Try.underlying9 rfl ?_; simp only [List.drop_succ_cons, List.drop_zero, List.take_succ_cons, List.take_zero, Act.put, List.setIfInBounds_toArray, List.set_cons_zero, List.set_cons_succ, Option.elim]) | ((with_reducible refine gate_dst (N := 25) rfl ?_); refine load_one rfl (ty := 9) (p := 24) rfl BK148.out 20 rfl rfl Try.underlying9 rfl ?_; simp only [List.drop_succ_cons, List.drop_zero, List.take_succ_cons, List.take_zero, Act.put, List.setIfInBounds_toArray, List.set_cons_zero, List.set_cons_succ, Option.elim]) | ((with_reducible refine gate_dst (N := 28) rfl ?_); refine load_one rfl (ty := 26) (p := 27) rfl BK147.out 21 rfl rfl Try.underlying26 rfl ?_; simp only [List.drop_succ_cons, List.drop_zero, List.take_succ_cons, List.take_zero, Act.put, List.setIfInBounds_toArray, List.set_cons_zero, List.set_cons_succ, Option.elim]) | ((with_reducible refine gate_dst (N := 30) rfl ?_); refine load_one rfl (ty := 26) (p := 29) rfl BK148.out 21 rfl rfl Try.underlying26 rfl ?_; simp only [List.drop_succ_cons, List.drop_zero, List.take_succ_cons, List.take_zero, Act.put, List.setIfInBounds_toArray, List.set_cons_zero, List.set_cons_succ, Option.elim]) | ((with_reducible refine gate_dst (N := 34) rfl ?_); refine load_one rfl (ty := 2) (p := 33) rfl BK147.out 22 rfl rfl Try.underlying2 rfl ?_; simp only [List.drop_succ_cons, List.drop_zero, List.take_succ_cons, List.take_zero, Act.put, List.setIfInBounds_toArray, List.set_cons_zero, List.set_cons_succ, Option.elim]) | ((with_reducible refine gate_dst (N := 36) rfl ?_); refine load_one rfl (ty := 2) (p := 35) rfl BK148.out 22 rfl rfl Try.underlying2 rfl ?_; simp only [List.drop_succ_cons, List.drop_zero, List.take_succ_cons, List.take_zero, Act.put, List.setIfInBounds_toArray, List.set_cons_zero, List.set_cons_succ, Option.elim]) | ((with_reducible refine gate_dst (N := 2) rfl ?_); refine zbx 2 #[.int .i64 a0_0, .int .i64 a0_1, .int .i64 a0_2, .int .i64 a0_3, .int .i64 a0_4, .int .i64 a0_5, .int .i64 a0_6, .int .i64 a0_7, .int .i64 a0_8, .int .i64 a0_9, .bool a0_10, .bool a0_11, .string a0_12, .int .i64 a0_13, .int .i64 a0_14, .string a0_15, .int .i64 a0_16, .bool a0_17, .int .i64 a0_18, .string a0_19, .string a0_20, .slice A0_21 l0_21.length c0_21, .int .i64 a0_22] 34 ?_; intro gb147 hg w45 hbox hb; have BK147 := Aside0.mk (hbox); have GW147 := zs w hg; have GE147 := GW147; replace HB := zt w hb; clear hb hbox hg) | ((with_reducible refine gate_dst (N := 3) rfl ?_); refine zbx 3 #[.int .i64 a1_0, .int .i64 a1_1, .int .i64 a1_2, .int .i64 a1_3, .int .i64 a1_4, .int .i64 a1_5, .int .i64 a1_6, .int .i64 a1_7, .int .i64 a1_8, .int .i64 a1_9, .bool a1_10, .bool a1_11, .string a1_12, .int .i64 a1_13, .int .i64 a1_14, .string a1_15, .int .i64 a1_16, .bool a1_17, .int .i64 a1_18, .string a1_19, .string a1_20, .slice A1_21 l1_21.length c1_21, .int .i64 a1_22] 34 ?_; intro gb148 hg w46 hbox hb; have BK148 := Aside0.mk (hbox); have GW148 := zs w hg; have GE148 := GW148; have NB147_148 := zlt BK147 hg; have NB148_147 := zgt (zlt BK147 hg); replace BK147 := zk BK147 hb; replace HB := zt w hb; clear hb hbox hg) | ((with_reducible refine gate_callee (f := 35) rfl ?_); refine zc (some 9) Try.func35 #[.agg #[.int .i64 a0_0, .int .i64 a0_1, .int .i64 a0_2, .int .i64 a0_3, .int .i64 a0_4, .int .i64 a0_5, .int .i64 a0_6, .int .i64 a0_7, .int .i64 a0_8, .int .i64 a0_9, .bool a0_10, .bool a0_11], .agg #[.int .i64 a1_0, .int .i64 a1_1, .int .i64 a1_2, .int .i64 a1_3, .int .i64 a1_4, .int .i64 a1_5, .int .i64 a1_6, .int .i64 a1_7, .int .i64 a1_8, .int .i64 a1_9, .bool a1_10, .bool a1_11]] ?_; (with_reducible refine (laws_eqCpu.calls a0_0 a0_1 a0_2 a0_3 a0_4 a0_5 a0_6 a0_7 a0_8 a0_9 a0_10 a0_11 a1_0 a1_1 a1_2 a1_3 a1_4 a1_5 a1_6 a1_7 a1_8 a1_9 a1_10 a1_11 true _ A3.out).mono ?_); rintro e w50 ⟨rfl, hb⟩; refine ⟨_, rfl, ?_⟩; replace BK147 := zk BK147 hb; replace BK148 := zk BK148 hb; replace HB := zt w hb; (try clear hb); (try clear hb2); (try clear hk); (try clear hi)) | ((with_reducible refine gate_callee (f := 36) rfl ?_); refine zc (some 15) Try.func36 #[.agg #[.string a0_12, .int .i64 a0_13, .int .i64 a0_14, .string a0_15, .int .i64 a0_16, .bool a0_17, .int .i64 a0_18], .agg #[.string a1_12, .int .i64 a1_13, .int .i64 a1_14, .string a1_15, .int .i64 a1_16, .bool a1_17, .int .i64 a1_18]] ?_; (with_reducible refine (laws_eqCart.calls a0_12 a0_13 a0_14 a0_15 a0_16 a0_17 a0_18 a1_12 a1_13 a1_14 a1_15 a1_16 a1_17 a1_18 true _ A5.out).mono ?_); rintro e w53 ⟨rfl, hb⟩; refine ⟨_, rfl, ?_⟩; replace BK147 := zk BK147 hb; replace BK148 := zk BK148 hb; replace HB := zt w hb; (try clear hb); (try clear hb2); (try clear hk); (try clear hi)))
     go_ret
     exact ⟨ze _, zb _⟩
   ·rw [if_neg c7] at H
    have c7b0 : (a0_19.toList == a1_19.toList) = false := beq_eq_false_iff_ne.mpr c7
    have c7b1 : (a0_19.toList != a1_19.toList) = true := bne_iff_ne.mpr c7
    obtain rfl := Option.some.inj H
    go_enter Try.func11, Try.ntmps11
    go_wp2_with (first | ((with_reducible refine gate_dst (N := 6) rfl ?_); refine load_blkg rfl (ty := 31) (p := 5) rfl BK147.out 0 12 rfl rfl Try.underlying31 rfl (by kernel_rfl) ?_; simp only [List.drop_succ_cons, List.drop_zero, List.take_succ_cons, List.take_zero, Act.put, List.setIfInBounds_toArray, List.set_cons_zero, List.set_cons_succ, Option.elim]) | ((with_reducible refine gate_dst (N := 8) rfl ?_); refine load_blkg rfl (ty := 31) (p := 7) rfl BK148.out 0 12 rfl rfl Try.underlying31 rfl (by kernel_rfl) ?_; simp only [List.drop_succ_cons, List.drop_zero, List.take_succ_cons, List.take_zero, Act.put, List.setIfInBounds_toArray, List.set_cons_zero, List.set_cons_succ, Option.elim]) | ((with_reducible refine gate_dst (N := 12) rfl ?_); refine load_blkg rfl (ty := 32) (p := 11) rfl BK147.out 12 7 rfl rfl Try.underlying32 rfl (by kernel_rfl) ?_; simp only [List.drop_succ_cons, List.drop_zero, List.take_succ_cons, List.take_zero, Act.put, List.setIfInBounds_toArray, List.set_cons_zero, List.set_cons_succ, Option.elim]) | ((with_reducible refine gate_dst (N := 14) rfl ?_); refine load_blkg rfl (ty := 32) (p := 13) rfl BK148.out 12 7 rfl rfl Try.underlying32 rfl (by kernel_rfl) ?_; simp only [List.drop_succ_cons, List.drop_zero, List.take_succ_cons, List.take_zero, Act.put, List.setIfInBounds_toArray, List.set_cons_zero, List.set_cons_succ, Option.elim]) | ((with_reducible refine gate_dst (N := 18) rfl ?_); refine load_one rfl (ty := 9) (p := 17) rfl BK147.out 19 rfl rfl Try.underlying9 rfl ?_; simp only [List.drop_succ_cons, List.drop_zero, List.take_succ_cons, List.take_zero, Act.put, List.setIfInBounds_toArray, List.set_cons_zero, List.set_cons_succ, Option.elim]) | ((with_reducible refine gate_dst (N := 20) rfl ?_); refine load_one rfl (ty := 9) (p := 19) rfl BK148.out 19 rfl rfl Try.underlying9 rfl ?_; simp only [List.drop_succ_cons, List.drop_zero, List.take_succ_cons, List.take_zero, Act.put, List.setIfInBounds_toArray, List.set_cons_zero, List.set_cons_succ, Option.elim]) | ((with_reducible refine gate_dst (N := 23) rfl ?_); refine load_one rfl (ty := 9) (p := 22) rfl BK147.out 20 rfl rfl Try.underlying9 rfl ?_; simp only [List.drop_succ_cons, List.drop_zero, List.take_succ_cons, List.take_zero, Act.put, List.setIfInBounds_toArray, List.set_cons_zero, List.set_cons_succ, Option.elim]) | ((with_reducible refine gate_dst (N := 25) rfl ?_); refine load_one rfl (ty := 9) (p := 24) rfl BK148.out 20 rfl rfl Try.underlying9 rfl ?_; simp only [List.drop_succ_cons, List.drop_zero, List.take_succ_cons, List.take_zero, Act.put, List.setIfInBounds_toArray, List.set_cons_zero, List.set_cons_succ, Option.elim]) | ((with_reducible refine gate_dst (N := 28) rfl ?_); refine load_one rfl (ty := 26) (p := 27) rfl BK147.out 21 rfl rfl Try.underlying26 rfl ?_; simp only [List.drop_succ_cons, List.drop_zero, List.take_succ_cons, List.take_zero, Act.put, List.setIfInBounds_toArray, List.set_cons_zero, List.set_cons_succ, Option.elim]) | ((with_reducible refine gate_dst (N := 30) rfl ?_); refine load_one rfl (ty := 26) (p := 29) rfl BK148.out 21 rfl rfl Try.underlying26 rfl ?_; simp only [List.drop_succ_cons, List.drop_zero, List.take_succ_cons, List.take_zero, Act.put, List.setIfInBounds_toArray, List.set_cons_zero, List.set_cons_succ, Option.elim]) | ((with_reducible refine gate_dst (N := 34) rfl ?_); refine load_one rfl (ty := 2) (p := 33) rfl BK147.out 22 rfl rfl Try.underlying2 rfl ?_; simp only [List.drop_succ_cons, List.drop_zero, List.take_succ_cons, List.take_zero, Act.put, List.setIfInBounds_toArray, List.set_cons_zero, List.set_cons_succ, Option.elim]) | ((with_reducible refine gate_dst (N := 36) rfl ?_); refine load_one rfl (ty := 2) (p := 35) rfl BK148.out 22 rfl rfl Try.underlying2 rfl ?_; simp only [List.drop_succ_cons, List.drop_zero, List.take_succ_cons, List.take_zero, Act.put, List.setIfInBounds_toArray, List.set_cons_zero, List.set_cons_succ, Option.elim]) | ((with_reducible refine gate_dst (N := 2) rfl ?_); refine zbx 2 #[.int .i64 a0_0, .int .i64 a0_1, .int .i64 a0_2, .int .i64 a0_3, .int .i64 a0_4, .int .i64 a0_5, .int .i64 a0_6, .int .i64 a0_7, .int .i64 a0_8, .int .i64 a0_9, .bool a0_10, .bool a0_11, .string a0_12, .int .i64 a0_13, .int .i64 a0_14, .string a0_15, .int .i64 a0_16, .bool a0_17, .int .i64 a0_18, .string a0_19, .string a0_20, .slice A0_21 l0_21.length c0_21, .int .i64 a0_22] 34 ?_; intro gb147 hg w56 hbox hb; have BK147 := Aside0.mk (hbox); have GW147 := zs w hg; have GE147 := GW147; replace HB := zt w hb; clear hb hbox hg) | ((with_reducible refine gate_dst (N := 3) rfl ?_); refine zbx 3 #[.int .i64 a1_0, .int .i64 a1_1, .int .i64 a1_2, .int .i64 a1_3, .int .i64 a1_4, .int .i64 a1_5, .int .i64 a1_6, .int .i64 a1_7, .int .i64 a1_8, .int .i64 a1_9, .bool a1_10, .bool a1_11, .string a1_12, .int .i64 a1_13, .int .i64 a1_14, .string a1_15, .int .i64 a1_16, .bool a1_17, .int .i64 a1_18, .string a1_19, .string a1_20, .slice A1_21 l1_21.length c1_21, .int .i64 a1_22] 34 ?_; intro gb148 hg w57 hbox hb; have BK148 := Aside0.mk (hbox); have GW148 := zs w hg; have GE148 := GW148; have NB147_148 := zlt BK147 hg; have NB148_147 := zgt (zlt BK147 hg); replace BK147 := zk BK147 hb; replace HB := zt w hb; clear hb hbox hg) | ((with_reducible refine gate_callee (f := 35) rfl ?_); refine zc (some 9) Try.func35 #[.agg #[.int .i64 a0_0, .int .i64 a0_1, .int .i64 a0_2, .int .i64 a0_3, .int .i64 a0_4, .int .i64 a0_5, .int .i64 a0_6, .int .i64 a0_7, .int .i64 a0_8, .int .i64 a0_9, .bool a0_10, .bool a0_11], .agg #[.int .i64 a1_0, .int .i64 a1_1, .int .i64 a1_2, .int .i64 a1_3, .int .i64 a1_4, .int .i64 a1_5, .int .i64 a1_6, .int .i64 a1_7, .int .i64 a1_8, .int .i64 a1_9, .bool a1_10, .bool a1_11]] ?_; (with_reducible refine (laws_eqCpu.calls a0_0 a0_1 a0_2 a0_3 a0_4 a0_5 a0_6 a0_7 a0_8 a0_9 a0_10 a0_11 a1_0 a1_1 a1_2 a1_3 a1_4 a1_5 a1_6 a1_7 a1_8 a1_9 a1_10 a1_11 true _ A3.out).mono ?_); rintro e w61 ⟨rfl, hb⟩; refine ⟨_, rfl, ?_⟩; replace BK147 := zk BK147 hb; replace BK148 := zk BK148 hb; replace HB := zt w hb; (try clear hb); (try clear hb2); (try clear hk); (try clear hi)) | ((with_reducible refine gate_callee (f := 36) rfl ?_); refine zc (some 15) Try.func36 #[.agg #[.string a0_12, .int .i64 a0_13, .int .i64 a0_14, .string a0_15, .int .i64 a0_16, .bool a0_17, .int .i64 a0_18], .agg #[.string a1_12, .int .i64 a1_13, .int .i64 a1_14, .string a1_15, .int .i64 a1_16, .bool a1_17, .int .i64 a1_18]] ?_; (with_reducible refine (laws_eqCart.calls a0_12 a0_13 a0_14 a0_15 a0_16 a0_17 a0_18 a1_12 a1_13 a1_14 a1_15 a1_16 a1_17 a1_18 true _ A5.out).mono ?_); rintro e w64 ⟨rfl, hb⟩; refine ⟨_, rfl, ?_⟩; replace BK147 := zk BK147 hb; replace BK148 := zk BK148 hb; replace HB := zt w hb; (try clear hb); (try clear hb2); (try clear hk); (try clear hi)))
    go_ret
    exact ⟨ze _, zb _⟩
  ·replace c6 := Bool.eq_false_iff.mpr c6
   subst c6
   rw [if_neg (show ¬ (false = true) by decide)] at H
   obtain rfl := Option.some.inj H
   go_enter Try.func11, Try.ntmps11
   go_wp2_with (first | ((with_reducible refine gate_dst (N := 6) rfl ?_); refine load_blkg rfl (ty := 31) (p := 5) rfl BK147.out 0 12 rfl rfl Try.underlying31 rfl (by kernel_rfl) ?_; simp only [List.drop_succ_cons, List.drop_zero, List.take_succ_cons, List.take_zero, Act.put, List.setIfInBounds_toArray, List.set_cons_zero, List.set_cons_succ, Option.elim]) | ((with_reducible refine gate_dst (N := 8) rfl ?_); refine load_blkg rfl (ty := 31) (p := 7) rfl BK148.out 0 12 rfl rfl Try.underlying31 rfl (by kernel_rfl) ?_; simp only [List.drop_succ_cons, List.drop_zero, List.take_succ_cons, List.take_zero, Act.put, List.setIfInBounds_toArray, List.set_cons_zero, List.set_cons_succ, Option.elim]) | ((with_reducible refine gate_dst (N := 12) rfl ?_); refine load_blkg rfl (ty := 32) (p := 11) rfl BK147.out 12 7 rfl rfl Try.underlying32 rfl (by kernel_rfl) ?_; simp only [List.drop_succ_cons, List.drop_zero, List.take_succ_cons, List.take_zero, Act.put, List.setIfInBounds_toArray, List.set_cons_zero, List.set_cons_succ, Option.elim]) | ((with_reducible refine gate_dst (N := 14) rfl ?_); refine load_blkg rfl (ty := 32) (p := 13) rfl BK148.out 12 7 rfl rfl Try.underlying32 rfl (by kernel_rfl) ?_; simp only [List.drop_succ_cons, List.drop_zero, List.take_succ_cons, List.take_zero, Act.put, List.setIfInBounds_toArray, List.set_cons_zero, List.set_cons_succ, Option.elim]) | ((with_reducible refine gate_dst (N := 18) rfl ?_); refine load_one rfl (ty := 9) (p := 17) rfl BK147.out 19 rfl rfl Try.underlying9 rfl ?_; simp only [List.drop_succ_cons, List.drop_zero, List.take_succ_cons, List.take_zero, Act.put, List.setIfInBounds_toArray, List.set_cons_zero, List.set_cons_succ, Option.elim]) | ((with_reducible refine gate_dst (N := 20) rfl ?_); refine load_one rfl (ty := 9) (p := 19) rfl BK148.out 19 rfl rfl Try.underlying9 rfl ?_; simp only [List.drop_succ_cons, List.drop_zero, List.take_succ_cons, List.take_zero, Act.put, List.setIfInBounds_toArray, List.set_cons_zero, List.set_cons_succ, Option.elim]) | ((with_reducible refine gate_dst (N := 23) rfl ?_); refine load_one rfl (ty := 9) (p := 22) rfl BK147.out 20 rfl rfl Try.underlying9 rfl ?_; simp only [List.drop_succ_cons, List.drop_zero, List.take_succ_cons, List.take_zero, Act.put, List.setIfInBounds_toArray, List.set_cons_zero, List.set_cons_succ, Option.elim]) | ((with_reducible refine gate_dst (N := 25) rfl ?_); refine load_one rfl (ty := 9) (p := 24) rfl BK148.out 20 rfl rfl Try.underlying9 rfl ?_; simp only [List.drop_succ_cons, List.drop_zero, List.take_succ_cons, List.take_zero, Act.put, List.setIfInBounds_toArray, List.set_cons_zero, List.set_cons_succ, Option.elim]) | ((with_reducible refine gate_dst (N := 28) rfl ?_); refine load_one rfl (ty := 26) (p := 27) rfl BK147.out 21 rfl rfl Try.underlying26 rfl ?_; simp only [List.drop_succ_cons, List.drop_zero, List.take_succ_cons, List.take_zero, Act.put, List.setIfInBounds_toArray, List.set_cons_zero, List.set_cons_succ, Option.elim]) | ((with_reducible refine gate_dst (N := 30) rfl ?_); refine load_one rfl (ty := 26) (p := 29) rfl BK148.out 21 rfl rfl Try.underlying26 rfl ?_; simp only [List.drop_succ_cons, List.drop_zero, List.take_succ_cons, List.take_zero, Act.put, List.setIfInBounds_toArray, List.set_cons_zero, List.set_cons_succ, Option.elim]) | ((with_reducible refine gate_dst (N := 34) rfl ?_); refine load_one rfl (ty := 2) (p := 33) rfl BK147.out 22 rfl rfl Try.underlying2 rfl ?_; simp only [List.drop_succ_cons, List.drop_zero, List.take_succ_cons, List.take_zero, Act.put, List.setIfInBounds_toArray, List.set_cons_zero, List.set_cons_succ, Option.elim]) | ((with_reducible refine gate_dst (N := 36) rfl ?_); refine load_one rfl (ty := 2) (p := 35) rfl BK148.out 22 rfl rfl Try.underlying2 rfl ?_; simp only [List.drop_succ_cons, List.drop_zero, List.take_succ_cons, List.take_zero, Act.put, List.setIfInBounds_toArray, List.set_cons_zero, List.set_cons_succ, Option.elim]) | ((with_reducible refine gate_dst (N := 2) rfl ?_); refine zbx 2 #[.int .i64 a0_0, .int .i64 a0_1, .int .i64 a0_2, .int .i64 a0_3, .int .i64 a0_4, .int .i64 a0_5, .int .i64 a0_6, .int .i64 a0_7, .int .i64 a0_8, .int .i64 a0_9, .bool a0_10, .bool a0_11, .string a0_12, .int .i64 a0_13, .int .i64 a0_14, .string a0_15, .int .i64 a0_16, .bool a0_17, .int .i64 a0_18, .string a0_19, .string a0_20, .slice A0_21 l0_21.length c0_21, .int .i64 a0_22] 34 ?_; intro gb147 hg w67 hbox hb; have BK147 := Aside0.mk (hbox); have GW147 := zs w hg; have GE147 := GW147; replace HB := zt w hb; clear hb hbox hg) | ((with_reducible refine gate_dst (N := 3) rfl ?_); refine zbx 3 #[.int .i64 a1_0, .int .i64 a1_1, .int .i64 a1_2, .int .i64 a1_3, .int .i64 a1_4, .int .i64 a1_5, .int .i64 a1_6, .int .i64 a1_7, .int .i64 a1_8, .int .i64 a1_9, .bool a1_10, .bool a1_11, .string a1_12, .int .i64 a1_13, .int .i64 a1_14, .string a1_15, .int .i64 a1_16, .bool a1_17, .int .i64 a1_18, .string a1_19, .string a1_20, .slice A1_21 l1_21.length c1_21, .int .i64 a1_22] 34 ?_; intro gb148 hg w68 hbox hb; have BK148 := Aside0.mk (hbox); have GW148 := zs w hg; have GE148 := GW148; have NB147_148 := zlt BK147 hg; have NB148_147 := zgt (zlt BK147 hg); replace BK147 := zk BK147 hb; replace HB := zt w hb; clear hb hbox hg) | ((with_reducible refine gate_callee (f := 35) rfl ?_); refine zc (some 9) Try.func35 #[.agg #[.int .i64 a0_0, .int .i64 a0_1, .int .i64 a0_2, .int .i64 a0_3, .int .i64 a0_4, .int .i64 a0_5, .int .i64 a0_6, .int .i64 a0_7, .int .i64 a0_8, .int .i64 a0_9, .bool a0_10, .bool a0_11], .agg #[.int .i64 a1_0, .int .i64 a1_1, .int .i64 a1_2, .int .i64 a1_3, .int .i64 a1_4, .int .i64 a1_5, .int .i64 a1_6, .int .i64 a1_7, .int .i64 a1_8, .int .i64 a1_9, .bool a1_10, .bool a1_11]] ?_; (with_reducible refine (laws_eqCpu.calls a0_0 a0_1 a0_2 a0_3 a0_4 a0_5 a0_6 a0_7 a0_8 a0_9 a0_10 a0_11 a1_0 a1_1 a1_2 a1_3 a1_4 a1_5 a1_6 a1_7 a1_8 a1_9 a1_10 a1_11 true _ A3.out).mono ?_); rintro e w72 ⟨rfl, hb⟩; refine ⟨_, rfl, ?_⟩; replace BK147 := zk BK147 hb; replace BK148 := zk BK148 hb; replace HB := zt w hb; (try clear hb); (try clear hb2); (try clear hk); (try clear hi)) | ((with_reducible refine gate_callee (f := 36) rfl ?_); refine zc (some 15) Try.func36 #[.agg #[.string a0_12, .int .i64 a0_13, .int .i64 a0_14, .string a0_15, .int .i64 a0_16, .bool a0_17, .int .i64 a0_18], .agg #[.string a1_12, .int .i64 a1_13, .int .i64 a1_14, .string a1_15, .int .i64 a1_16, .bool a1_17, .int .i64 a1_18]] ?_; (with_reducible refine (laws_eqCart.calls a0_12 a0_13 a0_14 a0_15 a0_16 a0_17 a0_18 a1_12 a1_13 a1_14 a1_15 a1_16 a1_17 a1_18 false _ A5.out).mono ?_); rintro e w75 ⟨rfl, hb⟩; refine ⟨_, rfl, ?_⟩; replace BK147 := zk BK147 hb; replace BK148 := zk BK148 hb; replace HB := zt w hb; (try clear hb); (try clear hb2); (try clear hk); (try clear hi)))
   go_ret
   exact ⟨ze _, zb _⟩
 ·replace c4 := Bool.eq_false_iff.mpr c4
  subst c4
  rw [if_neg (show ¬ (false = true) by decide)] at H
  obtain rfl := Option.some.inj H
  go_enter Try.func11, Try.ntmps11
  go_wp2_with (first | ((with_reducible refine gate_dst (N := 6) rfl ?_); refine load_blkg rfl (ty := 31) (p := 5) rfl BK147.out 0 12 rfl rfl Try.underlying31 rfl (by kernel_rfl) ?_; simp only [List.drop_succ_cons, List.drop_zero, List.take_succ_cons, List.take_zero, Act.put, List.setIfInBounds_toArray, List.set_cons_zero, List.set_cons_succ, Option.elim]) | ((with_reducible refine gate_dst (N := 8) rfl ?_); refine load_blkg rfl (ty := 31) (p := 7) rfl BK148.out 0 12 rfl rfl Try.underlying31 rfl (by kernel_rfl) ?_; simp only [List.drop_succ_cons, List.drop_zero, List.take_succ_cons, List.take_zero, Act.put, List.setIfInBounds_toArray, List.set_cons_zero, List.set_cons_succ, Option.elim]) | ((with_reducible refine gate_dst (N := 12) rfl ?_); refine load_blkg rfl (ty := 32) (p := 11) rfl BK147.out 12 7 rfl rfl Try.underlying32 rfl (by kernel_rfl) ?_; simp only [List.drop_succ_cons, List.drop_zero, List.take_succ_cons, List.take_zero, Act.put, List.setIfInBounds_toArray, List.set_cons_zero, List.set_cons_succ, Option.elim]) | ((with_reducible refine gate_dst (N := 14) rfl ?_); refine load_blkg rfl (ty := 32) (p := 13) rfl BK148.out 12 7 rfl rfl Try.underlying32 rfl (by kernel_rfl) ?_; simp only [List.drop_succ_cons, List.drop_zero, List.take_succ_cons, List.take_zero, Act.put, List.setIfInBounds_toArray, List.set_cons_zero, List.set_cons_succ, Option.elim]) | ((with_reducible refine gate_dst (N := 18) rfl ?_); refine load_one rfl (ty := 9) (p := 17) rfl BK147.out 19 rfl rfl Try.underlying9 rfl ?_; simp only [List.drop_succ_cons, List.drop_zero, List.take_succ_cons, List.take_zero, Act.put, List.setIfInBounds_toArray, List.set_cons_zero, List.set_cons_succ, Option.elim]) | ((with_reducible refine gate_dst (N := 20) rfl ?_); refine load_one rfl (ty := 9) (p := 19) rfl BK148.out 19 rfl rfl Try.underlying9 rfl ?_; simp only [List.drop_succ_cons, List.drop_zero, List.take_succ_cons, List.take_zero, Act.put, List.setIfInBounds_toArray, List.set_cons_zero, List.set_cons_succ, Option.elim]) | ((with_reducible refine gate_dst (N := 23) rfl ?_); refine load_one rfl (ty := 9) (p := 22) rfl BK147.out 20 rfl rfl Try.underlying9 rfl ?_; simp only [List.drop_succ_cons, List.drop_zero, List.take_succ_cons, List.take_zero, Act.put, List.setIfInBounds_toArray, List.set_cons_zero, List.set_cons_succ, Option.elim]) | ((with_reducible refine gate_dst (N := 25) rfl ?_); refine load_one rfl (ty := 9) (p := 24) rfl BK148.out 20 rfl rfl Try.underlying9 rfl ?_; simp only [List.drop_succ_cons, List.drop_zero, List.take_succ_cons, List.take_zero, Act.put, List.setIfInBounds_toArray, List.set_cons_zero, List.set_cons_succ, Option.elim]) | ((with_reducible refine gate_dst (N := 28) rfl ?_); refine load_one rfl (ty := 26) (p := 27) rfl BK147.out 21 rfl rfl Try.underlying26 rfl ?_; simp only [List.drop_succ_cons, List.drop_zero, List.take_succ_cons, List.take_zero, Act.put, List.setIfInBounds_toArray, List.set_cons_zero, List.set_cons_succ, Option.elim]) | ((with_reducible refine gate_dst (N := 30) rfl ?_); refine load_one rfl (ty := 26) (p := 29) rfl BK148.out 21 rfl rfl Try.underlying26 rfl ?_; simp only [List.drop_succ_cons, List.drop_zero, List.take_succ_cons, List.take_zero, Act.put, List.setIfInBounds_toArray, List.set_cons_zero, List.set_cons_succ, Option.elim]) | ((with_reducible refine gate_dst (N := 34) rfl ?_); refine load_one rfl (ty := 2) (p := 33) rfl BK147.out 22 rfl rfl Try.underlying2 rfl ?_; simp only [List.drop_succ_cons, List.drop_zero, List.take_succ_cons, List.take_zero, Act.put, List.setIfInBounds_toArray, List.set_cons_zero, List.set_cons_succ, Option.elim]) | ((with_reducible refine gate_dst (N := 36) rfl ?_); refine load_one rfl (ty := 2) (p := 35) rfl BK148.out 22 rfl rfl Try.underlying2 rfl ?_; simp only [List.drop_succ_cons, List.drop_zero, List.take_succ_cons, List.take_zero, Act.put, List.setIfInBounds_toArray, List.set_cons_zero, List.set_cons_succ, Option.elim]) | ((with_reducible refine gate_dst (N := 2) rfl ?_); refine zbx 2 #[.int .i64 a0_0, .int .i64 a0_1, .int .i64 a0_2, .int .i64 a0_3, .int .i64 a0_4, .int .i64 a0_5, .int .i64 a0_6, .int .i64 a0_7, .int .i64 a0_8, .int .i64 a0_9, .bool a0_10, .bool a0_11, .string a0_12, .int .i64 a0_13, .int .i64 a0_14, .string a0_15, .int .i64 a0_16, .bool a0_17, .int .i64 a0_18, .string a0_19, .string a0_20, .slice A0_21 l0_21.length c0_21, .int .i64 a0_22] 34 ?_; intro gb147 hg w76 hbox hb; have BK147 := Aside0.mk (hbox); have GW147 := zs w hg; have GE147 := GW147; replace HB := zt w hb; clear hb hbox hg) | ((with_reducible refine gate_dst (N := 3) rfl ?_); refine zbx 3 #[.int .i64 a1_0, .int .i64 a1_1, .int .i64 a1_2, .int .i64 a1_3, .int .i64 a1_4, .int .i64 a1_5, .int .i64 a1_6, .int .i64 a1_7, .int .i64 a1_8, .int .i64 a1_9, .bool a1_10, .bool a1_11, .string a1_12, .int .i64 a1_13, .int .i64 a1_14, .string a1_15, .int .i64 a1_16, .bool a1_17, .int .i64 a1_18, .string a1_19, .string a1_20, .slice A1_21 l1_21.length c1_21, .int .i64 a1_22] 34 ?_; intro gb148 hg w77 hbox hb; have BK148 := Aside0.mk (hbox); have GW148 := zs w hg; have GE148 := GW148; have NB147_148 := zlt BK147 hg; have NB148_147 := zgt (zlt BK147 hg); replace BK147 := zk BK147 hb; replace HB := zt w hb; clear hb hbox hg) | ((with_reducible refine gate_callee (f := 35) rfl ?_); refine zc (some 9) Try.func35 #[.agg #[.int .i64 a0_0, .int .i64 a0_1, .int .i64 a0_2, .int .i64 a0_3, .int .i64 a0_4, .int .i64 a0_5, .int .i64 a0_6, .int .i64 a0_7, .int .i64 a0_8, .int .i64 a0_9, .bool a0_10, .bool a0_11], .agg #[.int .i64 a1_0, .int .i64 a1_1, .int .i64 a1_2, .int .i64 a1_3, .int .i64 a1_4, .int .i64 a1_5, .int .i64 a1_6, .int .i64 a1_7, .int .i64 a1_8, .int .i64 a1_9, .bool a1_10, .bool a1_11]] ?_; (with_reducible refine (laws_eqCpu.calls a0_0 a0_1 a0_2 a0_3 a0_4 a0_5 a0_6 a0_7 a0_8 a0_9 a0_10 a0_11 a1_0 a1_1 a1_2 a1_3 a1_4 a1_5 a1_6 a1_7 a1_8 a1_9 a1_10 a1_11 false _ A3.out).mono ?_); rintro e w81 ⟨rfl, hb⟩; refine ⟨_, rfl, ?_⟩; replace BK147 := zk BK147 hb; replace BK148 := zk BK148 hb; replace HB := zt w hb; (try clear hb); (try clear hb2); (try clear hk); (try clear hi)))
  go_ret
  exact ⟨ze _, zb _⟩

/-! ### spec_l1In: function 25 -/
def spec_l1In.f (a0 : Int) (a1 : Int) (a2 : Int) : Option (Bool) := if a0 ≥ a1 then (some (decide (a0 ≤ a2))) else (some false)
set_option maxHeartbeats 8000000 in
set_option maxRecDepth 100000 in
theorem spec_l1In.calls (a0 : Int) (a1 : Int) (a2 : Int) (r : Bool) (w : World) (h : spec_l1In.f a0 a1 a2 = some r) :
 Calls Try.prog 25 #[.int .i64 a0, .int .i64 a1, .int .i64 a2] w fun e w' => e = .returned (.bool r) ∧ Drawn0 w w' := by
 have H : (if a0 ≥ a1 then (some (decide (a0 ≤ a2))) else (some false)) = some r := h
 clear h
 by_cases c4 : a0 ≥ a1
 ·rw [if_pos c4] at H
  have c4b0 : decide (a1 ≤ a0) = true := decide_eq_true c4
  clear c4
  obtain rfl := Option.some.inj H
  go_enter Try.func25, Try.ntmps25
  go_wp2
  go_ret
  exact ⟨zE _, zd _⟩
 ·rw [if_neg c4] at H
  have c4b0 : decide (a1 ≤ a0) = false := decide_eq_false c4
  clear c4
  obtain rfl := Option.some.inj H
  go_enter Try.func25, Try.ntmps25
  go_wp2
  go_ret
  exact ⟨zE _, zd _⟩

/-! ### spec_l4Byte: function 22 -/
def spec_l4Byte.f (a0 : Int) : Option (Bool) := (spec_l1In.f a0 0 255).bind fun t152 => (some t152)
set_option maxHeartbeats 8000000 in
set_option maxRecDepth 100000 in
theorem spec_l4Byte.calls (a0 : Int) (r : Bool) (w : World) (h : spec_l4Byte.f a0 = some r) :
 Calls Try.prog 22 #[.int .i64 a0] w fun e w' => e = .returned (.bool r) ∧ Drawn0 w w' := by
 have H : ((spec_l1In.f a0 0 255).bind fun t152 => (some t152)) = some r := h
 clear h
 obtain ⟨t152, A20, H⟩ := Option.bind_eq_some_iff.mp H
 have A2 := Aside0.mk A20
 clear A20
 obtain rfl := Option.some.inj H
 go_enter Try.func22, Try.ntmps22
 go_wp2_with (first | ((with_reducible refine gate_callee (f := 25) rfl ?_); refine zc (some 4) Try.func25 #[.int .i64 a0, .int .i64 0, .int .i64 255] ?_; (with_reducible refine (spec_l1In.calls a0 0 255 t152 _ A2.out).mono ?_); rintro e w' ⟨rfl, ⟨nd, rfl⟩⟩; refine ⟨_, rfl, ?_⟩))
 go_ret
 exact ⟨zE _, zd _⟩

/-! ### spec_l4Word: function 23 -/
def spec_l4Word.f (a0 : Int) : Option (Bool) := (spec_l1In.f a0 0 65535).bind fun t153 => (some t153)
set_option maxHeartbeats 8000000 in
set_option maxRecDepth 100000 in
theorem spec_l4Word.calls (a0 : Int) (r : Bool) (w : World) (h : spec_l4Word.f a0 = some r) :
 Calls Try.prog 23 #[.int .i64 a0] w fun e w' => e = .returned (.bool r) ∧ Drawn0 w w' := by
 have H : ((spec_l1In.f a0 0 65535).bind fun t153 => (some t153)) = some r := h
 clear h
 obtain ⟨t153, A20, H⟩ := Option.bind_eq_some_iff.mp H
 have A2 := Aside0.mk A20
 clear A20
 obtain rfl := Option.some.inj H
 go_enter Try.func23, Try.ntmps23
 go_wp2_with (first | ((with_reducible refine gate_callee (f := 25) rfl ?_); refine zc (some 4) Try.func25 #[.int .i64 a0, .int .i64 0, .int .i64 65535] ?_; (with_reducible refine (spec_l1In.calls a0 0 65535 t153 _ A2.out).mono ?_); rintro e w' ⟨rfl, ⟨nd, rfl⟩⟩; refine ⟨_, rfl, ?_⟩))
 go_ret
 exact ⟨zE _, zd _⟩

/-! ### spec_l5Banks: function 49 -/
def spec_l5Banks.f (a0 : ByteArray) : Option (Int) := if ((a0.size : Int) % 256) = 0 then ((spec_l1In.f (wrap64 ((a0.size : Int) / 256)) 2 16).bind fun t154 => (if t154 = true then (some (wrap64 ((a0.size : Int) / 256))) else (some 0))) else (some 0)
set_option maxHeartbeats 8000000 in
set_option maxRecDepth 100000 in
theorem spec_l5Banks.calls (a0 : ByteArray) (r : Int) (w : World) (h : spec_l5Banks.f a0 = some r) :
 Calls Try.prog 49 #[.string a0] w fun e w' => e = .returned (.int .i64 r) ∧ Drawn0 w w' := by
 have H : (if ((a0.size : Int) % 256) = 0 then ((spec_l1In.f (wrap64 ((a0.size : Int) / 256)) 2 16).bind fun t154 => (if t154 = true then (some (wrap64 ((a0.size : Int) / 256))) else (some 0))) else (some 0)) = some r := h
 clear h
 by_cases c2 : ((a0.size : Int) % 256) = 0
 ·rw [if_pos c2] at H
  have c2b0 : (((a0.size : Int) % 256) == 0) = true := beq_iff_eq.mpr c2
  have c2b1 : (((a0.size : Int) % 256) != 0) = false := bne_eq_false_iff_eq.mpr c2
  clear c2
  obtain ⟨t154, A30, H⟩ := Option.bind_eq_some_iff.mp H
  have A3 := Aside0.mk A30
  clear A30
  by_cases c4 : t154 = true
  ·subst c4
   rw [if_pos rfl] at H
   obtain rfl := Option.some.inj H
   go_enter Try.func49, Try.ntmps49
   go_wp2_with (first | (go_at_call 25; (with_reducible refine (spec_l1In.calls (wrap64 ((a0.size : Int) / 256)) 2 16 true _ A3.out).mono ?_); rintro e w' ⟨rfl, ⟨nd, rfl⟩⟩))
   go_ret
   exact ⟨zE _, zd _⟩
  ·replace c4 := Bool.eq_false_iff.mpr c4
   subst c4
   rw [if_neg (show ¬ (false = true) by decide)] at H
   obtain rfl := Option.some.inj H
   go_enter Try.func49, Try.ntmps49
   go_wp2_with (first | (go_at_call 25; (with_reducible refine (spec_l1In.calls (wrap64 ((a0.size : Int) / 256)) 2 16 false _ A3.out).mono ?_); rintro e w' ⟨rfl, ⟨nd, rfl⟩⟩))
   go_ret
   exact ⟨zE _, zd _⟩
 ·rw [if_neg c2] at H
  have c2b0 : (((a0.size : Int) % 256) == 0) = false := beq_eq_false_iff_ne.mpr c2
  have c2b1 : (((a0.size : Int) % 256) != 0) = true := bne_iff_ne.mpr c2
  obtain rfl := Option.some.inj H
  go_enter Try.func49, Try.ntmps49
  go_wp2
  go_ret
  exact ⟨zE _, zd _⟩

/-! ### spec_CartOk: function 24 -/
def spec_CartOk.j0 : Nat → Bool → ByteArray → Int → Int → ByteArray → Int → Bool → Int → Option (Bool)
  | 0, _, _, _, _, _, _, _, _ => none
  | k + 1, x12, x156000, x156001, x156002, x156003, x156004, x156005, x156006 => if x12 = true then (some false) else (if x156001 = 0 then (if x156002 = 1 then (if x156004 = 0 then (if x156005 = true then (some false) else (some (x156006 == 0))) else (some false)) else (some false)) else (if x156001 = 1 then ((spec_l1In.f x156002 1 31).bind fun t157 => (if t157 = true then ((spec_l1In.f x156004 0 3).bind fun t158 => (if t158 = true then ((spec_l1In.f x156006 0 1).bind fun t159 => (some t159)) else (some false))) else (some false))) else (if x156001 = 2 then ((spec_l1In.f x156002 0 255).bind fun t160 => (if t160 = true then ((spec_l1In.f x156004 0 3).bind fun t161 => (if t161 = true then (some (x156006 == 0)) else (some false))) else (some false))) else (some false))))
def spec_CartOk.f (k : Nat) (a0_0 : ByteArray) (a0_1 : Int) (a0_2 : Int) (a0_3 : ByteArray) (a0_4 : Int) (a0_5 : Bool) (a0_6 : Int) : Option (Bool) := (spec_l5Banks.f a0_0).bind fun t156 => (if t156 = 0 then (spec_CartOk.j0 k true a0_0 a0_1 a0_2 a0_3 a0_4 a0_5 a0_6) else (spec_CartOk.j0 k ((a0_3.size : Int) != 256) a0_0 a0_1 a0_2 a0_3 a0_4 a0_5 a0_6))
theorem spec_CartOk.mono_l : ∀ k, (∀ y0 y1 y2 y3 y4 y5 y6 y7, LeO (spec_CartOk.j0 k y0 y1 y2 y3 y4 y5 y6 y7) (spec_CartOk.j0 (k + 1) y0 y1 y2 y3 y4 y5 y6 y7))
  | 0 => fun _ _ _ _ _ _ _ _ r h => by simp [spec_CartOk.j0] at h
  | k + 1 => by
    have ih0 := spec_CartOk.mono_l k
    · intro y0 y1 y2 y3 y4 y5 y6 y7
      unfold spec_CartOk.j0
      repeat' first
      | (with_reducible exact ih0 _ _ _ _ _ _ _ _)
      | (with_reducible exact LeO.refl _)
      | (with_reducible exact LeO.none _)
      | (with_reducible refine LeO.ite ?_ ?_)
      | (with_reducible refine LeO.bind ?_ (fun _ => ?_))
      | exact ih0 _ _ _ _ _ _ _ _
      | exact LeO.none _
      | refine LeO.ite ?_ ?_
      | refine LeO.bind ?_ (fun _ => ?_)
theorem spec_CartOk.mono : ∀ a0 a1 a2 a3 a4 a5 a6 k, LeO (spec_CartOk.f k a0 a1 a2 a3 a4 a5 a6) (spec_CartOk.f (k + 1) a0 a1 a2 a3 a4 a5 a6) := by
  intro a0 a1 a2 a3 a4 a5 a6 k
  have ih0 := spec_CartOk.mono_l k
  unfold spec_CartOk.f
  repeat' first
      | (with_reducible exact ih0 _ _ _ _ _ _ _ _)
      | (with_reducible exact LeO.refl _)
      | (with_reducible exact LeO.none _)
      | (with_reducible refine LeO.ite ?_ ?_)
      | (with_reducible refine LeO.bind ?_ (fun _ => ?_))
      | exact ih0 _ _ _ _ _ _ _ _
      | exact LeO.none _
      | refine LeO.ite ?_ ?_
      | refine LeO.bind ?_ (fun _ => ?_)
set_option maxHeartbeats 8000000 in
set_option maxRecDepth 100000 in
theorem spec_CartOk.calls (k : Nat) (a0_0 : ByteArray) (a0_1 : Int) (a0_2 : Int) (a0_3 : ByteArray) (a0_4 : Int) (a0_5 : Bool) (a0_6 : Int) (r : Bool) (w : World) (h : spec_CartOk.f k a0_0 a0_1 a0_2 a0_3 a0_4 a0_5 a0_6 = some r) :
 Calls Try.prog 24 #[.agg #[.string a0_0, .int .i64 a0_1, .int .i64 a0_2, .string a0_3, .int .i64 a0_4, .bool a0_5, .int .i64 a0_6]] w fun e w' => e = .returned (.bool r) ∧ Below w.heap.size w w' := by
 have hu32 := Try.underlying32
 have HB := Aside0.mk (Below.refl w.heap.size w)
 have H : ((spec_l5Banks.f a0_0).bind fun t156 => (if t156 = 0 then (spec_CartOk.j0 k true a0_0 a0_1 a0_2 a0_3 a0_4 a0_5 a0_6) else (spec_CartOk.j0 k ((a0_3.size : Int) != 256) a0_0 a0_1 a0_2 a0_3 a0_4 a0_5 a0_6))) = some r := h
 clear h
 have HC2 := Aside0.mk H
 clear H
 go_enter Try.func24, Try.ntmps24
 go_upto_region 1 with (first | ((with_reducible refine gate_dst (N := 1) rfl ?_); (try (refine gate_guard (by rfl) ?_; dsimp only)); refine box_event ?hg (N := 1) ?hd (cs := #[.string a0_0, .int .i64 a0_1, .int .i64 a0_2, .string a0_3, .int .i64 a0_4, .bool a0_5, .int .i64 a0_6]) (t := 32) ?hr ?_; (case hd => rfl); (case hg => rfl); (case hr => first | (go_simp; done) | (go_simp; rfl)); intro gb155 hg w3 hbox hb; have BK155 := Aside0.mk (hbox); have GW155 := zs w hg; have GE155 := GW155; replace HB := zt w hb; clear hb hbox hg))
 (try simp only [Act.put, List.setIfInBounds_toArray, List.set_cons_zero, List.set_cons_succ])
 go_cut [12] (fun v12 wc => ∃ (kq : Nat) (x12_1 : Bool), v12 = .bool x12_1 ∧ Aside0 (spec_CartOk.j0 kq x12_1 a0_0 a0_1 a0_2 a0_3 a0_4 a0_5 a0_6 = some r) ∧ Aside0 (kq ≤ k) ∧ Aside0 (wc.heap[gb155]? = some (.cells #[.string a0_0, .int .i64 a0_1, .int .i64 a0_2, .string a0_3, .int .i64 a0_4, .bool a0_5, .int .i64 a0_6] 32 (0, 0))) ∧ Aside0 (Below w.heap.size w wc))
 case first =>
  have H := HC2.out
  clear HC2
  obtain ⟨t156, A40, H⟩ := Option.bind_eq_some_iff.mp H
  have A4 := Aside0.mk A40
  clear A40
  by_cases c5 : t156 = 0
  ·rw [if_pos c5] at H
   have c5b0 : (t156 == 0) = true := beq_iff_eq.mpr c5
   have c5b1 : (t156 != 0) = false := bne_eq_false_iff_eq.mpr c5
   clear c5
   (first | rw [c5b0] | (simp only [i64_w, i32_w]; rw [c5b0]) | skip)
   have H' := Aside0.mk H
   clear H
   have hcz6_0 := zc0 BK155
   have hcz6_1 := zc1 BK155
   have hcz6_2 := zc2 BK155
   have hcz6_3 := zc3 BK155
   have hcz6_4 := zc4 BK155
   have hcz6_5 := zc5 BK155
   have hcz6_6 := zc6 BK155
   have hfz6_0 := blk_frozen BK155.out 0
   have hfz6_1 := blk_frozen BK155.out 1
   have hfz6_2 := blk_frozen BK155.out 2
   have hfz6_3 := blk_frozen BK155.out 3
   have hfz6_4 := blk_frozen BK155.out 4
   have hfz6_5 := blk_frozen BK155.out 5
   have hfz6_6 := blk_frozen BK155.out 6
   go_wp2_with (first | ((with_reducible refine gate_callee (f := 49) rfl ?_); refine zc (some 5) Try.func49 #[.string a0_0] ?_; (with_reducible refine (spec_l5Banks.calls a0_0 t156 _ A4.out).mono ?_); rintro e w' ⟨rfl, ⟨nd, rfl⟩⟩; refine ⟨_, rfl, ?_⟩))
   go_meet
   case rel => exact ⟨_, (true), (zE _), H', ⟨by first | omega | exact Nat.le_refl _⟩, ⟨by (with_reducible repeat (first | refine blk_drewN ?_ _ | refine blk_drew ?_ | refine blk_alloc ?_ _)); exact BK155.out⟩, ⟨zb _⟩⟩
  ·rw [if_neg c5] at H
   have c5b0 : (t156 == 0) = false := beq_eq_false_iff_ne.mpr c5
   have c5b1 : (t156 != 0) = true := bne_iff_ne.mpr c5
   (first | rw [c5b0] | (simp only [i64_w, i32_w]; rw [c5b0]) | skip)
   have H' := Aside0.mk H
   clear H
   have hcz7_0 := zc0 BK155
   have hcz7_1 := zc1 BK155
   have hcz7_2 := zc2 BK155
   have hcz7_3 := zc3 BK155
   have hcz7_4 := zc4 BK155
   have hcz7_5 := zc5 BK155
   have hcz7_6 := zc6 BK155
   have hfz7_0 := blk_frozen BK155.out 0
   have hfz7_1 := blk_frozen BK155.out 1
   have hfz7_2 := blk_frozen BK155.out 2
   have hfz7_3 := blk_frozen BK155.out 3
   have hfz7_4 := blk_frozen BK155.out 4
   have hfz7_5 := blk_frozen BK155.out 5
   have hfz7_6 := blk_frozen BK155.out 6
   go_wp2_with (first | ((with_reducible refine gate_callee (f := 49) rfl ?_); refine zc (some 5) Try.func49 #[.string a0_0] ?_; (with_reducible refine (spec_l5Banks.calls a0_0 t156 _ A4.out).mono ?_); rintro e w' ⟨rfl, ⟨nd, rfl⟩⟩; refine ⟨_, rfl, ?_⟩))
   go_meet
   case rel => exact ⟨_, (((a0_3.size : Int) != 256)), (zE _), H', ⟨by first | omega | exact Nat.le_refl _⟩, ⟨by (with_reducible repeat (first | refine blk_drewN ?_ _ | refine blk_drew ?_ | refine blk_alloc ?_ _)); exact BK155.out⟩, ⟨zb _⟩⟩
 case rest =>
  clear HC2
  try clear c2
  try clear p2
  try clear c4
  try clear c5
  try clear c5b0
  try clear c5b1
  try clear hcz6_0
  try clear hcz6_1
  try clear hcz6_2
  try clear hcz6_3
  try clear hcz6_4
  try clear hcz6_5
  try clear hcz6_6
  try clear hcz7_0
  try clear hcz7_1
  try clear hcz7_2
  try clear hcz7_3
  try clear hcz7_4
  try clear hcz7_5
  try clear hcz7_6
  try clear hfz6_0
  try clear hfz6_1
  try clear hfz6_2
  try clear hfz6_3
  try clear hfz6_4
  try clear hfz6_5
  try clear hfz6_6
  try clear hfz7_0
  try clear hfz7_1
  try clear hfz7_2
  try clear hfz7_3
  try clear hfz7_4
  try clear hfz7_5
  try clear hfz7_6
  obtain ⟨kq, x12_1, rfl, HA, HJ1, BK155, HB⟩ := hcut
  cases kq with
  | zero => exact absurd HA.out (by simp [spec_CartOk.j0])
  | succ kj1 =>
   have H := HA.out
   clear HA
   simp only [spec_CartOk.j0] at H
   by_cases c8 : x12_1 = true
   ·subst c8
    rw [if_pos rfl] at H
    obtain rfl := Option.some.inj H
    go_wp2
    go_ret
    exact ⟨ze _, zb _⟩
   ·replace c8 := Bool.eq_false_iff.mpr c8
    subst c8
    rw [if_neg (show ¬ (false = true) by decide)] at H
    by_cases c9 : a0_1 = 0
    ·rw [if_pos c9] at H
     have c9b0 : (a0_1 == 0) = true := beq_iff_eq.mpr c9
     have c9b1 : (a0_1 != 0) = false := bne_eq_false_iff_eq.mpr c9
     clear c9
     by_cases c10 : a0_2 = 1
     ·rw [if_pos c10] at H
      have c10b0 : (a0_2 == 1) = true := beq_iff_eq.mpr c10
      have c10b1 : (a0_2 != 1) = false := bne_eq_false_iff_eq.mpr c10
      clear c10
      by_cases c11 : a0_4 = 0
      ·rw [if_pos c11] at H
       have c11b0 : (a0_4 == 0) = true := beq_iff_eq.mpr c11
       have c11b1 : (a0_4 != 0) = false := bne_eq_false_iff_eq.mpr c11
       clear c11
       by_cases c12 : a0_5 = true
       ·subst c12
        rw [if_pos rfl] at H
        obtain rfl := Option.some.inj H
        have hcz13_0 := zc0 BK155
        have hcz13_1 := zc1 BK155
        have hcz13_2 := zc2 BK155
        have hcz13_3 := zc3 BK155
        have hcz13_4 := zc4 BK155
        have hcz13_5 := zc5 BK155
        have hcz13_6 := zc6 BK155
        have hfz13_0 := blk_frozen BK155.out 0
        have hfz13_1 := blk_frozen BK155.out 1
        have hfz13_2 := blk_frozen BK155.out 2
        have hfz13_3 := blk_frozen BK155.out 3
        have hfz13_4 := blk_frozen BK155.out 4
        have hfz13_5 := blk_frozen BK155.out 5
        have hfz13_6 := blk_frozen BK155.out 6
        go_wp2
        go_ret
        exact ⟨ze _, zb _⟩
       ·replace c12 := Bool.eq_false_iff.mpr c12
        subst c12
        rw [if_neg (show ¬ (false = true) by decide)] at H
        obtain rfl := Option.some.inj H
        have hcz14_0 := zc0 BK155
        have hcz14_1 := zc1 BK155
        have hcz14_2 := zc2 BK155
        have hcz14_3 := zc3 BK155
        have hcz14_4 := zc4 BK155
        have hcz14_5 := zc5 BK155
        have hcz14_6 := zc6 BK155
        have hfz14_0 := blk_frozen BK155.out 0
        have hfz14_1 := blk_frozen BK155.out 1
        have hfz14_2 := blk_frozen BK155.out 2
        have hfz14_3 := blk_frozen BK155.out 3
        have hfz14_4 := blk_frozen BK155.out 4
        have hfz14_5 := blk_frozen BK155.out 5
        have hfz14_6 := blk_frozen BK155.out 6
        go_wp2
        go_ret
        exact ⟨ze _, zb _⟩
      ·rw [if_neg c11] at H
       have c11b0 : (a0_4 == 0) = false := beq_eq_false_iff_ne.mpr c11
       have c11b1 : (a0_4 != 0) = true := bne_iff_ne.mpr c11
       obtain rfl := Option.some.inj H
       have hcz15_0 := zc0 BK155
       have hcz15_1 := zc1 BK155
       have hcz15_2 := zc2 BK155
       have hcz15_3 := zc3 BK155
       have hcz15_4 := zc4 BK155
       have hcz15_5 := zc5 BK155
       have hcz15_6 := zc6 BK155
       have hfz15_0 := blk_frozen BK155.out 0
       have hfz15_1 := blk_frozen BK155.out 1
       have hfz15_2 := blk_frozen BK155.out 2
       have hfz15_3 := blk_frozen BK155.out 3
       have hfz15_4 := blk_frozen BK155.out 4
       have hfz15_5 := blk_frozen BK155.out 5
       have hfz15_6 := blk_frozen BK155.out 6
       go_wp2
       go_ret
       exact ⟨ze _, zb _⟩
     ·rw [if_neg c10] at H
      have c10b0 : (a0_2 == 1) = false := beq_eq_false_iff_ne.mpr c10
      have c10b1 : (a0_2 != 1) = true := bne_iff_ne.mpr c10
      obtain rfl := Option.some.inj H
      have hcz16_0 := zc0 BK155
      have hcz16_1 := zc1 BK155
      have hcz16_2 := zc2 BK155
      have hcz16_3 := zc3 BK155
      have hcz16_4 := zc4 BK155
      have hcz16_5 := zc5 BK155
      have hcz16_6 := zc6 BK155
      have hfz16_0 := blk_frozen BK155.out 0
      have hfz16_1 := blk_frozen BK155.out 1
      have hfz16_2 := blk_frozen BK155.out 2
      have hfz16_3 := blk_frozen BK155.out 3
      have hfz16_4 := blk_frozen BK155.out 4
      have hfz16_5 := blk_frozen BK155.out 5
      have hfz16_6 := blk_frozen BK155.out 6
      go_wp2
      go_ret
      exact ⟨ze _, zb _⟩
    ·rw [if_neg c9] at H
     have c9b0 : (a0_1 == 0) = false := beq_eq_false_iff_ne.mpr c9
     have c9b1 : (a0_1 != 0) = true := bne_iff_ne.mpr c9
     by_cases c17 : a0_1 = 1
     ·rw [if_pos c17] at H
      have c17b0 : (a0_1 == 1) = true := beq_iff_eq.mpr c17
      have c17b1 : (a0_1 != 1) = false := bne_eq_false_iff_eq.mpr c17
      clear c17
      obtain ⟨t157, A180, H⟩ := Option.bind_eq_some_iff.mp H
      have A18 := Aside0.mk A180
      clear A180
      by_cases c19 : t157 = true
      ·subst c19
       rw [if_pos rfl] at H
       obtain ⟨t158, A200, H⟩ := Option.bind_eq_some_iff.mp H
       have A20 := Aside0.mk A200
       clear A200
       by_cases c21 : t158 = true
       ·subst c21
        rw [if_pos rfl] at H
        obtain ⟨t159, A220, H⟩ := Option.bind_eq_some_iff.mp H
        have A22 := Aside0.mk A220
        clear A220
        obtain rfl := Option.some.inj H
        have hcz23_0 := zc0 BK155
        have hcz23_1 := zc1 BK155
        have hcz23_2 := zc2 BK155
        have hcz23_3 := zc3 BK155
        have hcz23_4 := zc4 BK155
        have hcz23_5 := zc5 BK155
        have hcz23_6 := zc6 BK155
        have hfz23_0 := blk_frozen BK155.out 0
        have hfz23_1 := blk_frozen BK155.out 1
        have hfz23_2 := blk_frozen BK155.out 2
        have hfz23_3 := blk_frozen BK155.out 3
        have hfz23_4 := blk_frozen BK155.out 4
        have hfz23_5 := blk_frozen BK155.out 5
        have hfz23_6 := blk_frozen BK155.out 6
        go_wp2_with (first | ((with_reducible refine gate_callee (f := 25) rfl ?_); refine zc (some 39) Try.func25 #[.int .i64 a0_2, .int .i64 1, .int .i64 31] ?_; (with_reducible refine (spec_l1In.calls a0_2 1 31 true _ A18.out).mono ?_); rintro e w' ⟨rfl, ⟨nd, rfl⟩⟩; refine ⟨_, rfl, ?_⟩) | (go_at_call 25; (with_reducible refine (spec_l1In.calls a0_4 0 3 true _ A20.out).mono ?_); rintro e w' ⟨rfl, ⟨nd, rfl⟩⟩) | (go_at_call 25; (with_reducible refine (spec_l1In.calls a0_6 0 1 t159 _ A22.out).mono ?_); rintro e w' ⟨rfl, ⟨nd, rfl⟩⟩))
        go_ret
        exact ⟨ze _, zb _⟩
       ·replace c21 := Bool.eq_false_iff.mpr c21
        subst c21
        rw [if_neg (show ¬ (false = true) by decide)] at H
        obtain rfl := Option.some.inj H
        have hcz24_0 := zc0 BK155
        have hcz24_1 := zc1 BK155
        have hcz24_2 := zc2 BK155
        have hcz24_3 := zc3 BK155
        have hcz24_4 := zc4 BK155
        have hcz24_5 := zc5 BK155
        have hcz24_6 := zc6 BK155
        have hfz24_0 := blk_frozen BK155.out 0
        have hfz24_1 := blk_frozen BK155.out 1
        have hfz24_2 := blk_frozen BK155.out 2
        have hfz24_3 := blk_frozen BK155.out 3
        have hfz24_4 := blk_frozen BK155.out 4
        have hfz24_5 := blk_frozen BK155.out 5
        have hfz24_6 := blk_frozen BK155.out 6
        go_wp2_with (first | ((with_reducible refine gate_callee (f := 25) rfl ?_); refine zc (some 39) Try.func25 #[.int .i64 a0_2, .int .i64 1, .int .i64 31] ?_; (with_reducible refine (spec_l1In.calls a0_2 1 31 true _ A18.out).mono ?_); rintro e w' ⟨rfl, ⟨nd, rfl⟩⟩; refine ⟨_, rfl, ?_⟩) | (go_at_call 25; (with_reducible refine (spec_l1In.calls a0_4 0 3 false _ A20.out).mono ?_); rintro e w' ⟨rfl, ⟨nd, rfl⟩⟩))
        go_ret
        exact ⟨ze _, zb _⟩
      ·replace c19 := Bool.eq_false_iff.mpr c19
       subst c19
       rw [if_neg (show ¬ (false = true) by decide)] at H
       obtain rfl := Option.some.inj H
       have hcz25_0 := zc0 BK155
       have hcz25_1 := zc1 BK155
       have hcz25_2 := zc2 BK155
       have hcz25_3 := zc3 BK155
       have hcz25_4 := zc4 BK155
       have hcz25_5 := zc5 BK155
       have hcz25_6 := zc6 BK155
       have hfz25_0 := blk_frozen BK155.out 0
       have hfz25_1 := blk_frozen BK155.out 1
       have hfz25_2 := blk_frozen BK155.out 2
       have hfz25_3 := blk_frozen BK155.out 3
       have hfz25_4 := blk_frozen BK155.out 4
       have hfz25_5 := blk_frozen BK155.out 5
       have hfz25_6 := blk_frozen BK155.out 6
       go_wp2_with (first | ((with_reducible refine gate_callee (f := 25) rfl ?_); refine zc (some 39) Try.func25 #[.int .i64 a0_2, .int .i64 1, .int .i64 31] ?_; (with_reducible refine (spec_l1In.calls a0_2 1 31 false _ A18.out).mono ?_); rintro e w' ⟨rfl, ⟨nd, rfl⟩⟩; refine ⟨_, rfl, ?_⟩))
       go_ret
       exact ⟨ze _, zb _⟩
     ·rw [if_neg c17] at H
      have c17b0 : (a0_1 == 1) = false := beq_eq_false_iff_ne.mpr c17
      have c17b1 : (a0_1 != 1) = true := bne_iff_ne.mpr c17
      by_cases c26 : a0_1 = 2
      ·rw [if_pos c26] at H
       have c26b0 : (a0_1 == 2) = true := beq_iff_eq.mpr c26
       have c26b1 : (a0_1 != 2) = false := bne_eq_false_iff_eq.mpr c26
       clear c26
       obtain ⟨t160, A270, H⟩ := Option.bind_eq_some_iff.mp H
       have A27 := Aside0.mk A270
       clear A270
       by_cases c28 : t160 = true
       ·subst c28
        rw [if_pos rfl] at H
        obtain ⟨t161, A290, H⟩ := Option.bind_eq_some_iff.mp H
        have A29 := Aside0.mk A290
        clear A290
        by_cases c30 : t161 = true
        ·subst c30
         rw [if_pos rfl] at H
         obtain rfl := Option.some.inj H
         have hcz31_0 := zc0 BK155
         have hcz31_1 := zc1 BK155
         have hcz31_2 := zc2 BK155
         have hcz31_3 := zc3 BK155
         have hcz31_4 := zc4 BK155
         have hcz31_5 := zc5 BK155
         have hcz31_6 := zc6 BK155
         have hfz31_0 := blk_frozen BK155.out 0
         have hfz31_1 := blk_frozen BK155.out 1
         have hfz31_2 := blk_frozen BK155.out 2
         have hfz31_3 := blk_frozen BK155.out 3
         have hfz31_4 := blk_frozen BK155.out 4
         have hfz31_5 := blk_frozen BK155.out 5
         have hfz31_6 := blk_frozen BK155.out 6
         go_wp2_with (first | ((with_reducible refine gate_callee (f := 25) rfl ?_); refine zc (some 54) Try.func25 #[.int .i64 a0_2, .int .i64 0, .int .i64 255] ?_; (with_reducible refine (spec_l1In.calls a0_2 0 255 true _ A27.out).mono ?_); rintro e w' ⟨rfl, ⟨nd, rfl⟩⟩; refine ⟨_, rfl, ?_⟩) | (go_at_call 25; (with_reducible refine (spec_l1In.calls a0_4 0 3 true _ A29.out).mono ?_); rintro e w' ⟨rfl, ⟨nd, rfl⟩⟩))
         go_ret
         exact ⟨ze _, zb _⟩
        ·replace c30 := Bool.eq_false_iff.mpr c30
         subst c30
         rw [if_neg (show ¬ (false = true) by decide)] at H
         obtain rfl := Option.some.inj H
         have hcz32_0 := zc0 BK155
         have hcz32_1 := zc1 BK155
         have hcz32_2 := zc2 BK155
         have hcz32_3 := zc3 BK155
         have hcz32_4 := zc4 BK155
         have hcz32_5 := zc5 BK155
         have hcz32_6 := zc6 BK155
         have hfz32_0 := blk_frozen BK155.out 0
         have hfz32_1 := blk_frozen BK155.out 1
         have hfz32_2 := blk_frozen BK155.out 2
         have hfz32_3 := blk_frozen BK155.out 3
         have hfz32_4 := blk_frozen BK155.out 4
         have hfz32_5 := blk_frozen BK155.out 5
         have hfz32_6 := blk_frozen BK155.out 6
         go_wp2_with (first | ((with_reducible refine gate_callee (f := 25) rfl ?_); refine zc (some 54) Try.func25 #[.int .i64 a0_2, .int .i64 0, .int .i64 255] ?_; (with_reducible refine (spec_l1In.calls a0_2 0 255 true _ A27.out).mono ?_); rintro e w' ⟨rfl, ⟨nd, rfl⟩⟩; refine ⟨_, rfl, ?_⟩) | (go_at_call 25; (with_reducible refine (spec_l1In.calls a0_4 0 3 false _ A29.out).mono ?_); rintro e w' ⟨rfl, ⟨nd, rfl⟩⟩))
         go_ret
         exact ⟨ze _, zb _⟩
       ·replace c28 := Bool.eq_false_iff.mpr c28
        subst c28
        rw [if_neg (show ¬ (false = true) by decide)] at H
        obtain rfl := Option.some.inj H
        have hcz33_0 := zc0 BK155
        have hcz33_1 := zc1 BK155
        have hcz33_2 := zc2 BK155
        have hcz33_3 := zc3 BK155
        have hcz33_4 := zc4 BK155
        have hcz33_5 := zc5 BK155
        have hcz33_6 := zc6 BK155
        have hfz33_0 := blk_frozen BK155.out 0
        have hfz33_1 := blk_frozen BK155.out 1
        have hfz33_2 := blk_frozen BK155.out 2
        have hfz33_3 := blk_frozen BK155.out 3
        have hfz33_4 := blk_frozen BK155.out 4
        have hfz33_5 := blk_frozen BK155.out 5
        have hfz33_6 := blk_frozen BK155.out 6
        go_wp2_with (first | ((with_reducible refine gate_callee (f := 25) rfl ?_); refine zc (some 54) Try.func25 #[.int .i64 a0_2, .int .i64 0, .int .i64 255] ?_; (with_reducible refine (spec_l1In.calls a0_2 0 255 false _ A27.out).mono ?_); rintro e w' ⟨rfl, ⟨nd, rfl⟩⟩; refine ⟨_, rfl, ?_⟩))
        go_ret
        exact ⟨ze _, zb _⟩
      ·rw [if_neg c26] at H
       have c26b0 : (a0_1 == 2) = false := beq_eq_false_iff_ne.mpr c26
       have c26b1 : (a0_1 != 2) = true := bne_iff_ne.mpr c26
       obtain rfl := Option.some.inj H
       have hcz34_0 := zc0 BK155
       have hcz34_1 := zc1 BK155
       have hcz34_2 := zc2 BK155
       have hcz34_3 := zc3 BK155
       have hcz34_4 := zc4 BK155
       have hcz34_5 := zc5 BK155
       have hcz34_6 := zc6 BK155
       have hfz34_0 := blk_frozen BK155.out 0
       have hfz34_1 := blk_frozen BK155.out 1
       have hfz34_2 := blk_frozen BK155.out 2
       have hfz34_3 := blk_frozen BK155.out 3
       have hfz34_4 := blk_frozen BK155.out 4
       have hfz34_5 := blk_frozen BK155.out 5
       have hfz34_6 := blk_frozen BK155.out 6
       go_wp2
       go_ret
       exact ⟨ze _, zb _⟩

end Go.Proofs.Ytmgbdbamfljjnaa.PFnExactBusWrite
