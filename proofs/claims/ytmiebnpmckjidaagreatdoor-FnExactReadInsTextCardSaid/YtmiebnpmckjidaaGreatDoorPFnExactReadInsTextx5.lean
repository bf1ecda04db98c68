/- What the Go functions that the law FnExactReadInsText reaches compute, function by function, and that Go comes to just that. -/
import Derived.Test.YtmiebnpmckjidaaGreatDoorPFnExactReadInsTextx0
import Derived.Test.YtmiebnpmckjidaaGreatDoorAidZ
import Derived.Test.YtmiebnpmckjidaaGreatDoorPFnExactReadInsTextx1
import Derived.Test.YtmiebnpmckjidaaGreatDoorPFnExactReadInsTextx2
import Derived.Test.YtmiebnpmckjidaaGreatDoorPFnExactReadInsTextx4
namespace Go.Proofs.YtmiebnpmckjidaaGreatDoor.PFnExactReadInsText
open Go.RowKit Go.Proofs.YtmiebnpmckjidaaGreatDoor.Z Go.Proofs.YtmiebnpmckjidaaGreatDoorW.PrintWords Go.Proofs.YtmiebnpmckjidaaGreatDoorW.PrintLast Go.Proofs.YtmiebnpmckjidaaGreatDoorW.PrintMore
attribute [local go_sem] max2_int min2_int max_two min_two max_three min_three max_four min_four   -- for this text's walks alone
set_option linter.unusedVariables false
set_option linter.unusedSimpArgs false

/-! ### spec_InsText: function 11 -/
def spec_InsText.f (k : Nat) (a0_0 : Int) (a0_1 : Bool) (a0_2 : Int) : Option (ByteArray) := (spec_InsOk.f k a0_0 a0_1 a0_2).bind fun t158 => (if t158 = true then ((spec_l3Template.f a0_0 a0_1).bind fun t159 => ((spec_l3Hole.f k t159).bind fun bt160 => (if bt160.2.toList = ([110, 49, 54] : List UInt8) then (if 0 ≤ bt160.1 then (if bt160.1 ≤ (t159.size : Int) then ((spec_HexOf.f k a0_2 4).bind fun t162 => (if (t159.extract 0 (bt160.1 : Int).toNat).size + t162.size ≤ 9223372036854775807 then (if 0 ≤ (wrap64 (bt160.1 + 3)) then (if (wrap64 (bt160.1 + 3)) ≤ (t159.size : Int) then (if ((t159.extract 0 (bt160.1 : Int).toNat) ++ t162).size + (t159.extract ((wrap64 (bt160.1 + 3)) : Int).toNat t159.size).size ≤ 9223372036854775807 then (some (((t159.extract 0 (bt160.1 : Int).toNat) ++ t162) ++ (t159.extract ((wrap64 (bt160.1 + 3)) : Int).toNat t159.size))) else (none)) else (none)) else (none)) else (none))) else (none)) else (none)) else (if bt160.2.toList = ([110, 56] : List UInt8) then (if 0 ≤ bt160.1 then (if bt160.1 ≤ (t159.size : Int) then ((spec_HexOf.f k a0_2 2).bind fun t163 => (if (t159.extract 0 (bt160.1 : Int).toNat).size + t163.size ≤ 9223372036854775807 then (if 0 ≤ (wrap64 (bt160.1 + 2)) then (if (wrap64 (bt160.1 + 2)) ≤ (t159.size : Int) then (if ((t159.extract 0 (bt160.1 : Int).toNat) ++ t163).size + (t159.extract ((wrap64 (bt160.1 + 2)) : Int).toNat t159.size).size ≤ 9223372036854775807 then (some (((t159.extract 0 (bt160.1 : Int).toNat) ++ t163) ++ (t159.extract ((wrap64 (bt160.1 + 2)) : Int).toNat t159.size))) else (none)) else (none)) else (none)) else (none))) else (none)) else (none)) else (if bt160.2.toList = ([101, 56] : List UInt8) then (if 0 ≤ bt160.1 then (if bt160.1 ≤ (t159.size : Int) then ((spec_SignedOf.f a0_2).bind fun t164 => ((spec_l1Dec.f k t164).bind fun t165 => (if (t159.extract 0 (bt160.1 : Int).toNat).size + t165.size ≤ 9223372036854775807 then (if 0 ≤ (wrap64 (bt160.1 + 2)) then (if (wrap64 (bt160.1 + 2)) ≤ (t159.size : Int) then (if ((t159.extract 0 (bt160.1 : Int).toNat) ++ t165).size + (t159.extract ((wrap64 (bt160.1 + 2)) : Int).toNat t159.size).size ≤ 9223372036854775807 then (some (((t159.extract 0 (bt160.1 : Int).toNat) ++ t165) ++ (t159.extract ((wrap64 (bt160.1 + 2)) : Int).toNat t159.size))) else (none)) else (none)) else (none)) else (none)))) else (none)) else (none)) else (some t159)))))) else (some (⟨#[]⟩ : ByteArray)))
theorem spec_InsText.mono : ∀ a0 a1 a2 k, LeO (spec_InsText.f k a0 a1 a2) (spec_InsText.f (k + 1) a0 a1 a2) := by
  intro a0 a1 a2 k
  unfold spec_InsText.f
  repeat' first
      | (with_reducible exact spec_HexOf.mono _ _ _)
      | (with_reducible exact spec_InsOk.mono _ _ _ _)
      | (with_reducible exact spec_l1Dec.mono _ _)
      | (with_reducible exact spec_l3Hole.mono _ _)
      | (with_reducible exact LeO.refl _)
      | (with_reducible exact LeO.none _)
      | (with_reducible refine LeO.ite ?_ ?_)
      | (with_reducible refine LeO.bind ?_ (fun _ => ?_))
      | exact spec_HexOf.mono _ _ _
      | exact spec_InsOk.mono _ _ _ _
      | exact spec_l1Dec.mono _ _
      | exact spec_l3Hole.mono _ _
      | exact LeO.none _
      | refine LeO.ite ?_ ?_
      | refine LeO.bind ?_ (fun _ => ?_)
def spec_InsText.T7 : Bool × List (List Nat × List Nat) := (true, [([], []), ([], []), ([0, 1], [0, 1]), ([], []), ([3], [3]), ([4], [4]), ([2, 5], [2, 5]), ([], []), ([], []), ([8], [8]), ([7, 9], [7, 9]), ([6, 10], [6, 10]), ([11, 5, 0, 1, 2, 3, 4, 5, 6, 7, 8, 9, 10, 11], [11])])
def spec_InsText.B7 : List Nat := [0, 0, 3, 0, 8, 24, 63, 0, 0, 256, 896, 2047, 4095]
theorem spec_InsText.tab7 : rtab .any (opsOf Tryz.f11 7) = spec_InsText.T7 := by kernel_rfl
theorem spec_InsText.bits7 : waitsOk spec_InsText.T7.2 spec_InsText.B7 = true := by kernel_rfl
def spec_InsText.T9 : Bool × List (List Nat × List Nat) := (true, [([], []), ([], []), ([0, 1], [0, 1]), ([], []), ([3], [3]), ([4], [4]), ([2, 5], [2, 5]), ([], []), ([], []), ([8], [8]), ([7, 9], [7, 9]), ([6, 10], [6, 10]), ([11, 5, 0, 1, 2, 3, 4, 5, 6, 7, 8, 9, 10, 11], [11])])
def spec_InsText.B9 : List Nat := [0, 0, 3, 0, 8, 24, 63, 0, 0, 256, 896, 2047, 4095]
theorem spec_InsText.tab9 : rtab .any (opsOf Tryz.f11 9) = spec_InsText.T9 := by kernel_rfl
theorem spec_InsText.bits9 : waitsOk spec_InsText.T9.2 spec_InsText.B9 = true := by kernel_rfl
def spec_InsText.T11 : Bool × List (List Nat × List Nat) := (true, [([], []), ([], []), ([0, 1], [0, 1]), ([], []), ([3], [3]), ([4], [4]), ([5, 5], [5]), ([2, 6], [2, 6]), ([], []), ([], []), ([9], [9]), ([8, 10], [8, 10]), ([7, 11], [7, 11]), ([12, 6, 0, 1, 2, 3, 4, 5, 6, 7, 8, 9, 10, 11, 12], [12])])
def spec_InsText.B11 : List Nat := [0, 0, 3, 0, 8, 24, 56, 127, 0, 0, 512, 1792, 4095, 8191]
theorem spec_InsText.tab11 : rtab .any (opsOf Tryz.f11 11) = spec_InsText.T11 := by kernel_rfl
theorem spec_InsText.bits11 : waitsOk spec_InsText.T11.2 spec_InsText.B11 = true := by kernel_rfl
set_option maxHeartbeats 8000000 in
set_option maxRecDepth 100000 in
theorem spec_InsText.calls (k : Nat) (a0_0 : Int) (a0_1 : Bool) (a0_2 : Int) (r : ByteArray) (w : World) (h : spec_InsText.f k a0_0 a0_1 a0_2 = some r) :
 Calls Tryz.prog 11 #[.agg #[.int .i64 a0_0, .bool a0_1, .int .i64 a0_2]] w fun e w' => e = .returned (.string r) ∧ Below w.heap.size w w' := by
 have hu23 := Tryz.underlying23
 have HB := Aside0.mk (Below.refl w.heap.size w)
 have H : ((spec_InsOk.f k a0_0 a0_1 a0_2).bind fun t158 => (if t158 = true then ((spec_l3Template.f a0_0 a0_1).bind fun t159 => ((spec_l3Hole.f k t159).bind fun bt160 => (if bt160.2.toList = ([110, 49, 54] : List UInt8) then (if 0 ≤ bt160.1 then (if bt160.1 ≤ (t159.size : Int) then ((spec_HexOf.f k a0_2 4).bind fun t162 => (if (t159.extract 0 (bt160.1 : Int).toNat).size + t162.size ≤ 9223372036854775807 then (if 0 ≤ (wrap64 (bt160.1 + 3)) then (if (wrap64 (bt160.1 + 3)) ≤ (t159.size : Int) then (if ((t159.extract 0 (bt160.1 : Int).toNat) ++ t162).size + (t159.extract ((wrap64 (bt160.1 + 3)) : Int).toNat t159.size).size ≤ 9223372036854775807 then (some (((t159.extract 0 (bt160.1 : Int).toNat) ++ t162) ++ (t159.extract ((wrap64 (bt160.1 + 3)) : Int).toNat t159.size))) else (none)) else (none)) else (none)) else (none))) else (none)) else (none)) else (if bt160.2.toList = ([110, 56] : List UInt8) then (if 0 ≤ bt160.1 then (if bt160.1 ≤ (t159.size : Int) then ((spec_HexOf.f k a0_2 2).bind fun t163 => (if (t159.extract 0 (bt160.1 : Int).toNat).size + t163.size ≤ 9223372036854775807 then (if 0 ≤ (wrap64 (bt160.1 + 2)) then (if (wrap64 (bt160.1 + 2)) ≤ (t159.size : Int) then (if ((t159.extract 0 (bt160.1 : Int).toNat) ++ t163).size + (t159.extract ((wrap64 (bt160.1 + 2)) : Int).toNat t159.size).size ≤ 9223372036854775807 then (some (((t159.extract 0 (bt160.1 : Int).toNat) ++ t163) ++ (t159.extract ((wrap64 (bt160.1 + 2)) : Int).toNat t159.size))) else (none)) else (none)) else (none)) else (none))) else (none)) else (none)) else (if bt160.2.toList = ([101, 56] : List UInt8) then (if 0 ≤ bt160.1 then (if bt160.1 ≤ (t159.size : Int) then ((spec_SignedOf.f a0_2).bind fun t164 => ((spec_l1Dec.f k t164).bind fun t165 => (if (t159.extract 0 (bt160.1 : Int).toNat).size + t165.size ≤ 9223372036854775807 then (if 0 ≤ (wrap64 (bt160.1 + 2)) then (if (wrap64 (bt160.1 + 2)) ≤ (t159.size : Int) then (if ((t159.extract 0 (bt160.1 : Int).toNat) ++ t165).size + (t159.extract ((wrap64 (bt160.1 + 2)) : Int).toNat t159.size).size ≤ 9223372036854775807 then (some (((t159.extract 0 (bt160.1 : Int).toNat) ++ t165) ++ (t159.extract ((wrap64 (bt160.1 + 2)) : Int).toNat t159.size))) else (none)) else (none)) else (none)) else (none)))) else (none)) else (none)) else (some t159)))))) else (some (⟨#[]⟩ : ByteArray)))) = some r := h
 clear h
 obtain ⟨t158, A20, H⟩ := Option.bind_eq_some_iff.mp H
 have A2 := Aside0.mk A20
 clear A20
 by_cases c3 : t158 = true
 ·subst c3
  rw [if_pos rfl] at H
  obtain ⟨t159, A40, H⟩ := Option.bind_eq_some_iff.mp H
  have A4 := Aside0.mk A40
  clear A40
  replace H := Option.bind_eq_some_iff.mp H
  obtain ⟨⟨t160, t161⟩, A50, H⟩ := H
  replace H : (if t161.toList = ([110, 49, 54] : List UInt8) then (if 0 ≤ t160 then (if t160 ≤ (t159.size : Int) then ((spec_HexOf.f k a0_2 4).bind fun t162 => (if (t159.extract 0 (t160 : Int).toNat).size + t162.size ≤ 9223372036854775807 then (if 0 ≤ (wrap64 (t160 + 3)) then (if (wrap64 (t160 + 3)) ≤ (t159.size : Int) then (if ((t159.extract 0 (t160 : Int).toNat) ++ t162).size + (t159.extract ((wrap64 (t160 + 3)) : Int).toNat t159.size).size ≤ 9223372036854775807 then (some (((t159.extract 0 (t160 : Int).toNat) ++ t162) ++ (t159.extract ((wrap64 (t160 + 3)) : Int).toNat t159.size))) else (none)) else (none)) else (none)) else (none))) else (none)) else (none)) else (if t161.toList = ([110, 56] : List UInt8) then (if 0 ≤ t160 then (if t160 ≤ (t159.size : Int) then ((spec_HexOf.f k a0_2 2).bind fun t163 => (if (t159.extract 0 (t160 : Int).toNat).size + t163.size ≤ 9223372036854775807 then (if 0 ≤ (wrap64 (t160 + 2)) then (if (wrap64 (t160 + 2)) ≤ (t159.size : Int) then (if ((t159.extract 0 (t160 : Int).toNat) ++ t163).size + (t159.extract ((wrap64 (t160 + 2)) : Int).toNat t159.size).size ≤ 9223372036854775807 then (some (((t159.extract 0 (t160 : Int).toNat) ++ t163) ++ (t159.extract ((wrap64 (t160 + 2)) : Int).toNat t159.size))) else (none)) else (none)) else (none)) else (none))) else (none)) else (none)) else (if t161.toList = ([101, 56] : List UInt8) then (if 0 ≤ t160 then (if t160 ≤ (t159.size : Int) then ((spec_SignedOf.f a0_2).bind fun t164 => ((spec_l1Dec.f k t164).bind fun t165 => (if (t159.extract 0 (t160 : Int).toNat).size + t165.size ≤ 9223372036854775807 then (if 0 ≤ (wrap64 (t160 + 2)) then (if (wrap64 (t160 + 2)) ≤ (t159.size : Int) then (if ((t159.extract 0 (t160 : Int).toNat) ++ t165).size + (t159.extract ((wrap64 (t160 + 2)) : Int).toNat t159.size).size ≤ 9223372036854775807 then (some (((t159.extract 0 (t160 : Int).toNat) ++ t165) ++ (t159.extract ((wrap64 (t160 + 2)) : Int).toNat t159.size))) else (none)) else (none)) else (none)) else (none)))) else (none)) else (none)) else (some t159)))) = some r := H
  have A5 := Aside0.mk A50
  clear A50
  by_cases c6 : t161.toList = ([110, 49, 54] : List UInt8)
  ·rw [if_pos c6] at H
   have c6b0 : (t161.toList == ([110, 49, 54] : List UInt8)) = true := beq_iff_eq.mpr c6
   have c6b1 : (t161.toList != ([110, 49, 54] : List UInt8)) = false := bne_eq_false_iff_eq.mpr c6
   clear c6
   by_cases c7 : 0 ≤ t160
   ·rw [if_pos c7] at H
    have c7b0 := eq_true c7
    have c7b1 : decide (0 ≤ t160) = true := decide_eq_true c7
    clear c7
    by_cases c8 : t160 ≤ (t159.size : Int)
    ·rw [if_pos c8] at H
     have c8b0 := eq_true c8
     have c8b1 : decide (t160 ≤ (t159.size : Int)) = true := decide_eq_true c8
     clear c8
     obtain ⟨t162, A90, H⟩ := Option.bind_eq_some_iff.mp H
     have A9 := Aside0.mk A90
     clear A90
     by_cases c10 : (t159.extract 0 (t160 : Int).toNat).size + t162.size ≤ 9223372036854775807
     ·rw [if_pos c10] at H
      have c10b0 := eq_true c10
      have c10b1 : decide ((t159.extract 0 (t160 : Int).toNat).size + t162.size ≤ 9223372036854775807) = true := decide_eq_true c10
      try have c10b2 : (9223372036854775807 < (t159.extract 0 (t160 : Int).toNat).size + t162.size) = False := eq_false (Nat.not_lt.2 c10)
      have c10b3 : (9223372036854775807 < t160.toNat + t162.size) = False := eq_false (by have z1_ : decide (0 ≤ t160) = true := (by assumption); have z2_ : decide (t160 ≤ (t159.size : Int)) = true := (by assumption); have z3_ := of_decide_eq_true z1_; have z4_ := of_decide_eq_true z2_; have e_ : (t159.extract 0 (t160 : Int).toNat).size = (t160 : Int).toNat := (by rw [ByteArray.size_extract]; omega); omega)
      obtain ⟨ji11, hji11⟩ : ∃ j_ : Int, (wrap64 (t160 + 3)) = j_ := ⟨_, rfl⟩
      replace H : (if 0 ≤ (ji11) then (if (ji11) ≤ (t159.size : Int) then (if ((t159.extract 0 (t160 : Int).toNat) ++ t162).size + (t159.extract ((ji11) : Int).toNat t159.size).size ≤ 9223372036854775807 then (some (((t159.extract 0 (t160 : Int).toNat) ++ t162) ++ (t159.extract ((ji11) : Int).toNat t159.size))) else (none)) else (none)) else (none)) = some r := by first | (rw [hji11] at H; exact H) | (simp only [hji11] at H ⊢; exact H)
      (try rw [hji11] at A2)
      (try rw [hji11] at A4)
      (try rw [hji11] at A5)
      (try rw [hji11] at A9)
      have hji11w : (IntKind.i64.wrap (t160 + 3)) = ji11 := (i64_w _).trans hji11
      by_cases c12 : 0 ≤ (ji11)
      ·rw [if_pos c12] at H
       have c12b0 := eq_true c12
       have c12b1 : decide (0 ≤ (ji11)) = true := decide_eq_true c12
       clear c12
       by_cases c13 : (ji11) ≤ (t159.size : Int)
       ·rw [if_pos c13] at H
        have c13b0 := eq_true c13
        have c13b1 : decide ((ji11) ≤ (t159.size : Int)) = true := decide_eq_true c13
        clear c13
        by_cases c14 : ((t159.extract 0 (t160 : Int).toNat) ++ t162).size + (t159.extract ((ji11) : Int).toNat t159.size).size ≤ 9223372036854775807
        ·rw [if_pos c14] at H
         have c14b0 := eq_true c14
         have c14b1 : decide (((t159.extract 0 (t160 : Int).toNat) ++ t162).size + (t159.extract ((ji11) : Int).toNat t159.size).size ≤ 9223372036854775807) = true := decide_eq_true c14
         try have c14b2 : (9223372036854775807 < ((t159.extract 0 (t160 : Int).toNat) ++ t162).size + (t159.extract ((ji11) : Int).toNat t159.size).size) = False := eq_false (Nat.not_lt.2 c14)
         have c14b3 : (9223372036854775807 < t160.toNat + t162.size + (t159.size - ji11.toNat)) = False := eq_false (by have z1_ : decide (0 ≤ t160) = true := (by assumption); have z2_ : decide (t160 ≤ (t159.size : Int)) = true := (by assumption); have z3_ := of_decide_eq_true z1_; have z4_ := of_decide_eq_true z2_; have e_ : (t159.extract 0 (t160 : Int).toNat).size = (t160 : Int).toNat := (by rw [ByteArray.size_extract]; omega); have e2_ : ((t159.extract 0 (t160 : Int).toNat) ++ t162).size = (t159.extract 0 (t160 : Int).toNat).size + t162.size := ByteArray.size_append; have e3_ : (t159.extract (ji11 : Int).toNat t159.size).size = t159.size - (ji11 : Int).toNat := (by rw [ByteArray.size_extract]; omega); omega)
         obtain rfl := Option.some.inj H
         go_enter Tryz.func11, Tryz.ntmps11
         try go_wp2_with (first | ((with_reducible refine gate_dst (N := 1) rfl ?_); refine zbx 1 #[.int .i64 a0_0, .bool a0_1, .int .i64 a0_2] 23 ?_; intro gb157 hg w15 hbox hb; have BK157 := Aside0.mk (hbox); have GW157 := zs w hg; have GE157 := GW157; replace HB := zt w hb; clear hb hbox hg; have hcz16_0 := zc0 BK157; have hcz16_1 := zc1 BK157; have hcz16_2 := zc2 BK157; have hfz16_0 := blk_frozen BK157.out 0; have hfz16_1 := blk_frozen BK157.out 1; have hfz16_2 := blk_frozen BK157.out 2) | ((with_reducible refine gate_callee (f := 29) rfl ?_); refine zc (some 7) Tryz.func29 #[.agg #[.int .i64 a0_0, .bool a0_1, .int .i64 a0_2]] ?_; (with_reducible refine (spec_InsOk.calls k a0_0 a0_1 a0_2 true _ A2.out).mono ?_); rintro e w17 ⟨rfl, hb⟩; refine ⟨_, rfl, ?_⟩; replace BK157 := zk BK157 hb; replace HB := zt w hb; (try clear hb); (try clear hb2); (try clear hk); (try clear hi); have hcz18_0 := zc0 BK157; have hcz18_1 := zc1 BK157; have hcz18_2 := zc2 BK157; have hfz18_0 := blk_frozen BK157.out 0; have hfz18_1 := blk_frozen BK157.out 1; have hfz18_2 := blk_frozen BK157.out 2) | ((with_reducible refine gate_callee (f := 9) rfl ?_); refine zc (some 13) Tryz.func9 #[.int .i64 a0_0, .bool a0_1] ?_; (with_reducible refine (spec_l3Template.calls a0_0 a0_1 t159 _ A4.out).mono ?_); rintro e w19 ⟨rfl, hb⟩; refine ⟨_, rfl, ?_⟩; replace BK157 := zk BK157 hb; replace HB := zt w hb; (try clear hb); (try clear hb2); (try clear hk); (try clear hi)) | ((with_reducible refine gate_callee (f := 20) rfl ?_); refine zc (some 16) Tryz.func20 #[.string t159] ?_; (with_reducible refine (spec_l3Hole.calls k t159 t160 t161 _ A5.out).mono ?_); rintro e w20 ⟨rfl, hb⟩; refine ⟨_, rfl, ?_⟩; replace BK157 := zk BK157 hb; replace HB := zt w hb; (try clear hb); (try clear hb2); (try clear hk); (try clear hi)))
         have n0_ := Aside0.mk (blk_drew BK157.out)
         have n1_ := Aside0.mk (below_drew1 HB.out)
         clear BK157
         clear HB
         have BK157 := n0_
         have HB := n1_
         clear n0_ n1_
         refine start_ (n := 13) (S := fun w' => w'.cell? ⟨gb157, 0, none⟩ = some (.int .i64 a0_0) ∧ w'.cell? ⟨gb157, 1, none⟩ = some (.bool a0_1) ∧ w'.cell? ⟨gb157, 2, none⟩ = some (.int .i64 a0_2)) (ds := []) (zm 13 0) (by kernel_rfl) rfl rfl ⟨(blk_cell BK157.out 0).trans rfl, (blk_cell BK157.out 1).trans rfl, (blk_cell BK157.out 2).trans rfl⟩ (fun hHeld => ?_); refine with_tabW spec_InsText.tab7 spec_InsText.bits7 (fun HT_ HW_ => ?_)
         generalize w20.drew = w21 at BK157 HB hHeld ⊢
         refine zp 0 22 (zm 13 1) ?_
         refine zp 1 23 (zm 13 3) ?_
         refine zp 2 24 (zm 13 7) ?_
         refine zp 3 25 (zm 13 15) ?_
         refine zp 7 29 (zm 13 143) ?_
         refine zp 8 30 (zm 13 399) ?_
         refine zp 9 31 (zm 13 911) ?_
         refine zp 10 32 (zm 13 1935) ?_
         refine take_ (i := 4) (N := some 26) (v := ?_) (a' := ?_) (zm 13 1951) rfl rfl (take_ofW HT_.out HW_.out (by kernel_rfl)) (fun _ _ _ h => h) (Or.inl ⟨by rfl, ?_⟩) hHeld ?_ ?_
         rotate_left
         ·rintro w' ⟨s0, s1, s2⟩
          go_simp
          with_reducible rfl
         rotate_left
         ·simp only [Act.put, List.setIfInBounds_toArray, List.set_cons_zero, List.set_cons_succ, i64_w, i32_w]
          rfl
         refine one_ (i := 5) (N := some 27) (zm 13 1983) rfl rfl (one_of HT_.out (by kernel_rfl)) (by decide) (fun K hK => ?_)
         refine zi Tryz.func30 #[.int .i64 a0_2, .int .i64 4] ?_
         with_reducible refine (spec_HexOf.calls k a0_2 4 t162 _ A9.out).mono ?_
         rintro e w' ⟨rfl, ⟨nd, rfl⟩⟩
         refine ⟨_, rfl, ?_⟩
         refine hK.out _ _ ⟨(blk_cell BK157.out 0).trans rfl, (blk_cell BK157.out 1).trans rfl, (blk_cell BK157.out 2).trans rfl⟩ (fun hHeld => ?_)
         clear hK K
         refine zq ?_
         refine zp 6 28 (zm 13 2047) ?_
         refine zp 11 33 (zm 13 4095) ?_
         refine zp 12 2 (zm 13 8191) ?_
         refine done_ (done_of HT_.out (by kernel_rfl)) ?_
         try go_wp2
         first | go_ret | ((try simp only [Exit.inBlock, Exit.then]); apply bodyPost_ret; (exact results_tmp rfl _ _ _); rfl)
         exact ⟨by first | rfl | (simp [errW_none, errW_some] <;> rfl) | (simp only [← hji11]; first | rfl | (simp [errW_none, errW_some] <;> rfl)) | (simp [*, errW_none, errW_some] <;> rfl), zb _⟩
        ·rw [if_neg c14] at H
         exact absurd H (by simp)
       ·rw [if_neg c13] at H
        exact absurd H (by simp)
      ·rw [if_neg c12] at H
       exact absurd H (by simp)
     ·rw [if_neg c10] at H
      exact absurd H (by simp)
    ·rw [if_neg c8] at H
     exact absurd H (by simp)
   ·rw [if_neg c7] at H
    exact absurd H (by simp)
  ·rw [if_neg c6] at H
   have c6b0 : (t161.toList == ([110, 49, 54] : List UInt8)) = false := beq_eq_false_iff_ne.mpr c6
   have c6b1 : (t161.toList != ([110, 49, 54] : List UInt8)) = true := bne_iff_ne.mpr c6
   by_cases c22 : t161.toList = ([110, 56] : List UInt8)
   ·rw [if_pos c22] at H
    have c22b0 : (t161.toList == ([110, 56] : List UInt8)) = true := beq_iff_eq.mpr c22
    have c22b1 : (t161.toList != ([110, 56] : List UInt8)) = false := bne_eq_false_iff_eq.mpr c22
    clear c22
    by_cases c23 : 0 ≤ t160
    ·rw [if_pos c23] at H
     have c23b0 := eq_true c23
     have c23b1 : decide (0 ≤ t160) = true := decide_eq_true c23
     clear c23
     by_cases c24 : t160 ≤ (t159.size : Int)
     ·rw [if_pos c24] at H
      have c24b0 := eq_true c24
      have c24b1 : decide (t160 ≤ (t159.size : Int)) = true := decide_eq_true c24
      clear c24
      obtain ⟨t163, A250, H⟩ := Option.bind_eq_some_iff.mp H
      have A25 := Aside0.mk A250
      clear A250
      by_cases c26 : (t159.extract 0 (t160 : Int).toNat).size + t163.size ≤ 9223372036854775807
      ·rw [if_pos c26] at H
       have c26b0 := eq_true c26
       have c26b1 : decide ((t159.extract 0 (t160 : Int).toNat).size + t163.size ≤ 9223372036854775807) = true := decide_eq_true c26
       try have c26b2 : (9223372036854775807 < (t159.extract 0 (t160 : Int).toNat).size + t163.size) = False := eq_false (Nat.not_lt.2 c26)
       have c26b3 : (9223372036854775807 < t160.toNat + t163.size) = False := eq_false (by have z1_ : decide (0 ≤ t160) = true := (by assumption); have z2_ : decide (t160 ≤ (t159.size : Int)) = true := (by assumption); have z3_ := of_decide_eq_true z1_; have z4_ := of_decide_eq_true z2_; have e_ : (t159.extract 0 (t160 : Int).toNat).size = (t160 : Int).toNat := (by rw [ByteArray.size_extract]; omega); omega)
       obtain ⟨ji27, hji27⟩ : ∃ j_ : Int, (wrap64 (t160 + 2)) = j_ := ⟨_, rfl⟩
       replace H : (if 0 ≤ (ji27) then (if (ji27) ≤ (t159.size : Int) then (if ((t159.extract 0 (t160 : Int).toNat) ++ t163).size + (t159.extract ((ji27) : Int).toNat t159.size).size ≤ 9223372036854775807 then (some (((t159.extract 0 (t160 : Int).toNat) ++ t163) ++ (t159.extract ((ji27) : Int).toNat t159.size))) else (none)) else (none)) else (none)) = some r := by first | (rw [hji27] at H; exact H) | (simp only [hji27] at H ⊢; exact H)
       (try rw [hji27] at A2)
       (try rw [hji27] at A4)
       (try rw [hji27] at A5)
       (try rw [hji27] at A25)
       have hji27w : (IntKind.i64.wrap (t160 + 2)) = ji27 := (i64_w _).trans hji27
       by_cases c28 : 0 ≤ (ji27)
       ·rw [if_pos c28] at H
        have c28b0 := eq_true c28
        have c28b1 : decide (0 ≤ (ji27)) = true := decide_eq_true c28
        clear c28
        by_cases c29 : (ji27) ≤ (t159.size : Int)
        ·rw [if_pos c29] at H
         have c29b0 := eq_true c29
         have c29b1 : decide ((ji27) ≤ (t159.size : Int)) = true := decide_eq_true c29
         clear c29
         by_cases c30 : ((t159.extract 0 (t160 : Int).toNat) ++ t163).size + (t159.extract ((ji27) : Int).toNat t159.size).size ≤ 9223372036854775807
         ·rw [if_pos c30] at H
          have c30b0 := eq_true c30
          have c30b1 : decide (((t159.extract 0 (t160 : Int).toNat) ++ t163).size + (t159.extract ((ji27) : Int).toNat t159.size).size ≤ 9223372036854775807) = true := decide_eq_true c30
          try have c30b2 : (9223372036854775807 < ((t159.extract 0 (t160 : Int).toNat) ++ t163).size + (t159.extract ((ji27) : Int).toNat t159.size).size) = False := eq_false (Nat.not_lt.2 c30)
          have c30b3 : (9223372036854775807 < t160.toNat + t163.size + (t159.size - ji27.toNat)) = False := eq_false (by have z1_ : decide (0 ≤ t160) = true := (by assumption); have z2_ : decide (t160 ≤ (t159.size : Int)) = true := (by assumption); have z3_ := of_decide_eq_true z1_; have z4_ := of_decide_eq_true z2_; have e_ : (t159.extract 0 (t160 : Int).toNat).size = (t160 : Int).toNat := (by rw [ByteArray.size_extract]; omega); have e2_ : ((t159.extract 0 (t160 : Int).toNat) ++ t163).size = (t159.extract 0 (t160 : Int).toNat).size + t163.size := ByteArray.size_append; have e3_ : (t159.extract (ji27 : Int).toNat t159.size).size = t159.size - (ji27 : Int).toNat := (by rw [ByteArray.size_extract]; omega); omega)
          obtain rfl := Option.some.inj H
          go_enter Tryz.func11, Tryz.ntmps11
          try go_wp2_with (first | ((with_reducible refine gate_dst (N := 1) rfl ?_); refine zbx 1 #[.int .i64 a0_0, .bool a0_1, .int .i64 a0_2] 23 ?_; intro gb157 hg w31 hbox hb; have BK157 := Aside0.mk (hbox); have GW157 := zs w hg; have GE157 := GW157; replace HB := zt w hb; clear hb hbox hg; have hcz32_0 := zc0 BK157; have hcz32_1 := zc1 BK157; have hcz32_2 := zc2 BK157; have hfz32_0 := blk_frozen BK157.out 0; have hfz32_1 := blk_frozen BK157.out 1; have hfz32_2 := blk_frozen BK157.out 2) | ((with_reducible refine gate_callee (f := 29) rfl ?_); refine zc (some 7) Tryz.func29 #[.agg #[.int .i64 a0_0, .bool a0_1, .int .i64 a0_2]] ?_; (with_reducible refine (spec_InsOk.calls k a0_0 a0_1 a0_2 true _ A2.out).mono ?_); rintro e w33 ⟨rfl, hb⟩; refine ⟨_, rfl, ?_⟩; replace BK157 := zk BK157 hb; replace HB := zt w hb; (try clear hb); (try clear hb2); (try clear hk); (try clear hi); have hcz34_0 := zc0 BK157; have hcz34_1 := zc1 BK157; have hcz34_2 := zc2 BK157; have hfz34_0 := blk_frozen BK157.out 0; have hfz34_1 := blk_frozen BK157.out 1; have hfz34_2 := blk_frozen BK157.out 2) | ((with_reducible refine gate_callee (f := 9) rfl ?_); refine zc (some 13) Tryz.func9 #[.int .i64 a0_0, .bool a0_1] ?_; (with_reducible refine (spec_l3Template.calls a0_0 a0_1 t159 _ A4.out).mono ?_); rintro e w35 ⟨rfl, hb⟩; refine ⟨_, rfl, ?_⟩; replace BK157 := zk BK157 hb; replace HB := zt w hb; (try clear hb); (try clear hb2); (try clear hk); (try clear hi)) | ((with_reducible refine gate_callee (f := 20) rfl ?_); refine zc (some 16) Tryz.func20 #[.string t159] ?_; (with_reducible refine (spec_l3Hole.calls k t159 t160 t161 _ A5.out).mono ?_); rintro e w36 ⟨rfl, hb⟩; refine ⟨_, rfl, ?_⟩; replace BK157 := zk BK157 hb; replace HB := zt w hb; (try clear hb); (try clear hb2); (try clear hk); (try clear hi)))
          have n0_ := Aside0.mk (blk_drew BK157.out)
          have n1_ := Aside0.mk (below_drew1 HB.out)
          clear BK157
          clear HB
          have BK157 := n0_
          have HB := n1_
          clear n0_ n1_
          refine start_ (n := 13) (S := fun w' => w'.cell? ⟨gb157, 0, none⟩ = some (.int .i64 a0_0) ∧ w'.cell? ⟨gb157, 1, none⟩ = some (.bool a0_1) ∧ w'.cell? ⟨gb157, 2, none⟩ = some (.int .i64 a0_2)) (ds := []) (zm 13 0) (by kernel_rfl) rfl rfl ⟨(blk_cell BK157.out 0).trans rfl, (blk_cell BK157.out 1).trans rfl, (blk_cell BK157.out 2).trans rfl⟩ (fun hHeld => ?_); refine with_tabW spec_InsText.tab9 spec_InsText.bits9 (fun HT_ HW_ => ?_)
          generalize w36.drew = w37 at BK157 HB hHeld ⊢
          refine zp 0 36 (zm 13 1) ?_
          refine zp 1 37 (zm 13 3) ?_
          refine zp 2 38 (zm 13 7) ?_
          refine zp 3 39 (zm 13 15) ?_
          refine zp 7 43 (zm 13 143) ?_
          refine zp 8 44 (zm 13 399) ?_
          refine zp 9 45 (zm 13 911) ?_
          refine zp 10 46 (zm 13 1935) ?_
          refine take_ (i := 4) (N := some 40) (v := ?_) (a' := ?_) (zm 13 1951) rfl rfl (take_ofW HT_.out HW_.out (by kernel_rfl)) (fun _ _ _ h => h) (Or.inl ⟨by rfl, ?_⟩) hHeld ?_ ?_
          rotate_left
          ·rintro w' ⟨s0, s1, s2⟩
           go_simp
           with_reducible rfl
          rotate_left
          ·simp only [Act.put, List.setIfInBounds_toArray, List.set_cons_zero, List.set_cons_succ, i64_w, i32_w]
           rfl
          refine one_ (i := 5) (N := some 41) (zm 13 1983) rfl rfl (one_of HT_.out (by kernel_rfl)) (by decide) (fun K hK => ?_)
          refine zi Tryz.func30 #[.int .i64 a0_2, .int .i64 2] ?_
          with_reducible refine (spec_HexOf.calls k a0_2 2 t163 _ A25.out).mono ?_
          rintro e w' ⟨rfl, ⟨nd, rfl⟩⟩
          refine ⟨_, rfl, ?_⟩
          refine hK.out _ _ ⟨(blk_cell BK157.out 0).trans rfl, (blk_cell BK157.out 1).trans rfl, (blk_cell BK157.out 2).trans rfl⟩ (fun hHeld => ?_)
          clear hK K
          refine zq ?_
          refine zp 6 42 (zm 13 2047) ?_
          refine zp 11 47 (zm 13 4095) ?_
          refine zp 12 2 (zm 13 8191) ?_
          refine done_ (done_of HT_.out (by kernel_rfl)) ?_
          try go_wp2
          first | go_ret | ((try simp only [Exit.inBlock, Exit.then]); apply bodyPost_ret; (exact results_tmp rfl _ _ _); rfl)
          exact ⟨by first | rfl | (simp [errW_none, errW_some] <;> rfl) | (simp only [← hji27]; first | rfl | (simp [errW_none, errW_some] <;> rfl)) | (simp [*, errW_none, errW_some] <;> rfl), zb _⟩
         ·rw [if_neg c30] at H
          exact absurd H (by simp)
        ·rw [if_neg c29] at H
         exact absurd H (by simp)
       ·rw [if_neg c28] at H
        exact absurd H (by simp)
      ·rw [if_neg c26] at H
       exact absurd H (by simp)
     ·rw [if_neg c24] at H
      exact absurd H (by simp)
    ·rw [if_neg c23] at H
     exact absurd H (by simp)
   ·rw [if_neg c22] at H
    have c22b0 : (t161.toList == ([110, 56] : List UInt8)) = false := beq_eq_false_iff_ne.mpr c22
    have c22b1 : (t161.toList != ([110, 56] : List UInt8)) = true := bne_iff_ne.mpr c22
    by_cases c38 : t161.toList = ([101, 56] : List UInt8)
    ·rw [if_pos c38] at H
     have c38b0 : (t161.toList == ([101, 56] : List UInt8)) = true := beq_iff_eq.mpr c38
     have c38b1 : (t161.toList != ([101, 56] : List UInt8)) = false := bne_eq_false_iff_eq.mpr c38
     clear c38
     by_cases c39 : 0 ≤ t160
     ·rw [if_pos c39] at H
      have c39b0 := eq_true c39
      have c39b1 : decide (0 ≤ t160) = true := decide_eq_true c39
      clear c39
      by_cases c40 : t160 ≤ (t159.size : Int)
      ·rw [if_pos c40] at H
       have c40b0 := eq_true c40
       have c40b1 : decide (t160 ≤ (t159.size : Int)) = true := decide_eq_true c40
       clear c40
       obtain ⟨t164, A410, H⟩ := Option.bind_eq_some_iff.mp H
       have A41 := Aside0.mk A410
       clear A410
       obtain ⟨t165, A420, H⟩ := Option.bind_eq_some_iff.mp H
       have A42 := Aside0.mk A420
       clear A420
       by_cases c43 : (t159.extract 0 (t160 : Int).toNat).size + t165.size ≤ 9223372036854775807
       ·rw [if_pos c43] at H
        have c43b0 := eq_true c43
        have c43b1 : decide ((t159.extract 0 (t160 : Int).toNat).size + t165.size ≤ 9223372036854775807) = true := decide_eq_true c43
        try have c43b2 : (9223372036854775807 < (t159.extract 0 (t160 : Int).toNat).size + t165.size) = False := eq_false (Nat.not_lt.2 c43)
        have c43b3 : (9223372036854775807 < t160.toNat + t165.size) = False := eq_false (by have z1_ : decide (0 ≤ t160) = true := (by assumption); have z2_ : decide (t160 ≤ (t159.size : Int)) = true := (by assumption); have z3_ := of_decide_eq_true z1_; have z4_ := of_decide_eq_true z2_; have e_ : (t159.extract 0 (t160 : Int).toNat).size = (t160 : Int).toNat := (by rw [ByteArray.size_extract]; omega); omega)
        obtain ⟨ji44, hji44⟩ : ∃ j_ : Int, (wrap64 (t160 + 2)) = j_ := ⟨_, rfl⟩
        replace H : (if 0 ≤ (ji44) then (if (ji44) ≤ (t159.size : Int) then (if ((t159.extract 0 (t160 : Int).toNat) ++ t165).size + (t159.extract ((ji44) : Int).toNat t159.size).size ≤ 9223372036854775807 then (some (((t159.extract 0 (t160 : Int).toNat) ++ t165) ++ (t159.extract ((ji44) : Int).toNat t159.size))) else (none)) else (none)) else (none)) = some r := by first | (rw [hji44] at H; exact H) | (simp only [hji44] at H ⊢; exact H)
        (try rw [hji44] at A2)
        (try rw [hji44] at A4)
        (try rw [hji44] at A5)
        (try rw [hji44] at A41)
        (try rw [hji44] at A42)
        have hji44w : (IntKind.i64.wrap (t160 + 2)) = ji44 := (i64_w _).trans hji44
        by_cases c45 : 0 ≤ (ji44)
        ·rw [if_pos c45] at H
         have c45b0 := eq_true c45
         have c45b1 : decide (0 ≤ (ji44)) = true := decide_eq_true c45
         clear c45
         by_cases c46 : (ji44) ≤ (t159.size : Int)
         ·rw [if_pos c46] at H
          have c46b0 := eq_true c46
          have c46b1 : decide ((ji44) ≤ (t159.size : Int)) = true := decide_eq_true c46
          clear c46
          by_cases c47 : ((t159.extract 0 (t160 : Int).toNat) ++ t165).size + (t159.extract ((ji44) : Int).toNat t159.size).size ≤ 9223372036854775807
          ·rw [if_pos c47] at H
           have c47b0 := eq_true c47
           have c47b1 : decide (((t159.extract 0 (t160 : Int).toNat) ++ t165).size + (t159.extract ((ji44) : Int).toNat t159.size).size ≤ 9223372036854775807) = true := decide_eq_true c47
           try have c47b2 : (9223372036854775807 < ((t159.extract 0 (t160 : Int).toNat) ++ t165).size + (t159.extract ((ji44) : Int).toNat t159.size).size) = False := eq_false (Nat.not_lt.2 c47)
           have c47b3 : (9223372036854775807 < t160.toNat + t165.size + (t159.size - ji44.toNat)) = False := eq_false (by have z1_ : decide (0 ≤ t160) = true := (by assumption); have z2_ : decide (t160 ≤ (t159.size : Int)) = true := (by assumption); have z3_ := of_decide_eq_true z1_; have z4_ := of_decide_eq_true z2_; have e_ : (t159.extract 0 (t160 : Int).toNat).size = (t160 : Int).toNat := (by rw [ByteArray.size_extract]; omega); have e2_ : ((t159.extract 0 (t160 : Int).toNat) ++ t165).size = (t159.extract 0 (t160 : Int).toNat).size + t165.size := ByteArray.size_append; have e3_ : (t159.extract (ji44 : Int).toNat t159.size).size = t159.size - (ji44 : Int).toNat := (by rw [ByteArray.size_extract]; omega); omega)
           obtain rfl := Option.some.inj H
           go_enter Tryz.func11, Tryz.ntmps11
           try go_wp2_with (first | ((with_reducible refine gate_dst (N := 1) rfl ?_); refine zbx 1 #[.int .i64 a0_0, .bool a0_1, .int .i64 a0_2] 23 ?_; intro gb157 hg w48 hbox hb; have BK157 := Aside0.mk (hbox); have GW157 := zs w hg; have GE157 := GW157; replace HB := zt w hb; clear hb hbox hg; have hcz49_0 := zc0 BK157; have hcz49_1 := zc1 BK157; have hcz49_2 := zc2 BK157; have hfz49_0 := blk_frozen BK157.out 0; have hfz49_1 := blk_frozen BK157.out 1; have hfz49_2 := blk_frozen BK157.out 2) | ((with_reducible refine gate_callee (f := 29) rfl ?_); refine zc (some 7) Tryz.func29 #[.agg #[.int .i64 a0_0, .bool a0_1, .int .i64 a0_2]] ?_; (with_reducible refine (spec_InsOk.calls k a0_0 a0_1 a0_2 true _ A2.out).mono ?_); rintro e w50 ⟨rfl, hb⟩; refine ⟨_, rfl, ?_⟩; replace BK157 := zk BK157 hb; replace HB := zt w hb; (try clear hb); (try clear hb2); (try clear hk); (try clear hi); have hcz51_0 := zc0 BK157; have hcz51_1 := zc1 BK157; have hcz51_2 := zc2 BK157; have hfz51_0 := blk_frozen BK157.out 0; have hfz51_1 := blk_frozen BK157.out 1; have hfz51_2 := blk_frozen BK157.out 2) | ((with_reducible refine gate_callee (f := 9) rfl ?_); refine zc (some 13) Tryz.func9 #[.int .i64 a0_0, .bool a0_1] ?_; (with_reducible refine (spec_l3Template.calls a0_0 a0_1 t159 _ A4.out).mono ?_); rintro e w52 ⟨rfl, hb⟩; refine ⟨_, rfl, ?_⟩; replace BK157 := zk BK157 hb; replace HB := zt w hb; (try clear hb); (try clear hb2); (try clear hk); (try clear hi)) | ((with_reducible refine gate_callee (f := 20) rfl ?_); refine zc (some 16) Tryz.func20 #[.string t159] ?_; (with_reducible refine (spec_l3Hole.calls k t159 t160 t161 _ A5.out).mono ?_); rintro e w53 ⟨rfl, hb⟩; refine ⟨_, rfl, ?_⟩; replace BK157 := zk BK157 hb; replace HB := zt w hb; (try clear hb); (try clear hb2); (try clear hk); (try clear hi)))
           have n0_ := Aside0.mk (blk_drew BK157.out)
           have n1_ := Aside0.mk (below_drew1 HB.out)
           clear BK157
           clear HB
           have BK157 := n0_
           have HB := n1_
           clear n0_ n1_
           refine start_ (n := 14) (S := fun w' => w'.cell? ⟨gb157, 0, none⟩ = some (.int .i64 a0_0) ∧ w'.cell? ⟨gb157, 1, none⟩ = some (.bool a0_1) ∧ w'.cell? ⟨gb157, 2, none⟩ = some (.int .i64 a0_2)) (ds := []) (zm 14 0) (by kernel_rfl) rfl rfl ⟨(blk_cell BK157.out 0).trans rfl, (blk_cell BK157.out 1).trans rfl, (blk_cell BK157.out 2).trans rfl⟩ (fun hHeld => ?_); refine with_tabW spec_InsText.tab11 spec_InsText.bits11 (fun HT_ HW_ => ?_)
           generalize w53.drew = w54 at BK157 HB hHeld ⊢
           refine zp 0 50 (zm 14 1) ?_
           refine zp 1 51 (zm 14 3) ?_
           refine zp 2 52 (zm 14 7) ?_
           refine zp 3 53 (zm 14 15) ?_
           refine zp 8 58 (zm 14 271) ?_
           refine zp 9 59 (zm 14 783) ?_
           refine zp 10 60 (zm 14 1807) ?_
           refine zp 11 61 (zm 14 3855) ?_
           refine take_ (i := 4) (N := some 54) (v := ?_) (a' := ?_) (zm 14 3871) rfl rfl (take_ofW HT_.out HW_.out (by kernel_rfl)) (fun _ _ _ h => h) (Or.inl ⟨by rfl, ?_⟩) hHeld ?_ ?_
           rotate_left
           ·rintro w' ⟨s0, s1, s2⟩
            go_simp
            with_reducible rfl
           rotate_left
           ·simp only [Act.put, List.setIfInBounds_toArray, List.set_cons_zero, List.set_cons_succ, i64_w, i32_w]
            rfl
           refine one_ (i := 5) (N := some 55) (zm 14 3903) rfl rfl (one_of HT_.out (by kernel_rfl)) (by decide) (fun K hK => ?_)
           refine zi Tryz.func31 #[.int .i64 a0_2] ?_
           with_reducible refine (spec_SignedOf.calls a0_2 t164 _ A41.out).mono ?_
           rintro e w' ⟨rfl, ⟨nd, rfl⟩⟩
           refine ⟨_, rfl, ?_⟩
           refine hK.out _ _ ⟨(blk_cell BK157.out 0).trans rfl, (blk_cell BK157.out 1).trans rfl, (blk_cell BK157.out 2).trans rfl⟩ (fun hHeld => ?_)
           clear hK K
           refine zq ?_
           refine one_ (i := 6) (N := some 56) (zm 14 3967) rfl rfl (one_of HT_.out (by kernel_rfl)) (by decide) (fun K hK => ?_)
           refine zi Tryz.func23 #[.int .i64 t164] ?_
           with_reducible refine (spec_l1Dec.calls k t164 t165 _ A42.out).mono ?_
           rintro e w55 ⟨rfl, hb⟩
           refine ⟨_, rfl, ?_⟩
           have n0_ := zk BK157 hb
           have n1_ := zt w hb
           clear BK157
           clear HB
           have BK157 := n0_
           have HB := n1_
           clear n0_ n1_
           (try clear hb)
           (try clear hb2)
           (try clear hk)
           (try clear hi)
           refine hK.out _ _ ⟨(blk_cell BK157.out 0).trans rfl, (blk_cell BK157.out 1).trans rfl, (blk_cell BK157.out 2).trans rfl⟩ (fun hHeld => ?_)
           clear hK K
           refine zq ?_
           refine zp 7 57 (zm 14 4095) ?_
           refine zp 12 62 (zm 14 8191) ?_
           refine zp 13 2 (zm 14 16383) ?_
           refine done_ (done_of HT_.out (by kernel_rfl)) ?_
           try go_wp2
           first | go_ret | ((try simp only [Exit.inBlock, Exit.then]); apply bodyPost_ret; (exact results_tmp rfl _ _ _); rfl)
           exact ⟨by first | rfl | (simp [errW_none, errW_some] <;> rfl) | (simp only [← hji44]; first | rfl | (simp [errW_none, errW_some] <;> rfl)) | (simp [*, errW_none, errW_some] <;> rfl), zb _⟩
          ·rw [if_neg c47] at H
           exact absurd H (by simp)
         ·rw [if_neg c46] at H
          exact absurd H (by simp)
        ·rw [if_neg c45] at H
         exact absurd H (by simp)
       ·rw [if_neg c43] at H
        exact absurd H (by simp)
      ·rw [if_neg c40] at H
       exact absurd H (by simp)
     ·rw [if_neg c39] at H
      exact absurd H (by simp)
    ·rw [if_neg c38] at H
     have c38b0 : (t161.toList == ([101, 56] : List UInt8)) = false := beq_eq_false_iff_ne.mpr c38
     have c38b1 : (t161.toList != ([101, 56] : List UInt8)) = true := bne_iff_ne.mpr c38
     obtain rfl := Option.some.inj H
     go_enter Tryz.func11, Tryz.ntmps11
     go_wp2_with (first | ((with_reducible refine gate_dst (N := 1) rfl ?_); refine zbx 1 #[.int .i64 a0_0, .bool a0_1, .int .i64 a0_2] 23 ?_; intro gb157 hg w56 hbox hb; have BK157 := Aside0.mk (hbox); have GW157 := zs w hg; have GE157 := GW157; replace HB := zt w hb; clear hb hbox hg; have hcz57_0 := zc0 BK157; have hcz57_1 := zc1 BK157; have hcz57_2 := zc2 BK157; have hfz57_0 := blk_frozen BK157.out 0; have hfz57_1 := blk_frozen BK157.out 1; have hfz57_2 := blk_frozen BK157.out 2) | ((with_reducible refine gate_callee (f := 29) rfl ?_); refine zc (some 7) Tryz.func29 #[.agg #[.int .i64 a0_0, .bool a0_1, .int .i64 a0_2]] ?_; (with_reducible refine (spec_InsOk.calls k a0_0 a0_1 a0_2 true _ A2.out).mono ?_); rintro e w58 ⟨rfl, hb⟩; refine ⟨_, rfl, ?_⟩; replace BK157 := zk BK157 hb; replace HB := zt w hb; (try clear hb); (try clear hb2); (try clear hk); (try clear hi); have hcz59_0 := zc0 BK157; have hcz59_1 := zc1 BK157; have hcz59_2 := zc2 BK157; have hfz59_0 := blk_frozen BK157.out 0; have hfz59_1 := blk_frozen BK157.out 1; have hfz59_2 := blk_frozen BK157.out 2) | ((with_reducible refine gate_callee (f := 9) rfl ?_); refine zc (some 13) Tryz.func9 #[.int .i64 a0_0, .bool a0_1] ?_; (with_reducible refine (spec_l3Template.calls a0_0 a0_1 t159 _ A4.out).mono ?_); rintro e w60 ⟨rfl, hb⟩; refine ⟨_, rfl, ?_⟩; replace BK157 := zk BK157 hb; replace HB := zt w hb; (try clear hb); (try clear hb2); (try clear hk); (try clear hi)) | ((with_reducible refine gate_callee (f := 20) rfl ?_); refine zc (some 16) Tryz.func20 #[.string t159] ?_; (with_reducible refine (spec_l3Hole.calls k t159 t160 t161 _ A5.out).mono ?_); rintro e w61 ⟨rfl, hb⟩; refine ⟨_, rfl, ?_⟩; replace BK157 := zk BK157 hb; replace HB := zt w hb; (try clear hb); (try clear hb2); (try clear hk); (try clear hi)))
     first | go_ret | ((try simp only [Exit.inBlock, Exit.then]); apply bodyPost_ret; (exact results_tmp rfl _ _ _); rfl)
     exact ⟨ze _, zb _⟩
 ·replace c3 := Bool.eq_false_iff.mpr c3
  subst c3
  rw [if_neg (show ¬ (false = true) by decide)] at H
  obtain rfl := Option.some.inj H
  go_enter Tryz.func11, Tryz.ntmps11
  go_wp2_with (first | ((with_reducible refine gate_dst (N := 1) rfl ?_); refine zbx 1 #[.int .i64 a0_0, .bool a0_1, .int .i64 a0_2] 23 ?_; intro gb157 hg w62 hbox hb; have BK157 := Aside0.mk (hbox); have GW157 := zs w hg; have GE157 := GW157; replace HB := zt w hb; clear hb hbox hg; have hcz63_0 := zc0 BK157; have hcz63_1 := zc1 BK157; have hcz63_2 := zc2 BK157; have hfz63_0 := blk_frozen BK157.out 0; have hfz63_1 := blk_frozen BK157.out 1; have hfz63_2 := blk_frozen BK157.out 2) | ((with_reducible refine gate_callee (f := 29) rfl ?_); refine zc (some 7) Tryz.func29 #[.agg #[.int .i64 a0_0, .bool a0_1, .int .i64 a0_2]] ?_; (with_reducible refine (spec_InsOk.calls k a0_0 a0_1 a0_2 false _ A2.out).mono ?_); rintro e w64 ⟨rfl, hb⟩; refine ⟨_, rfl, ?_⟩; replace BK157 := zk BK157 hb; replace HB := zt w hb; (try clear hb); (try clear hb2); (try clear hk); (try clear hi)))
  first | go_ret | ((try simp only [Exit.inBlock, Exit.then]); apply bodyPost_ret; (exact results_tmp rfl _ _ _); rfl)
  exact ⟨ze _, zb _⟩

end Go.Proofs.YtmiebnpmckjidaaGreatDoor.PFnExactReadInsText
