/- What the Go functions that the law FnExactReadInsText reaches compute, function by function, and that Go comes to just that. -/
import Derived.Test.YtmiebnpmckjidaaGreatDoorPFnExactReadInsTextx0
import Derived.Test.YtmiebnpmckjidaaGreatDoorAidZ
import Derived.Test.YtmiebnpmckjidaaGreatDoorPFnExactReadInsTextx2
namespace Go.Proofs.YtmiebnpmckjidaaGreatDoor.PFnExactReadInsText
open Go.RowKit Go.Proofs.YtmiebnpmckjidaaGreatDoor.Z Go.Proofs.YtmiebnpmckjidaaGreatDoorW.PrintWords Go.Proofs.YtmiebnpmckjidaaGreatDoorW.PrintLast Go.Proofs.YtmiebnpmckjidaaGreatDoorW.PrintMore
attribute [local go_sem] max2_int min2_int max_two min_two max_three min_three max_four min_four   -- for this text's walks alone
set_option linter.unusedVariables false
set_option linter.unusedSimpArgs false

/-! ### spec_l3Length: function 7 -/
def spec_l3Length.f (k : Nat) (a0 : Int) (a1 : Bool) : Option (Int) := (spec_l3Template.f a0 a1).bind fun t129 => (if t129.toList = ([] : List UInt8) then (some 0) else (if a1 = true then (some 2) else ((spec_l3Hole.f k t129).bind fun bt130 => (if bt130.2.toList = ([] : List UInt8) then (some 1) else (if bt130.2.toList = ([110, 49, 54] : List UInt8) then (some 3) else (some 2))))))
theorem spec_l3Length.mono : ∀ a0 a1 k, LeO (spec_l3Length.f k a0 a1) (spec_l3Length.f (k + 1) a0 a1) := by
  intro a0 a1 k
  unfold spec_l3Length.f
  repeat' first
      | (with_reducible exact spec_l3Hole.mono _ _)
      | (with_reducible exact LeO.refl _)
      | (with_reducible exact LeO.none _)
      | (with_reducible refine LeO.ite ?_ ?_)
      | (with_reducible refine LeO.bind ?_ (fun _ => ?_))
      | exact spec_l3Hole.mono _ _
      | exact LeO.none _
      | refine LeO.ite ?_ ?_
      | refine LeO.bind ?_ (fun _ => ?_)
set_option maxHeartbeats 8000000 in
set_option maxRecDepth 100000 in
theorem spec_l3Length.calls (k : Nat) (a0 : Int) (a1 : Bool) (r : Int) (w : World) (h : spec_l3Length.f k a0 a1 = some r) :
 Calls Tryz.prog 7 #[.int .i64 a0, .bool a1] w fun e w' => e = .returned (.int .i64 r) ∧ Below w.heap.size w w' := by
 have HB := Aside0.mk (Below.refl w.heap.size w)
 have H : ((spec_l3Template.f a0 a1).bind fun t129 => (if t129.toList = ([] : List UInt8) then (some 0) else (if a1 = true then (some 2) else ((spec_l3Hole.f k t129).bind fun bt130 => (if bt130.2.toList = ([] : List UInt8) then (some 1) else (if bt130.2.toList = ([110, 49, 54] : List UInt8) then (some 3) else (some 2))))))) = some r := h
 clear h
 obtain ⟨t129, A30, H⟩ := Option.bind_eq_some_iff.mp H
 have A3 := Aside0.mk A30
 clear A30
 by_cases c4 : t129.toList = ([] : List UInt8)
 ·rw [if_pos c4] at H
  have c4b0 : (t129.toList == ([] : List UInt8)) = true := beq_iff_eq.mpr c4
  have c4b1 : (t129.toList != ([] : List UInt8)) = false := bne_eq_false_iff_eq.mpr c4
  clear c4
  obtain rfl := Option.some.inj H
  go_enter Tryz.func7, Tryz.ntmps7
  go_wp2_with (first | ((with_reducible refine gate_callee (f := 9) rfl ?_); refine zc (some 10) Tryz.func9 #[.int .i64 a0, .bool a1] ?_; (with_reducible refine (spec_l3Template.calls a0 a1 t129 _ A3.out).mono ?_); rintro e w5 ⟨rfl, hb⟩; refine ⟨_, rfl, ?_⟩; replace HB := zt w hb; (try clear hb); (try clear hb2); (try clear hk); (try clear hi)))
  first | go_ret | ((try simp only [Exit.inBlock, Exit.then]); apply bodyPost_ret; (exact results_tmp rfl _ _ _); rfl)
  exact ⟨ze _, zb _⟩
 ·rw [if_neg c4] at H
  have c4b0 : (t129.toList == ([] : List UInt8)) = false := beq_eq_false_iff_ne.mpr c4
  have c4b1 : (t129.toList != ([] : List UInt8)) = true := bne_iff_ne.mpr c4
  by_cases c6 : a1 = true
  ·subst c6
   rw [if_pos rfl] at H
   obtain rfl := Option.some.inj H
   go_enter Tryz.func7, Tryz.ntmps7
   go_wp2_with (first | ((with_reducible refine gate_callee (f := 9) rfl ?_); refine zc (some 10) Tryz.func9 #[.int .i64 a0, .bool true] ?_; (with_reducible refine (spec_l3Template.calls a0 true t129 _ A3.out).mono ?_); rintro e w7 ⟨rfl, hb⟩; refine ⟨_, rfl, ?_⟩; replace HB := zt w hb; (try clear hb); (try clear hb2); (try clear hk); (try clear hi)))
   first | go_ret | ((try simp only [Exit.inBlock, Exit.then]); apply bodyPost_ret; (exact results_tmp rfl _ _ _); rfl)
   exact ⟨ze _, zb _⟩
  ·replace c6 := Bool.eq_false_iff.mpr c6
   subst c6
   rw [if_neg (show ¬ (false = true) by decide)] at H
   replace H := Option.bind_eq_some_iff.mp H
   obtain ⟨⟨t130, t131⟩, A80, H⟩ := H
   replace H : (if t131.toList = ([] : List UInt8) then (some 1) else (if t131.toList = ([110, 49, 54] : List UInt8) then (some 3) else (some 2))) = some r := H
   have A8 := Aside0.mk A80
   clear A80
   by_cases c9 : t131.toList = ([] : List UInt8)
   ·rw [if_pos c9] at H
    have c9b0 : (t131.toList == ([] : List UInt8)) = true := beq_iff_eq.mpr c9
    have c9b1 : (t131.toList != ([] : List UInt8)) = false := bne_eq_false_iff_eq.mpr c9
    clear c9
    obtain rfl := Option.some.inj H
    go_enter Tryz.func7, Tryz.ntmps7
    go_wp2_with (first | ((with_reducible refine gate_callee (f := 9) rfl ?_); refine zc (some 10) Tryz.func9 #[.int .i64 a0, .bool false] ?_; (with_reducible refine (spec_l3Template.calls a0 false t129 _ A3.out).mono ?_); rintro e w10 ⟨rfl, hb⟩; refine ⟨_, rfl, ?_⟩; replace HB := zt w hb; (try clear hb); (try clear hb2); (try clear hk); (try clear hi)) | ((with_reducible refine gate_callee (f := 20) rfl ?_); refine zc (some 16) Tryz.func20 #[.string t129] ?_; (with_reducible refine (spec_l3Hole.calls k t129 t130 t131 _ A8.out).mono ?_); rintro e w11 ⟨rfl, hb⟩; refine ⟨_, rfl, ?_⟩; replace HB := zt w hb; (try clear hb); (try clear hb2); (try clear hk); (try clear hi)))
    first | go_ret | ((try simp only [Exit.inBlock, Exit.then]); apply bodyPost_ret; (exact results_tmp rfl _ _ _); rfl)
    exact ⟨ze _, zb _⟩
   ·rw [if_neg c9] at H
    have c9b0 : (t131.toList == ([] : List UInt8)) = false := beq_eq_false_iff_ne.mpr c9
    have c9b1 : (t131.toList != ([] : List UInt8)) = true := bne_iff_ne.mpr c9
    by_cases c12 : t131.toList = ([110, 49, 54] : List UInt8)
    ·rw [if_pos c12] at H
     have c12b0 : (t131.toList == ([110, 49, 54] : List UInt8)) = true := beq_iff_eq.mpr c12
     have c12b1 : (t131.toList != ([110, 49, 54] : List UInt8)) = false := bne_eq_false_iff_eq.mpr c12
     clear c12
     obtain rfl := Option.some.inj H
     go_enter Tryz.func7, Tryz.ntmps7
     go_wp2_with (first | ((with_reducible refine gate_callee (f := 9) rfl ?_); refine zc (some 10) Tryz.func9 #[.int .i64 a0, .bool false] ?_; (with_reducible refine (spec_l3Template.calls a0 false t129 _ A3.out).mono ?_); rintro e w13 ⟨rfl, hb⟩; refine ⟨_, rfl, ?_⟩; replace HB := zt w hb; (try clear hb); (try clear hb2); (try clear hk); (try clear hi)) | ((with_reducible refine gate_callee (f := 20) rfl ?_); refine zc (some 16) Tryz.func20 #[.string t129] ?_; (with_reducible refine (spec_l3Hole.calls k t129 t130 t131 _ A8.out).mono ?_); rintro e w14 ⟨rfl, hb⟩; refine ⟨_, rfl, ?_⟩; replace HB := zt w hb; (try clear hb); (try clear hb2); (try clear hk); (try clear hi)))
     first | go_ret | ((try simp only [Exit.inBlock, Exit.then]); apply bodyPost_ret; (exact results_tmp rfl _ _ _); rfl)
     exact ⟨ze _, zb _⟩
    ·rw [if_neg c12] at H
     have c12b0 : (t131.toList == ([110, 49, 54] : List UInt8)) = false := beq_eq_false_iff_ne.mpr c12
     have c12b1 : (t131.toList != ([110, 49, 54] : List UInt8)) = true := bne_iff_ne.mpr c12
     obtain rfl := Option.some.inj H
     go_enter Tryz.func7, Tryz.ntmps7
     go_wp2_with (first | ((with_reducible refine gate_callee (f := 9) rfl ?_); refine zc (some 10) Tryz.func9 #[.int .i64 a0, .bool false] ?_; (with_reducible refine (spec_l3Template.calls a0 false t129 _ A3.out).mono ?_); rintro e w15 ⟨rfl, hb⟩; refine ⟨_, rfl, ?_⟩; replace HB := zt w hb; (try clear hb); (try clear hb2); (try clear hk); (try clear hi)) | ((with_reducible refine gate_callee (f := 20) rfl ?_); refine zc (some 16) Tryz.func20 #[.string t129] ?_; (with_reducible refine (spec_l3Hole.calls k t129 t130 t131 _ A8.out).mono ?_); rintro e w16 ⟨rfl, hb⟩; refine ⟨_, rfl, ?_⟩; replace HB := zt w hb; (try clear hb); (try clear hb2); (try clear hk); (try clear hi)))
     first | go_ret | ((try simp only [Exit.inBlock, Exit.then]); apply bodyPost_ret; (exact results_tmp rfl _ _ _); rfl)
     exact ⟨ze _, zb _⟩

/-! ### spec_l3Fits: function 8 -/
def spec_l3Fits.f (k : Nat) (a0 : ByteArray) (a1 : ByteArray) : Option (ByteArray × Bool) := (spec_l3Hole.f k a1).bind fun bt132 => (if bt132.1 < 0 then (some ((⟨#[]⟩ : ByteArray), (a0.toList == a1.toList))) else (if 0 ≤ (wrap64 (bt132.1 + (bt132.2.size : Int))) then (if (wrap64 (bt132.1 + (bt132.2.size : Int))) ≤ (a1.size : Int) then (if (a0.size : Int) ≤ (wrap64 (bt132.1 + ((a1.extract ((wrap64 (bt132.1 + (bt132.2.size : Int))) : Int).toNat a1.size).size : Int))) then (some ((⟨#[]⟩ : ByteArray), false)) else (if 0 ≤ bt132.1 then (if bt132.1 ≤ (a0.size : Int) then (if bt132.1 ≤ (a1.size : Int) then (if (a0.extract 0 (bt132.1 : Int).toNat).toList = (a1.extract 0 (bt132.1 : Int).toNat).toList then (if 0 ≤ (wrap64 ((a0.size : Int) - ((a1.extract ((wrap64 (bt132.1 + (bt132.2.size : Int))) : Int).toNat a1.size).size : Int))) then (if (wrap64 ((a0.size : Int) - ((a1.extract ((wrap64 (bt132.1 + (bt132.2.size : Int))) : Int).toNat a1.size).size : Int))) ≤ (a0.size : Int) then (if (a0.extract ((wrap64 ((a0.size : Int) - ((a1.extract ((wrap64 (bt132.1 + (bt132.2.size : Int))) : Int).toNat a1.size).size : Int))) : Int).toNat a0.size).toList = (a1.extract ((wrap64 (bt132.1 + (bt132.2.size : Int))) : Int).toNat a1.size).toList then (if bt132.1 ≤ (wrap64 ((a0.size : Int) - ((a1.extract ((wrap64 (bt132.1 + (bt132.2.size : Int))) : Int).toNat a1.size).size : Int))) then (some (a0.extract (bt132.1 : Int).toNat ((wrap64 ((a0.size : Int) - ((a1.extract ((wrap64 (bt132.1 + (bt132.2.size : Int))) : Int).toNat a1.size).size : Int))) : Int).toNat, true)) else (none)) else (some ((⟨#[]⟩ : ByteArray), false))) else (none)) else (none)) else (some ((⟨#[]⟩ : ByteArray), false))) else (none)) else (none)) else (none))) else (none)) else (none)))
theorem spec_l3Fits.mono : ∀ a0 a1 k, LeO (spec_l3Fits.f k a0 a1) (spec_l3Fits.f (k + 1) a0 a1) := by
  intro a0 a1 k
  unfold spec_l3Fits.f
  repeat' first
      | (with_reducible exact spec_l3Hole.mono _ _)
      | (with_reducible exact LeO.refl _)
      | (with_reducible exact LeO.none _)
      | (with_reducible refine LeO.ite ?_ ?_)
      | (with_reducible refine LeO.bind ?_ (fun _ => ?_))
      | exact spec_l3Hole.mono _ _
      | exact LeO.none _
      | refine LeO.ite ?_ ?_
      | refine LeO.bind ?_ (fun _ => ?_)
set_option maxHeartbeats 8000000 in
set_option maxRecDepth 100000 in
theorem spec_l3Fits.calls (k : Nat) (a0 : ByteArray) (a1 : ByteArray) (r1 : ByteArray) (r2 : Bool) (w : World) (h : spec_l3Fits.f k a0 a1 = some (r1, r2)) :
 Calls Tryz.prog 8 #[.string a0, .string a1] w fun e w' => e = .returned (.tuple #[.string r1, .bool r2]) ∧ Below w.heap.size w w' := by
 have HB := Aside0.mk (Below.refl w.heap.size w)
 have H : ((spec_l3Hole.f k a1).bind fun bt132 => (if bt132.1 < 0 then (some ((⟨#[]⟩ : ByteArray), (a0.toList == a1.toList))) else (if 0 ≤ (wrap64 (bt132.1 + (bt132.2.size : Int))) then (if (wrap64 (bt132.1 + (bt132.2.size : Int))) ≤ (a1.size : Int) then (if (a0.size : Int) ≤ (wrap64 (bt132.1 + ((a1.extract ((wrap64 (bt132.1 + (bt132.2.size : Int))) : Int).toNat a1.size).size : Int))) then (some ((⟨#[]⟩ : ByteArray), false)) else (if 0 ≤ bt132.1 then (if bt132.1 ≤ (a0.size : Int) then (if bt132.1 ≤ (a1.size : Int) then (if (a0.extract 0 (bt132.1 : Int).toNat).toList = (a1.extract 0 (bt132.1 : Int).toNat).toList then (if 0 ≤ (wrap64 ((a0.size : Int) - ((a1.extract ((wrap64 (bt132.1 + (bt132.2.size : Int))) : Int).toNat a1.size).size : Int))) then (if (wrap64 ((a0.size : Int) - ((a1.extract ((wrap64 (bt132.1 + (bt132.2.size : Int))) : Int).toNat a1.size).size : Int))) ≤ (a0.size : Int) then (if (a0.extract ((wrap64 ((a0.size : Int) - ((a1.extract ((wrap64 (bt132.1 + (bt132.2.size : Int))) : Int).toNat a1.size).size : Int))) : Int).toNat a0.size).toList = (a1.extract ((wrap64 (bt132.1 + (bt132.2.size : Int))) : Int).toNat a1.size).toList then (if bt132.1 ≤ (wrap64 ((a0.size : Int) - ((a1.extract ((wrap64 (bt132.1 + (bt132.2.size : Int))) : Int).toNat a1.size).size : Int))) then (some (a0.extract (bt132.1 : Int).toNat ((wrap64 ((a0.size : Int) - ((a1.extract ((wrap64 (bt132.1 + (bt132.2.size : Int))) : Int).toNat a1.size).size : Int))) : Int).toNat, true)) else (none)) else (some ((⟨#[]⟩ : ByteArray), false))) else (none)) else (none)) else (some ((⟨#[]⟩ : ByteArray), false))) else (none)) else (none)) else (none))) else (none)) else (none)))) = some (r1, r2) := h
 clear h
 replace H := Option.bind_eq_some_iff.mp H
 obtain ⟨⟨t132, t133⟩, A30, H⟩ := H
 replace H : (if t132 < 0 then (some ((⟨#[]⟩ : ByteArray), (a0.toList == a1.toList))) else (if 0 ≤ (wrap64 (t132 + (t133.size : Int))) then (if (wrap64 (t132 + (t133.size : Int))) ≤ (a1.size : Int) then (if (a0.size : Int) ≤ (wrap64 (t132 + ((a1.extract ((wrap64 (t132 + (t133.size : Int))) : Int).toNat a1.size).size : Int))) then (some ((⟨#[]⟩ : ByteArray), false)) else (if 0 ≤ t132 then (if t132 ≤ (a0.size : Int) then (if t132 ≤ (a1.size : Int) then (if (a0.extract 0 (t132 : Int).toNat).toList = (a1.extract 0 (t132 : Int).toNat).toList then (if 0 ≤ (wrap64 ((a0.size : Int) - ((a1.extract ((wrap64 (t132 + (t133.size : Int))) : Int).toNat a1.size).size : Int))) then (if (wrap64 ((a0.size : Int) - ((a1.extract ((wrap64 (t132 + (t133.size : Int))) : Int).toNat a1.size).size : Int))) ≤ (a0.size : Int) then (if (a0.extract ((wrap64 ((a0.size : Int) - ((a1.extract ((wrap64 (t132 + (t133.size : Int))) : Int).toNat a1.size).size : Int))) : Int).toNat a0.size).toList = (a1.extract ((wrap64 (t132 + (t133.size : Int))) : Int).toNat a1.size).toList then (if t132 ≤ (wrap64 ((a0.size : Int) - ((a1.extract ((wrap64 (t132 + (t133.size : Int))) : Int).toNat a1.size).size : Int))) then (some (a0.extract (t132 : Int).toNat ((wrap64 ((a0.size : Int) - ((a1.extract ((wrap64 (t132 + (t133.size : Int))) : Int).toNat a1.size).size : Int))) : Int).toNat, true)) else (none)) else (some ((⟨#[]⟩ : ByteArray), false))) else (none)) else (none)) else (some ((⟨#[]⟩ : ByteArray), false))) else (none)) else (none)) else (none))) else (none)) else (none))) = some (r1, r2) := H
 have A3 := Aside0.mk A30
 clear A30
 by_cases c4 : t132 < 0
 ·rw [if_pos c4] at H
  have c4b0 : decide (t132 < 0) = true := decide_eq_true c4
  clear c4
  simp only [Option.some.injEq, Prod.mk.injEq] at H
  obtain ⟨rfl, rfl⟩ := H
  go_enter Tryz.func8, Tryz.ntmps8
  go_wp2_with (first | (go_at_call 20; (with_reducible refine (spec_l3Hole.calls k a1 t132 t133 _ A3.out).mono ?_); rintro e w5 ⟨rfl, hb⟩; replace HB := zt w hb; (try clear hb); (try clear hb2); (try clear hk); (try clear hi)))
  repeat (go_quiet (first | (go_at_call 20; (with_reducible refine (spec_l3Hole.calls k a1 t132 t133 _ A3.out).mono ?_); rintro e w5 ⟨rfl, hb⟩; replace HB := zt w hb; (try clear hb); (try clear hb2); (try clear hk); (try clear hi))); try go_wp2_with (first | (go_at_call 20; (with_reducible refine (spec_l3Hole.calls k a1 t132 t133 _ A3.out).mono ?_); rintro e w5 ⟨rfl, hb⟩; replace HB := zt w hb; (try clear hb); (try clear hb2); (try clear hk); (try clear hi))))
  go_ret2
  exact ⟨ze _, zb _⟩
 ·rw [if_neg c4] at H
  have c4b0 : decide (t132 < 0) = false := decide_eq_false c4
  clear c4
  obtain ⟨ji6, hji6⟩ : ∃ j_ : Int, (wrap64 (t132 + (t133.size : Int))) = j_ := ⟨_, rfl⟩
  replace H : (if 0 ≤ (ji6) then (if (ji6) ≤ (a1.size : Int) then (if (a0.size : Int) ≤ (wrap64 (t132 + ((a1.extract ((ji6) : Int).toNat a1.size).size : Int))) then (some ((⟨#[]⟩ : ByteArray), false)) else (if 0 ≤ t132 then (if t132 ≤ (a0.size : Int) then (if t132 ≤ (a1.size : Int) then (if (a0.extract 0 (t132 : Int).toNat).toList = (a1.extract 0 (t132 : Int).toNat).toList then (if 0 ≤ (wrap64 ((a0.size : Int) - ((a1.extract ((ji6) : Int).toNat a1.size).size : Int))) then (if (wrap64 ((a0.size : Int) - ((a1.extract ((ji6) : Int).toNat a1.size).size : Int))) ≤ (a0.size : Int) then (if (a0.extract ((wrap64 ((a0.size : Int) - ((a1.extract ((ji6) : Int).toNat a1.size).size : Int))) : Int).toNat a0.size).toList = (a1.extract ((ji6) : Int).toNat a1.size).toList then (if t132 ≤ (wrap64 ((a0.size : Int) - ((a1.extract ((ji6) : Int).toNat a1.size).size : Int))) then (some (a0.extract (t132 : Int).toNat ((wrap64 ((a0.size : Int) - ((a1.extract ((ji6) : Int).toNat a1.size).size : Int))) : Int).toNat, true)) else (none)) else (some ((⟨#[]⟩ : ByteArray), false))) else (none)) else (none)) else (some ((⟨#[]⟩ : ByteArray), false))) else (none)) else (none)) else (none))) else (none)) else (none)) = some (r1, r2) := by first | (rw [hji6] at H; exact H) | (simp only [hji6] at H ⊢; exact H)
  (try rw [hji6] at A3)
  have hji6w : (IntKind.i64.wrap (t132 + (t133.size : Int))) = ji6 := (i64_w _).trans hji6
  by_cases c7 : 0 ≤ (ji6)
  ·rw [if_pos c7] at H
   have c7b0 := eq_true c7
   have c7b1 : decide (0 ≤ (ji6)) = true := decide_eq_true c7
   clear c7
   by_cases c8 : (ji6) ≤ (a1.size : Int)
   ·rw [if_pos c8] at H
    have c8b0 := eq_true c8
    have c8b1 : decide ((ji6) ≤ (a1.size : Int)) = true := decide_eq_true c8
    clear c8
    by_cases c9 : (a0.size : Int) ≤ (wrap64 (t132 + ((a1.extract ((ji6) : Int).toNat a1.size).size : Int)))
    ·rw [if_pos c9] at H
     have c9b0 : decide ((a0.size : Int) ≤ (wrap64 (t132 + ((a1.extract ((ji6) : Int).toNat a1.size).size : Int)))) = true := decide_eq_true c9
     have c9b3 : decide ((a0.size : Int) ≤ (wrap64 (t132 + ((a1.size - (ji6 : Int).toNat : Nat) : Int)))) = true := by have e9_ : (a1.extract (ji6 : Int).toNat a1.size).size = a1.size - (ji6 : Int).toNat := (by rw [ByteArray.size_extract]; omega); rw [e9_] at c9b0; exact c9b0
     have c9b4 : decide ((a0.size : Int) ≤ (wrap64 (t132 + ((a1.size : Int) - ((ji6 : Int).toNat : Int))))) = true := by have z9_ := of_decide_eq_true (show decide ((ji6) ≤ (a1.size : Int)) = true by assumption); have y9_ := of_decide_eq_true (show decide (0 ≤ (ji6)) = true by assumption); have x9_ : ((a1.size - (ji6 : Int).toNat : Nat) : Int) = (a1.size : Int) - ((ji6 : Int).toNat : Int) := (by omega); rw [x9_] at c9b3; exact c9b3
     clear c9
     simp only [Option.some.injEq, Prod.mk.injEq] at H
     obtain ⟨rfl, rfl⟩ := H
     go_enter Tryz.func8, Tryz.ntmps8
     go_wp2_with (first | (go_at_call 20; (with_reducible refine (spec_l3Hole.calls k a1 t132 t133 _ A3.out).mono ?_); rintro e w10 ⟨rfl, hb⟩; replace HB := zt w hb; (try clear hb); (try clear hb2); (try clear hk); (try clear hi)))
     repeat (go_quiet (first | (go_at_call 20; (with_reducible refine (spec_l3Hole.calls k a1 t132 t133 _ A3.out).mono ?_); rintro e w10 ⟨rfl, hb⟩; replace HB := zt w hb; (try clear hb); (try clear hb2); (try clear hk); (try clear hi))); try go_wp2_with (first | (go_at_call 20; (with_reducible refine (spec_l3Hole.calls k a1 t132 t133 _ A3.out).mono ?_); rintro e w10 ⟨rfl, hb⟩; replace HB := zt w hb; (try clear hb); (try clear hb2); (try clear hk); (try clear hi))))
     go_ret2
     exact ⟨by first | rfl | (simp [errW_none, errW_some] <;> rfl) | (simp only [← hji6]; first | rfl | (simp [errW_none, errW_some] <;> rfl)) | (simp [*, errW_none, errW_some] <;> rfl), zb _⟩
    ·rw [if_neg c9] at H
     have c9b0 : decide ((a0.size : Int) ≤ (wrap64 (t132 + ((a1.extract ((ji6) : Int).toNat a1.size).size : Int)))) = false := decide_eq_false c9
     have c9b3 : decide ((a0.size : Int) ≤ (wrap64 (t132 + ((a1.size - (ji6 : Int).toNat : Nat) : Int)))) = false := by have e9_ : (a1.extract (ji6 : Int).toNat a1.size).size = a1.size - (ji6 : Int).toNat := (by rw [ByteArray.size_extract]; omega); rw [e9_] at c9b0; exact c9b0
     have c9b4 : decide ((a0.size : Int) ≤ (wrap64 (t132 + ((a1.size : Int) - ((ji6 : Int).toNat : Int))))) = false := by have z9_ := of_decide_eq_true (show decide ((ji6) ≤ (a1.size : Int)) = true by assumption); have y9_ := of_decide_eq_true (show decide (0 ≤ (ji6)) = true by assumption); have x9_ : ((a1.size - (ji6 : Int).toNat : Nat) : Int) = (a1.size : Int) - ((ji6 : Int).toNat : Int) := (by omega); rw [x9_] at c9b3; exact c9b3
     clear c9
     by_cases c11 : 0 ≤ t132
     ·rw [if_pos c11] at H
      have c11b0 := eq_true c11
      have c11b1 : decide (0 ≤ t132) = true := decide_eq_true c11
      clear c11
      by_cases c12 : t132 ≤ (a0.size : Int)
      ·rw [if_pos c12] at H
       have c12b0 := eq_true c12
       have c12b1 : decide (t132 ≤ (a0.size : Int)) = true := decide_eq_true c12
       clear c12
       have c13b0 := eq_true (of_decide_eq_true (za _) : 0 ≤ t132)
       by_cases c14 : t132 ≤ (a1.size : Int)
       ·rw [if_pos c14] at H
        have c14b0 := eq_true c14
        have c14b1 : decide (t132 ≤ (a1.size : Int)) = true := decide_eq_true c14
        clear c14
        by_cases c15 : (a0.extract 0 (t132 : Int).toNat).toList = (a1.extract 0 (t132 : Int).toNat).toList
        ·rw [if_pos c15] at H
         have c15b0 : ((a0.extract 0 (t132 : Int).toNat).toList == (a1.extract 0 (t132 : Int).toNat).toList) = true := beq_iff_eq.mpr c15
         have c15b1 : ((a0.extract 0 (t132 : Int).toNat).toList != (a1.extract 0 (t132 : Int).toNat).toList) = false := bne_eq_false_iff_eq.mpr c15
         clear c15
         obtain ⟨ji16, hji16⟩ : ∃ j_ : Int, (wrap64 ((a0.size : Int) - ((a1.extract ((ji6) : Int).toNat a1.size).size : Int))) = j_ := ⟨_, rfl⟩
         replace H : (if 0 ≤ (ji16) then (if (ji16) ≤ (a0.size : Int) then (if (a0.extract ((ji16) : Int).toNat a0.size).toList = (a1.extract ((ji6) : Int).toNat a1.size).toList then (if t132 ≤ (ji16) then (some (a0.extract (t132 : Int).toNat ((ji16) : Int).toNat, true)) else (none)) else (some ((⟨#[]⟩ : ByteArray), false))) else (none)) else (none)) = some (r1, r2) := by first | (rw [hji16] at H; exact H) | (simp only [hji16] at H ⊢; exact H)
         (try rw [hji16] at A3)
         have hji16w : (IntKind.i64.wrap ((a0.size : Int) - ((a1.extract ((ji6) : Int).toNat a1.size).size : Int))) = ji16 := (i64_w _).trans hji16
         have hji16v : (IntKind.i64.wrap ((a0.size : Int) - ((a1.size - (ji6 : Int).toNat : Nat) : Int))) = ji16 := by have e9_ : (a1.extract (ji6 : Int).toNat a1.size).size = a1.size - (ji6 : Int).toNat := (by rw [ByteArray.size_extract]; omega); rw [e9_] at hji16w; exact hji16w
         have hji16u : (IntKind.i64.wrap ((a0.size : Int) - ((a1.size : Int) - ((ji6 : Int).toNat : Int)))) = ji16 := by have z9_ := of_decide_eq_true (show decide ((ji6) ≤ (a1.size : Int)) = true by assumption); have y9_ := of_decide_eq_true (show decide (0 ≤ (ji6)) = true by assumption); have x9_ : ((a1.size - (ji6 : Int).toNat : Nat) : Int) = (a1.size : Int) - ((ji6 : Int).toNat : Int) := (by omega); rw [x9_] at hji16v; exact hji16v
         by_cases c17 : 0 ≤ (ji16)
         ·rw [if_pos c17] at H
          have c17b0 := eq_true c17
          have c17b1 : decide (0 ≤ (ji16)) = true := decide_eq_true c17
          clear c17
          by_cases c18 : (ji16) ≤ (a0.size : Int)
          ·rw [if_pos c18] at H
           have c18b0 := eq_true c18
           have c18b1 : decide ((ji16) ≤ (a0.size : Int)) = true := decide_eq_true c18
           clear c18
           by_cases c19 : (a0.extract ((ji16) : Int).toNat a0.size).toList = (a1.extract ((ji6) : Int).toNat a1.size).toList
           ·rw [if_pos c19] at H
            have c19b0 : ((a0.extract ((ji16) : Int).toNat a0.size).toList == (a1.extract ((ji6) : Int).toNat a1.size).toList) = true := beq_iff_eq.mpr c19
            have c19b1 : ((a0.extract ((ji16) : Int).toNat a0.size).toList != (a1.extract ((ji6) : Int).toNat a1.size).toList) = false := bne_eq_false_iff_eq.mpr c19
            clear c19
            have c20b0 := eq_true (of_decide_eq_true (za _) : 0 ≤ t132)
            by_cases c21 : t132 ≤ (ji16)
            ·rw [if_pos c21] at H
             have c21b0 := eq_true c21
             have c21b1 : decide (t132 ≤ (ji16)) = true := decide_eq_true c21
             clear c21
             have c22b0 := eq_true (of_decide_eq_true (za _) : (ji16) ≤ (a0.size : Int))
             simp only [Option.some.injEq, Prod.mk.injEq] at H
             obtain ⟨rfl, rfl⟩ := H
             go_enter Tryz.func8, Tryz.ntmps8
             go_wp2_with (first | (go_at_call 20; (with_reducible refine (spec_l3Hole.calls k a1 t132 t133 _ A3.out).mono ?_); rintro e w23 ⟨rfl, hb⟩; replace HB := zt w hb; (try clear hb); (try clear hb2); (try clear hk); (try clear hi)))
             repeat (go_quiet (first | (go_at_call 20; (with_reducible refine (spec_l3Hole.calls k a1 t132 t133 _ A3.out).mono ?_); rintro e w23 ⟨rfl, hb⟩; replace HB := zt w hb; (try clear hb); (try clear hb2); (try clear hk); (try clear hi))); try go_wp2_with (first | (go_at_call 20; (with_reducible refine (spec_l3Hole.calls k a1 t132 t133 _ A3.out).mono ?_); rintro e w23 ⟨rfl, hb⟩; replace HB := zt w hb; (try clear hb); (try clear hb2); (try clear hk); (try clear hi))))
             go_ret2
             exact ⟨by first | rfl | (simp [errW_none, errW_some] <;> rfl) | (simp only [← hji6, ← hji16]; first | rfl | (simp [errW_none, errW_some] <;> rfl)) | (simp [*, errW_none, errW_some] <;> rfl), zb _⟩
            ·rw [if_neg c21] at H
             exact absurd H (by simp)
           ·rw [if_neg c19] at H
            have c19b0 : ((a0.extract ((ji16) : Int).toNat a0.size).toList == (a1.extract ((ji6) : Int).toNat a1.size).toList) = false := beq_eq_false_iff_ne.mpr c19
            have c19b1 : ((a0.extract ((ji16) : Int).toNat a0.size).toList != (a1.extract ((ji6) : Int).toNat a1.size).toList) = true := bne_iff_ne.mpr c19
            simp only [Option.some.injEq, Prod.mk.injEq] at H
            obtain ⟨rfl, rfl⟩ := H
            go_enter Tryz.func8, Tryz.ntmps8
            go_wp2_with (first | (go_at_call 20; (with_reducible refine (spec_l3Hole.calls k a1 t132 t133 _ A3.out).mono ?_); rintro e w24 ⟨rfl, hb⟩; replace HB := zt w hb; (try clear hb); (try clear hb2); (try clear hk); (try clear hi)))
            repeat (go_quiet (first | (go_at_call 20; (with_reducible refine (spec_l3Hole.calls k a1 t132 t133 _ A3.out).mono ?_); rintro e w24 ⟨rfl, hb⟩; replace HB := zt w hb; (try clear hb); (try clear hb2); (try clear hk); (try clear hi))); try go_wp2_with (first | (go_at_call 20; (with_reducible refine (spec_l3Hole.calls k a1 t132 t133 _ A3.out).mono ?_); rintro e w24 ⟨rfl, hb⟩; replace HB := zt w hb; (try clear hb); (try clear hb2); (try clear hk); (try clear hi))))
            go_ret2
            exact ⟨by first | rfl | (simp [errW_none, errW_some] <;> rfl) | (simp only [← hji6, ← hji16]; first | rfl | (simp [errW_none, errW_some] <;> rfl)) | (simp [*, errW_none, errW_some] <;> rfl), zb _⟩
          ·rw [if_neg c18] at H
           exact absurd H (by simp)
         ·rw [if_neg c17] at H
          exact absurd H (by simp)
        ·rw [if_neg c15] at H
         have c15b0 : ((a0.extract 0 (t132 : Int).toNat).toList == (a1.extract 0 (t132 : Int).toNat).toList) = false := beq_eq_false_iff_ne.mpr c15
         have c15b1 : ((a0.extract 0 (t132 : Int).toNat).toList != (a1.extract 0 (t132 : Int).toNat).toList) = true := bne_iff_ne.mpr c15
         simp only [Option.some.injEq, Prod.mk.injEq] at H
         obtain ⟨rfl, rfl⟩ := H
         go_enter Tryz.func8, Tryz.ntmps8
         go_wp2_with (first | (go_at_call 20; (with_reducible refine (spec_l3Hole.calls k a1 t132 t133 _ A3.out).mono ?_); rintro e w25 ⟨rfl, hb⟩; replace HB := zt w hb; (try clear hb); (try clear hb2); (try clear hk); (try clear hi)))
         repeat (go_quiet (first | (go_at_call 20; (with_reducible refine (spec_l3Hole.calls k a1 t132 t133 _ A3.out).mono ?_); rintro e w25 ⟨rfl, hb⟩; replace HB := zt w hb; (try clear hb); (try clear hb2); (try clear hk); (try clear hi))); try go_wp2_with (first | (go_at_call 20; (with_reducible refine (spec_l3Hole.calls k a1 t132 t133 _ A3.out).mono ?_); rintro e w25 ⟨rfl, hb⟩; replace HB := zt w hb; (try clear hb); (try clear hb2); (try clear hk); (try clear hi))))
         go_ret2
         exact ⟨by first | rfl | (simp [errW_none, errW_some] <;> rfl) | (simp only [← hji6]; first | rfl | (simp [errW_none, errW_some] <;> rfl)) | (simp [*, errW_none, errW_some] <;> rfl), zb _⟩
       ·rw [if_neg c14] at H
        exact absurd H (by simp)
      ·rw [if_neg c12] at H
       exact absurd H (by simp)
     ·rw [if_neg c11] at H
      exact absurd H (by simp)
   ·rw [if_neg c8] at H
    exact absurd H (by simp)
  ·rw [if_neg c7] at H
   exact absurd H (by simp)

/-! ### spec_l1Digit: function 78 -/
def spec_l1Digit.j0 : Nat → Int → Bool → Option (Int)
  | 0, _, _ => none
  | k + 1, x0, x3 => if x3 = true then (some ((x0 - 48) % 256)) else (if x0 ≥ 65 then (if x0 ≤ 70 then (some (((x0 - 65) % 256) + 10)) else (some 99)) else (some 99))
def spec_l1Digit.f (k : Nat) (a0 : Int) : Option (Int) := if a0 ≥ 48 then (spec_l1Digit.j0 k a0 (decide (a0 ≤ 57))) else (spec_l1Digit.j0 k a0 false)
theorem spec_l1Digit.mono_l : ∀ k, (∀ y0 y1, LeO (spec_l1Digit.j0 k y0 y1) (spec_l1Digit.j0 (k + 1) y0 y1))
  | 0 => fun _ _ r h => by simp [spec_l1Digit.j0] at h
  | k + 1 => by
    have ih0 := spec_l1Digit.mono_l k
    · intro y0 y1
      unfold spec_l1Digit.j0
      repeat' first
      | (with_reducible exact ih0 _ _)
      | (with_reducible exact LeO.refl _)
      | (with_reducible exact LeO.none _)
      | (with_reducible refine LeO.ite ?_ ?_)
      | (with_reducible refine LeO.bind ?_ (fun _ => ?_))
      | exact ih0 _ _
      | exact LeO.none _
      | refine LeO.ite ?_ ?_
      | refine LeO.bind ?_ (fun _ => ?_)
theorem spec_l1Digit.mono : ∀ a0 k, LeO (spec_l1Digit.f k a0) (spec_l1Digit.f (k + 1) a0) := by
  intro a0 k
  have ih0 := spec_l1Digit.mono_l k
  unfold spec_l1Digit.f
  repeat' first
      | (with_reducible exact ih0 _ _)
      | (with_reducible exact LeO.refl _)
      | (with_reducible exact LeO.none _)
      | (with_reducible refine LeO.ite ?_ ?_)
      | (with_reducible refine LeO.bind ?_ (fun _ => ?_))
      | exact ih0 _ _
      | exact LeO.none _
      | refine LeO.ite ?_ ?_
      | refine LeO.bind ?_ (fun _ => ?_)
set_option maxHeartbeats 8000000 in
set_option maxRecDepth 100000 in
theorem spec_l1Digit.calls (k : Nat) (a0 : Int) (r : Int) (w : World) (h : spec_l1Digit.f k a0 = some r) :
 Calls Tryz.prog 78 #[.int .u8 a0] w fun e w' => e = .returned (.int .i64 r) ∧ Drawn0 w w' := by
 have H : (if a0 ≥ 48 then (spec_l1Digit.j0 k a0 (decide (a0 ≤ 57))) else (spec_l1Digit.j0 k a0 false)) = some r := h
 clear h
 have HC2 := Aside0.mk H
 clear H
 go_enter Tryz.func78, Tryz.ntmps78
 go_upto_region 1 with (fail)
 go_cut [3] (fun v3 wc => ∃ (kq : Nat) (x3_1 : Bool), v3 = .bool x3_1 ∧ Aside0 (spec_l1Digit.j0 kq a0 x3_1 = some r) ∧ Aside0 (kq ≤ k) ∧ Drawn0 w wc)
 case first =>
  have H := HC2.out
  clear HC2
  by_cases c3 : a0 ≥ 48
  ·rw [if_pos c3] at H
   have c3b0 : decide (48 ≤ a0) = true := decide_eq_true c3
   clear c3
   (first | rw [c3b0] | (simp only [i64_w, i32_w]; rw [c3b0]) | skip)
   have H' := Aside0.mk H
   clear H
   go_wp2
   go_meet
   case rel => exact ⟨_, (decide (a0 ≤ 57)), (zE _), H', ⟨by first | omega | exact Nat.le_refl _⟩, zd _⟩
  ·rw [if_neg c3] at H
   have c3b0 : decide (48 ≤ a0) = false := decide_eq_false c3
   clear c3
   (first | rw [c3b0] | (simp only [i64_w, i32_w]; rw [c3b0]) | skip)
   have H' := Aside0.mk H
   clear H
   go_wp2
   go_meet
   case rel => exact ⟨_, (false), (zE _), H', ⟨by first | omega | exact Nat.le_refl _⟩, zd _⟩
 case rest =>
  clear HC2
  try clear p2
  try clear c3
  try clear c3b0
  obtain ⟨kq, x3_1, rfl, HA, HJ1, ⟨mc1, rfl⟩⟩ := hcut
  cases kq with
  | zero => exact absurd HA.out (by simp [spec_l1Digit.j0])
  | succ kj1 =>
   have H := HA.out
   clear HA
   simp only [spec_l1Digit.j0] at H
   by_cases c4 : x3_1 = true
   ·subst c4
    rw [if_pos rfl] at H
    obtain rfl := Option.some.inj H
    go_wp2
    first | go_ret | ((try simp only [Exit.inBlock, Exit.then]); apply bodyPost_ret; (exact results_tmp rfl _ _ _); rfl)
    exact ⟨zE _, zd _⟩
   ·replace c4 := Bool.eq_false_iff.mpr c4
    subst c4
    rw [if_neg (show ¬ (false = true) by decide)] at H
    by_cases c5 : a0 ≥ 65
    ·rw [if_pos c5] at H
     have c5b0 : decide (65 ≤ a0) = true := decide_eq_true c5
     clear c5
     by_cases c6 : a0 ≤ 70
     ·rw [if_pos c6] at H
      have c6b0 : decide (a0 ≤ 70) = true := decide_eq_true c6
      clear c6
      obtain rfl := Option.some.inj H
      go_wp2
      first | go_ret | ((try simp only [Exit.inBlock, Exit.then]); apply bodyPost_ret; (exact results_tmp rfl _ _ _); rfl)
      exact ⟨zE _, zd _⟩
     ·rw [if_neg c6] at H
      have c6b0 : decide (a0 ≤ 70) = false := decide_eq_false c6
      clear c6
      obtain rfl := Option.some.inj H
      go_wp2
      first | go_ret | ((try simp only [Exit.inBlock, Exit.then]); apply bodyPost_ret; (exact results_tmp rfl _ _ _); rfl)
      exact ⟨zE _, zd _⟩
    ·rw [if_neg c5] at H
     have c5b0 : decide (65 ≤ a0) = false := decide_eq_false c5
     clear c5
     obtain rfl := Option.some.inj H
     go_wp2
     first | go_ret | ((try simp only [Exit.inBlock, Exit.then]); apply bodyPost_ret; (exact results_tmp rfl _ _ _); rfl)
     exact ⟨zE _, zd _⟩

/-! ### spec_l1Base: function 52 -/
def spec_l1Base.l0 : Nat → ByteArray → Int → Int → Int → Option (Int × Bool)
  | 0, _, _, _, _ => none
  | k + 1, x0, x1, x6, x7 => if x7 < (x0.size : Int) then (if 0 ≤ x7 then ((spec_l1Digit.f k (bt x0 x7)).bind fun t134 => (if t134 ≥ x1 then (some (0, false)) else (if (wrap64 ((wrap64 (x6 * x1)) + t134)) > 65535 then (some (0, false)) else (spec_l1Base.l0 k x0 x1 (wrap64 ((wrap64 (x6 * x1)) + t134)) (wrap64 (x7 + 1)))))) else (none)) else (some (x6, (x0.toList != ([] : List UInt8))))
def spec_l1Base.f (k : Nat) (a0 : ByteArray) (a1 : Int) : Option (Int × Bool) := spec_l1Base.l0 k a0 a1 0 0
theorem spec_l1Base.mono_l : ∀ k, (∀ y0 y1 y2 y3, LeO (spec_l1Base.l0 k y0 y1 y2 y3) (spec_l1Base.l0 (k + 1) y0 y1 y2 y3))
  | 0 => fun _ _ _ _ r h => by simp [spec_l1Base.l0] at h
  | k + 1 => by
    have ih0 := spec_l1Base.mono_l k
    · intro y0 y1 y2 y3
      unfold spec_l1Base.l0
      repeat' first
      | (with_reducible exact ih0 _ _ _ _)
      | (with_reducible exact spec_l1Digit.mono _ _)
      | (with_reducible exact LeO.refl _)
      | (with_reducible exact LeO.none _)
      | (with_reducible refine LeO.ite ?_ ?_)
      | (with_reducible refine LeO.bind ?_ (fun _ => ?_))
      | exact ih0 _ _ _ _
      | exact spec_l1Digit.mono _ _
      | exact LeO.none _
      | refine LeO.ite ?_ ?_
      | refine LeO.bind ?_ (fun _ => ?_)
theorem spec_l1Base.mono : ∀ a0 a1 k, LeO (spec_l1Base.f k a0 a1) (spec_l1Base.f (k + 1) a0 a1) := by
  intro a0 a1 k
  have ih0 := spec_l1Base.mono_l k
  unfold spec_l1Base.f
  repeat' first
      | (with_reducible exact ih0 _ _ _ _)
      | (with_reducible exact spec_l1Digit.mono _ _)
      | (with_reducible exact LeO.refl _)
      | (with_reducible exact LeO.none _)
      | (with_reducible refine LeO.ite ?_ ?_)
      | (with_reducible refine LeO.bind ?_ (fun _ => ?_))
      | exact ih0 _ _ _ _
      | exact spec_l1Digit.mono _ _
      | exact LeO.none _
      | refine LeO.ite ?_ ?_
      | refine LeO.bind ?_ (fun _ => ?_)
set_option maxHeartbeats 8000000 in
set_option maxRecDepth 100000 in
theorem spec_l1Base.calls (k : Nat) (a0 : ByteArray) (a1 : Int) (r1 : Int) (r2 : Bool) (w : World) (h : spec_l1Base.f k a0 a1 = some (r1, r2)) :
 Calls Tryz.prog 52 #[.string a0, .int .i64 a1] w fun e w' => e = .returned (.tuple #[.int .i64 r1, .bool r2]) ∧ Drawn0 w w' := by
 have H : (spec_l1Base.l0 k a0 a1 0 0) = some (r1, r2) := h
 clear h
 have H' := Aside0.mk H
 clear H
 go_enter Tryz.func52, Tryz.ntmps52
 go_wp2
 go_loopg [6, 7] k (fun kq v6 v7 w' => ∃ (x6_1 : Int) (x7_1 : Int), v6 = .int .i64 x6_1 ∧ v7 = .int .i64 x7_1 ∧ Aside0 (spec_l1Base.l0 kq a0 a1 x6_1 x7_1 = some (r1, r2)) ∧ Aside0 (kq ≤ k) ∧ Drawn0 w w')
 case atStart => exact ⟨(0), (0), (zE _), (zE _), H', ⟨Nat.le_refl _⟩, zd _⟩
 case round =>
  clear H'
  try clear p2
  obtain ⟨x6_1, x7_1, rfl, rfl, HA, HK1, ⟨m1, rfl⟩⟩ := hrel
  cases gk with
  | zero => exact absurd HA.out (by simp [spec_l1Base.l0])
  | succ k1 =>
   have H := HA.out
   clear HA
   simp only [spec_l1Base.l0] at H
   by_cases c3 : x7_1 < (a0.size : Int)
   ·rw [if_pos c3] at H
    have c3b0 : decide (x7_1 < (a0.size : Int)) = true := decide_eq_true c3
    clear c3
    by_cases c4 : 0 ≤ x7_1
    ·rw [if_pos c4] at H
     have c4b0 : decide (0 ≤ x7_1) = true := decide_eq_true c4
     clear c4
     obtain ⟨t134, A60, H⟩ := Option.bind_eq_some_iff.mp H
     have A6 := Aside0.mk A60
     clear A60
     by_cases c7 : t134 ≥ a1
     ·rw [if_pos c7] at H
      have c7b0 : decide (a1 ≤ t134) = true := decide_eq_true c7
      clear c7
      simp only [Option.some.injEq, Prod.mk.injEq] at H
      obtain ⟨rfl, rfl⟩ := H
      have p5 : 0 ≤ (x7_1 : Int) := of_decide_eq_true (za _)
      have q5 : x7_1 < (a0.size : Int) := of_decide_eq_true (za _)
      have hx5 := bt_at a0 x7_1
      replace p5 := eq_true p5
      replace q5 := eq_true q5
      go_wp2_with (first | ((with_reducible refine gate_callee (f := 78) rfl ?_); refine zc (some 18) Tryz.func78 #[.int .u8 (bt a0 x7_1)] ?_; (with_reducible refine (spec_l1Digit.calls k1 (bt a0 x7_1) t134 _ A6.out).mono ?_); rintro e w' ⟨rfl, ⟨nd, rfl⟩⟩; refine ⟨_, rfl, ?_⟩))
      go_ret2
      exact ⟨by first | rfl | (simp; done) | (simp [*]; done) | (simp; cases a0.toList <;> rfl), zd _⟩
     ·rw [if_neg c7] at H
      have c7b0 : decide (a1 ≤ t134) = false := decide_eq_false c7
      clear c7
      by_cases c8 : (wrap64 ((wrap64 (x6_1 * a1)) + t134)) > 65535
      ·rw [if_pos c8] at H
       have c8b0 : decide (65535 < (wrap64 ((wrap64 (x6_1 * a1)) + t134))) = true := decide_eq_true c8
       clear c8
       simp only [Option.some.injEq, Prod.mk.injEq] at H
       obtain ⟨rfl, rfl⟩ := H
       have p5 : 0 ≤ (x7_1 : Int) := of_decide_eq_true (za _)
       have q5 : x7_1 < (a0.size : Int) := of_decide_eq_true (za _)
       have hx5 := bt_at a0 x7_1
       replace p5 := eq_true p5
       replace q5 := eq_true q5
       go_wp2_with (first | ((with_reducible refine gate_callee (f := 78) rfl ?_); refine zc (some 18) Tryz.func78 #[.int .u8 (bt a0 x7_1)] ?_; (with_reducible refine (spec_l1Digit.calls k1 (bt a0 x7_1) t134 _ A6.out).mono ?_); rintro e w' ⟨rfl, ⟨nd, rfl⟩⟩; refine ⟨_, rfl, ?_⟩))
       go_ret2
       exact ⟨by first | rfl | (simp; done) | (simp [*]; done) | (simp; cases a0.toList <;> rfl), zd _⟩
      ·rw [if_neg c8] at H
       have c8b0 : decide (65535 < (wrap64 ((wrap64 (x6_1 * a1)) + t134))) = false := decide_eq_false c8
       clear c8
       have H' := Aside0.mk H
       clear H
       have p5 : 0 ≤ (x7_1 : Int) := of_decide_eq_true (za _)
       have q5 : x7_1 < (a0.size : Int) := of_decide_eq_true (za _)
       have hx5 := bt_at a0 x7_1
       replace p5 := eq_true p5
       replace q5 := eq_true q5
       go_wp2_with (first | ((with_reducible refine gate_callee (f := 78) rfl ?_); refine zc (some 18) Tryz.func78 #[.int .u8 (bt a0 x7_1)] ?_; (with_reducible refine (spec_l1Digit.calls k1 (bt a0 x7_1) t134 _ A6.out).mono ?_); rintro e w' ⟨rfl, ⟨nd, rfl⟩⟩; refine ⟨_, rfl, ?_⟩))
       go_roundg k1
       case measure => have := HK1.out; omega
       case rel => exact ⟨(wrap64 ((wrap64 (x6_1 * a1)) + t134)), (wrap64 (x7_1 + 1)), (zE _), (zE _), H', ⟨by have := HK1.out; omega⟩, zd _⟩
    ·rw [if_neg c4] at H
     exact absurd H (by simp)
   ·rw [if_neg c3] at H
    have c3b0 : decide (x7_1 < (a0.size : Int)) = false := decide_eq_false c3
    clear c3
    simp only [Option.some.injEq, Prod.mk.injEq] at H
    obtain ⟨rfl, rfl⟩ := H
    go_wp2
    go_ret2
    exact ⟨by first | rfl | (simp; done) | (simp [*]; done) | (simp; cases a0.toList <;> rfl), zd _⟩

/-! ### spec_ReadNum: function 27 -/
def spec_ReadNum.j0 : Nat → ByteArray → Bool → Option (Int × Bool)
  | 0, _, _ => none
  | k + 1, x0, x10 => if x10 = true then (some (0, false)) else (if 0 < (x0.size : Int) then (if (bt x0 0) = 36 then (if 1 ≤ (x0.size : Int) then ((spec_l1Base.f k (x0.extract 1 x0.size) 16).bind fun bt135 => (some (bt135.1, bt135.2))) else (none)) else (if (bt x0 0) = 37 then (if 1 ≤ (x0.size : Int) then ((spec_l1Base.f k (x0.extract 1 x0.size) 2).bind fun bt137 => (some (bt137.1, bt137.2))) else (none)) else ((spec_l1Base.f k x0 10).bind fun bt139 => (some (bt139.1, bt139.2))))) else (none))
def spec_ReadNum.f (k : Nat) (a0 : ByteArray) : Option (Int × Bool) := if (a0.size : Int) > 18 then (spec_ReadNum.j0 k a0 true) else (spec_ReadNum.j0 k a0 (a0.toList == ([] : List UInt8)))
theorem spec_ReadNum.mono_l : ∀ k, (∀ y0 y1, LeO (spec_ReadNum.j0 k y0 y1) (spec_ReadNum.j0 (k + 1) y0 y1))
  | 0 => fun _ _ r h => by simp [spec_ReadNum.j0] at h
  | k + 1 => by
    have ih0 := spec_ReadNum.mono_l k
    · intro y0 y1
      unfold spec_ReadNum.j0
      repeat' first
      | (with_reducible exact ih0 _ _)
      | (with_reducible exact spec_l1Base.mono _ _ _)
      | (with_reducible exact LeO.refl _)
      | (with_reducible exact LeO.none _)
      | (with_reducible refine LeO.ite ?_ ?_)
      | (with_reducible refine LeO.bind ?_ (fun _ => ?_))
      | exact ih0 _ _
      | exact spec_l1Base.mono _ _ _
      | exact LeO.none _
      | refine LeO.ite ?_ ?_
      | refine LeO.bind ?_ (fun _ => ?_)
theorem spec_ReadNum.mono : ∀ a0 k, LeO (spec_ReadNum.f k a0) (spec_ReadNum.f (k + 1) a0) := by
  intro a0 k
  have ih0 := spec_ReadNum.mono_l k
  unfold spec_ReadNum.f
  repeat' first
      | (with_reducible exact ih0 _ _)
      | (with_reducible exact spec_l1Base.mono _ _ _)
      | (with_reducible exact LeO.refl _)
      | (with_reducible exact LeO.none _)
      | (with_reducible refine LeO.ite ?_ ?_)
      | (with_reducible refine LeO.bind ?_ (fun _ => ?_))
      | exact ih0 _ _
      | exact spec_l1Base.mono _ _ _
      | exact LeO.none _
      | refine LeO.ite ?_ ?_
      | refine LeO.bind ?_ (fun _ => ?_)
set_option maxHeartbeats 8000000 in
set_option maxRecDepth 100000 in
theorem spec_ReadNum.calls (k : Nat) (a0 : ByteArray) (r1 : Int) (r2 : Bool) (w : World) (h : spec_ReadNum.f k a0 = some (r1, r2)) :
 Calls Tryz.prog 27 #[.string a0] w fun e w' => e = .returned (.tuple #[.int .i64 r1, .bool r2]) ∧ Drawn0 w w' := by
 have H : (if (a0.size : Int) > 18 then (spec_ReadNum.j0 k a0 true) else (spec_ReadNum.j0 k a0 (a0.toList == ([] : List UInt8)))) = some (r1, r2) := h
 clear h
 have HC2 := Aside0.mk H
 clear H
 go_enter Tryz.func27, Tryz.ntmps27
 go_upto_region 1 with (fail)
 go_cut [10] (fun v10 wc => ∃ (kq : Nat) (x10_1 : Bool), v10 = .bool x10_1 ∧ Aside0 (spec_ReadNum.j0 kq a0 x10_1 = some (r1, r2)) ∧ Aside0 (kq ≤ k) ∧ Drawn0 w wc)
 case first =>
  have H := HC2.out
  clear HC2
  by_cases c3 : (a0.size : Int) > 18
  ·rw [if_pos c3] at H
   have c3b0 : decide (18 < (a0.size : Int)) = true := decide_eq_true c3
   have c3b1 : decide (18 < a0.size) = true := decide_eq_true (by omega)
   clear c3
   (first | rw [c3b0] | (simp only [i64_w, i32_w]; rw [c3b0]) | skip)
   have H' := Aside0.mk H
   clear H
   go_wp2
   go_meet
   case rel => exact ⟨_, (true), (zE _), H', ⟨by first | omega | exact Nat.le_refl _⟩, zd _⟩
  ·rw [if_neg c3] at H
   have c3b0 : decide (18 < (a0.size : Int)) = false := decide_eq_false c3
   have c3b1 : decide (18 < a0.size) = false := decide_eq_false (by omega)
   clear c3
   (first | rw [c3b0] | (simp only [i64_w, i32_w]; rw [c3b0]) | skip)
   have H' := Aside0.mk H
   clear H
   go_wp2
   go_meet
   case rel => exact ⟨_, ((a0.toList == ([] : List UInt8))), (zE _), H', ⟨by first | omega | exact Nat.le_refl _⟩, zd _⟩
 case rest =>
  clear HC2
  try clear c2
  try clear p2
  try clear c3
  try clear c3b0
  try clear c3b1
  obtain ⟨kq, x10_1, rfl, HA, HJ1, ⟨mc1, rfl⟩⟩ := hcut
  cases kq with
  | zero => exact absurd HA.out (by simp [spec_ReadNum.j0])
  | succ kj1 =>
   have H := HA.out
   clear HA
   simp only [spec_ReadNum.j0] at H
   by_cases c4 : x10_1 = true
   ·subst c4
    rw [if_pos rfl] at H
    simp only [Option.some.injEq, Prod.mk.injEq] at H
    obtain ⟨rfl, rfl⟩ := H
    go_wp2
    go_ret2
    exact ⟨zE _, zd _⟩
   ·replace c4 := Bool.eq_false_iff.mpr c4
    subst c4
    rw [if_neg (show ¬ (false = true) by decide)] at H
    by_cases c5 : 0 < (a0.size : Int)
    ·rw [if_pos c5] at H
     have c5b0 : decide (0 < (a0.size : Int)) = true := decide_eq_true c5
     have c5b1 : decide (0 < a0.size) = true := decide_eq_true (by omega)
     clear c5
     by_cases c7 : (bt a0 0) = 36
     ·rw [if_pos c7] at H
      have c7b0 : ((bt a0 0) == 36) = true := beq_iff_eq.mpr c7
      have c7b1 : ((bt a0 0) != 36) = false := bne_eq_false_iff_eq.mpr c7
      clear c7
      by_cases c8 : 1 ≤ (a0.size : Int)
      ·rw [if_pos c8] at H
       have c8b0 := eq_true c8
       have c8b1 : decide (1 ≤ (a0.size : Int)) = true := decide_eq_true c8
       clear c8
       replace H := Option.bind_eq_some_iff.mp H
       obtain ⟨⟨t135, t136⟩, A90, H⟩ := H
       replace H : (some (t135, t136)) = some (r1, r2) := H
       have A9 := Aside0.mk A90
       clear A90
       simp only [Option.some.injEq, Prod.mk.injEq] at H
       obtain ⟨rfl, rfl⟩ := H
       have p6 : 0 ≤ (0 : Int) := (by omega)
       have q6 : 0 < a0.size := (by have : (0 : Int) < (a0.size : Int) := of_decide_eq_true (za _); omega)
       have hx6 : ∀ h : 0 < a0.size, ((a0[0]'h).toNat : Int) = bt a0 0 := bt_at a0 0
       clear p6
       have qi6 : (0 < (a0.size : Int)) = True := eq_true (of_decide_eq_true (za _))
       replace q6 := eq_true q6
       go_wp2_with (first | ((with_reducible refine gate_callee (f := 52) rfl ?_); refine zc (some 17) Tryz.func52 #[.string (a0.extract 1 a0.size), .int .i64 16] ?_; (with_reducible refine (spec_l1Base.calls kj1 (a0.extract 1 a0.size) 16 t135 t136 _ A9.out).mono ?_); rintro e w' ⟨rfl, ⟨nd, rfl⟩⟩; refine ⟨_, rfl, ?_⟩))
       go_ret2
       exact ⟨zE _, zd _⟩
      ·rw [if_neg c8] at H
       exact absurd H (by simp)
     ·rw [if_neg c7] at H
      have c7b0 : ((bt a0 0) == 36) = false := beq_eq_false_iff_ne.mpr c7
      have c7b1 : ((bt a0 0) != 36) = true := bne_iff_ne.mpr c7
      by_cases c10 : (bt a0 0) = 37
      ·rw [if_pos c10] at H
       have c10b0 : ((bt a0 0) == 37) = true := beq_iff_eq.mpr c10
       have c10b1 : ((bt a0 0) != 37) = false := bne_eq_false_iff_eq.mpr c10
       clear c10
       by_cases c11 : 1 ≤ (a0.size : Int)
       ·rw [if_pos c11] at H
        have c11b0 := eq_true c11
        have c11b1 : decide (1 ≤ (a0.size : Int)) = true := decide_eq_true c11
        clear c11
        replace H := Option.bind_eq_some_iff.mp H
        obtain ⟨⟨t137, t138⟩, A120, H⟩ := H
        replace H : (some (t137, t138)) = some (r1, r2) := H
        have A12 := Aside0.mk A120
        clear A120
        simp only [Option.some.injEq, Prod.mk.injEq] at H
        obtain ⟨rfl, rfl⟩ := H
        have p6 : 0 ≤ (0 : Int) := (by omega)
        have q6 : 0 < a0.size := (by have : (0 : Int) < (a0.size : Int) := of_decide_eq_true (za _); omega)
        have hx6 : ∀ h : 0 < a0.size, ((a0[0]'h).toNat : Int) = bt a0 0 := bt_at a0 0
        clear p6
        have qi6 : (0 < (a0.size : Int)) = True := eq_true (of_decide_eq_true (za _))
        replace q6 := eq_true q6
        go_wp2_with (first | ((with_reducible refine gate_callee (f := 52) rfl ?_); refine zc (some 24) Tryz.func52 #[.string (a0.extract 1 a0.size), .int .i64 2] ?_; (with_reducible refine (spec_l1Base.calls kj1 (a0.extract 1 a0.size) 2 t137 t138 _ A12.out).mono ?_); rintro e w' ⟨rfl, ⟨nd, rfl⟩⟩; refine ⟨_, rfl, ?_⟩))
        go_ret2
        exact ⟨zE _, zd _⟩
       ·rw [if_neg c11] at H
        exact absurd H (by simp)
      ·rw [if_neg c10] at H
       have c10b0 : ((bt a0 0) == 37) = false := beq_eq_false_iff_ne.mpr c10
       have c10b1 : ((bt a0 0) != 37) = true := bne_iff_ne.mpr c10
       replace H := Option.bind_eq_some_iff.mp H
       obtain ⟨⟨t139, t140⟩, A130, H⟩ := H
       replace H : (some (t139, t140)) = some (r1, r2) := H
       have A13 := Aside0.mk A130
       clear A130
       simp only [Option.some.injEq, Prod.mk.injEq] at H
       obtain ⟨rfl, rfl⟩ := H
       have p6 : 0 ≤ (0 : Int) := (by omega)
       have q6 : 0 < a0.size := (by have : (0 : Int) < (a0.size : Int) := of_decide_eq_true (za _); omega)
       have hx6 : ∀ h : 0 < a0.size, ((a0[0]'h).toNat : Int) = bt a0 0 := bt_at a0 0
       clear p6
       have qi6 : (0 < (a0.size : Int)) = True := eq_true (of_decide_eq_true (za _))
       replace q6 := eq_true q6
       go_wp2_with (first | ((with_reducible refine gate_callee (f := 52) rfl ?_); refine zc (some 28) Tryz.func52 #[.string a0, .int .i64 10] ?_; (with_reducible refine (spec_l1Base.calls kj1 a0 10 t139 t140 _ A13.out).mono ?_); rintro e w' ⟨rfl, ⟨nd, rfl⟩⟩; refine ⟨_, rfl, ?_⟩))
       go_ret2
       exact ⟨zE _, zd _⟩
    ·rw [if_neg c5] at H
     exact absurd H (by simp)

end Go.Proofs.YtmiebnpmckjidaaGreatDoor.PFnExactReadInsText
