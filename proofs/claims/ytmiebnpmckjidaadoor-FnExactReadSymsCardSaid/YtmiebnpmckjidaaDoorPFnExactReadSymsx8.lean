/- What the Go functions that the law FnExactReadSyms reaches compute, function by function, and that Go comes to just that. -/
import Derived.Test.YtmiebnpmckjidaaDoorPFnExactReadSymsx0
import Derived.Test.YtmiebnpmckjidaaDoorAidZ
import Derived.Test.YtmiebnpmckjidaaDoorPFnExactReadSymsx6
import Derived.Test.YtmiebnpmckjidaaDoorPFnExactReadSymsx7
namespace Go.Proofs.YtmiebnpmckjidaaDoor.PFnExactReadSyms
open Go.RowKit Go.Proofs.YtmiebnpmckjidaaDoor.Z Go.Proofs.YtmiebnpmckjidaaDoorW.PrintWords Go.Proofs.YtmiebnpmckjidaaDoorW.PrintLast Go.Proofs.YtmiebnpmckjidaaDoorW.PrintMore
attribute [local go_sem] max2_int min2_int max_two min_two max_three min_three max_four min_four   -- for this text's walks alone
set_option linter.unusedVariables false
set_option linter.unusedSimpArgs false

/-! ### impl_ReadSyms: function 24 -/
def impl_ReadSyms.l0 : Nat → ByteArray → List (S61) → List ByteArray → Int → Int → Option ((List (S61)) × Bool)
  | 0, _, _, _, _, _ => none
  | k + 1, x0, x5, x22, x23, x24 => if x24 < x23 then (if 0 ≤ x24 then (if x24 < (x22.length : Int) then (if ((rdOf ByteArray.empty x22 x24).size : Int) < 8 then (some (([] : List (S61)), false)) else (if 0 ≤ 2 then (if 2 ≤ ((rdOf ByteArray.empty x22 x24).size : Int) then (if 1 + ((rdOf ByteArray.empty x22 x24).extract 0 2).size ≤ 9223372036854775807 then ((impl_ReadNum.f k ((⟨#[36]⟩ : ByteArray) ++ ((rdOf ByteArray.empty x22 x24).extract 0 2))).bind fun bt174 => (if 3 ≤ 7 then (if 7 ≤ ((rdOf ByteArray.empty x22 x24).size : Int) then (if 1 + ((rdOf ByteArray.empty x22 x24).extract 3 7).size ≤ 9223372036854775807 then ((impl_ReadNum.f k ((⟨#[36]⟩ : ByteArray) ++ ((rdOf ByteArray.empty x22 x24).extract 3 7))).bind fun bt176 => (if 8 ≤ ((rdOf ByteArray.empty x22 x24).size : Int) then (if x5.length < 4398046511104 then (impl_ReadSyms.l0 k x0 (x5 ++ [(⟨(rdOf ByteArray.empty x22 x24).extract 8 (rdOf ByteArray.empty x22 x24).size, bt174.1, bt176.1⟩ : S61)]) x22 x23 (wrap64 (x24 + 1))) else (none)) else (none))) else (none)) else (none)) else (none))) else (none)) else (none)) else (none))) else (none)) else (none)) else ((impl_areSyms.f k x5).bind fun t181 => (if t181 = true then ((impl_symText.f x5).bind fun t182 => (if t182.toList = x0.toList then (some (x5, true)) else (some (([] : List (S61)), false)))) else (some (([] : List (S61)), false))))
def impl_ReadSyms.f (k : Nat) (a0 : ByteArray) : Option ((List (S61)) × Bool) := (strings_Split.f a0 (⟨#[10]⟩ : ByteArray)).bind fun t163 => (if (t163.length : Int) > 801 then (some (([] : List (S61)), false)) else (if 0 ≤ (wrap64 ((t163.length : Int) - 1)) then (if (wrap64 ((t163.length : Int) - 1)) ≤ (t163.length : Int) then ((some (t163.take ((wrap64 ((t163.length : Int) - 1)) : Int).toNat : List ByteArray)).bind fun y169 => (impl_ReadSyms.l0 k a0 (([] : List (S61))) y169 (y169.length : Int) 0)) else (none)) else (none)))
theorem impl_ReadSyms.mono_l : ∀ k, (∀ y0 y1 y2 y3 y4, LeO (impl_ReadSyms.l0 k y0 y1 y2 y3 y4) (impl_ReadSyms.l0 (k + 1) y0 y1 y2 y3 y4))
  | 0 => fun _ _ _ _ _ r h => by simp [impl_ReadSyms.l0] at h
  | k + 1 => by
    have ih0 := impl_ReadSyms.mono_l k
    · intro y0 y1 y2 y3 y4
      unfold impl_ReadSyms.l0
      repeat' first
      | (with_reducible exact ih0 _ _ _ _ _)
      | (with_reducible exact impl_ReadNum.mono _ _)
      | (with_reducible exact impl_areSyms.mono _ _)
      | (with_reducible exact LeO.refl _)
      | (with_reducible exact LeO.none _)
      | (with_reducible refine LeO.ite ?_ ?_)
      | (with_reducible refine LeO.bind ?_ (fun _ => ?_))
      | exact ih0 _ _ _ _ _
      | exact impl_ReadNum.mono _ _
      | exact impl_areSyms.mono _ _
      | exact LeO.none _
      | refine LeO.ite ?_ ?_
      | refine LeO.bind ?_ (fun _ => ?_)
theorem impl_ReadSyms.mono : ∀ a0 k, LeO (impl_ReadSyms.f k a0) (impl_ReadSyms.f (k + 1) a0) := by
  intro a0 k
  have ih0 := impl_ReadSyms.mono_l k
  unfold impl_ReadSyms.f
  repeat' first
      | (with_reducible exact ih0 _ _ _ _ _)
      | (with_reducible exact impl_ReadNum.mono _ _)
      | (with_reducible exact impl_areSyms.mono _ _)
      | (with_reducible exact LeO.refl _)
      | (with_reducible exact LeO.none _)
      | (with_reducible refine LeO.ite ?_ ?_)
      | (with_reducible refine LeO.bind ?_ (fun _ => ?_))
      | exact ih0 _ _ _ _ _
      | exact impl_ReadNum.mono _ _
      | exact impl_areSyms.mono _ _
      | exact LeO.none _
      | refine LeO.ite ?_ ?_
      | refine LeO.bind ?_ (fun _ => ?_)
set_option maxHeartbeats 8000000 in
set_option maxRecDepth 100000 in
theorem impl_ReadSyms.calls (k : Nat) (a0 : ByteArray) (r1 : List (S61)) (r2 : Bool) (w : World) (hG : GW w) (h : impl_ReadSyms.f k a0 = some (r1, r2)) :
 Calls Tryd.prog 24 #[.string a0] w fun e w' => ∃ v0_ : Value, e = .returned (.tuple #[v0_, .bool r2]) ∧ Kd.R k61 61 w' w.heap.size (fun _ => True) v0_ r1 ∧ Below w.heap.size w w' := by
 have hu61 := Tryd.underlying61
 have HB := Aside0.mk (Below.refl w.heap.size w)
 have HG := Aside0.mk hG
 clear hG
 have H : ((strings_Split.f a0 (⟨#[10]⟩ : ByteArray)).bind fun t163 => (if (t163.length : Int) > 801 then (some (([] : List (S61)), false)) else (if 0 ≤ (wrap64 ((t163.length : Int) - 1)) then (if (wrap64 ((t163.length : Int) - 1)) ≤ (t163.length : Int) then ((some (t163.take ((wrap64 ((t163.length : Int) - 1)) : Int).toNat : List ByteArray)).bind fun y169 => (impl_ReadSyms.l0 k a0 (([] : List (S61))) y169 (y169.length : Int) 0)) else (none)) else (none)))) = some (r1, r2) := h
 clear h
 obtain ⟨t163, A20, H⟩ := Option.bind_eq_some_iff.mp H
 have A2 := Aside0.mk A20
 clear A20
 by_cases c3 : (t163.length : Int) > 801
 ·rw [if_pos c3] at H
  have c3b0 : decide (801 < (t163.length : Int)) = true := decide_eq_true c3
  have c3b1 : decide (801 < t163.length) = true := decide_eq_true (by omega)
  clear c3
  simp only [Option.some.injEq, Prod.mk.injEq] at H
  obtain ⟨rfl, rfl⟩ := H
  go_enter Tryd.func24, Tryd.ntmps24
  go_wp2_with (first | ((with_reducible refine gate_callee (f := 67) rfl ?_); refine zc (some 13) Tryd.func67 #[.string a0, .string (⟨#[10]⟩ : ByteArray)] ?_; (with_reducible refine (strings_Split.calls a0 (⟨#[10]⟩ : ByteArray) t163 _ ?side1 A2.out).mono ?_); (case side1 => exact GW.below HG.out (zb _)); rintro e w4 ⟨v164, rfl, ho0, hb⟩; refine ⟨_, rfl, ?_⟩; have HO165 := Aside0.mk (Kd.R_lower ho0 (below_size (zb _))); replace HB := zt w hb; (try clear hb); (try clear hb2); (try clear hk); (try clear hi); (try clear ho0); obtain ⟨Ao5, co5, eo5⟩ := Kd.R_slice HO165.out; subst eo5))
  go_ret2
  exact ⟨_, by first | rfl | (simp [errW_none, errW_some] <;> rfl) | (simp [*, errW_none, errW_some] <;> rfl), by first | exact Kd.R_nil _ _ _ _ _ | exact Kd.N_nil _ _ _ _ _ | exact Kd.V_nil _ _ _ _ _ | exact Kd.Q_nil _ _ _ _ _ | exact Kd.S_nil _ _ _ _ _, zb _⟩
 ·rw [if_neg c3] at H
  have c3b0 : decide (801 < (t163.length : Int)) = false := decide_eq_false c3
  have c3b1 : decide (801 < t163.length) = false := decide_eq_false (by omega)
  clear c3
  obtain ⟨y166, hy166⟩ : ∃ y_ : List (S61), y_ = (([] : List (S61))) := ⟨_, rfl⟩
  replace H : (if 0 ≤ (wrap64 ((t163.length : Int) - 1)) then (if (wrap64 ((t163.length : Int) - 1)) ≤ (t163.length : Int) then ((some (t163.take ((wrap64 ((t163.length : Int) - 1)) : Int).toNat : List ByteArray)).bind fun y169 => (impl_ReadSyms.l0 k a0 y166 y169 (y169.length : Int) 0)) else (none)) else (none)) = some (r1, r2) := by first | (rw [hy166]; with_reducible exact H) | (have H2_ := (Option.bind_some _ _).symm.trans H; rw [hy166]; with_reducible exact H2_) | (have H2_ := (Option.bind_some _ _).symm.trans H; with_reducible exact H2_) | with_reducible exact H | (rw [hy166]; exact H) | exact H
  have Ny166 := Aside0.mk hy166
  clear hy166
  obtain ⟨ji6, hji6⟩ : ∃ j_ : Int, (wrap64 ((t163.length : Int) - 1)) = j_ := ⟨_, rfl⟩
  replace H : (if 0 ≤ (ji6) then (if (ji6) ≤ (t163.length : Int) then ((some (t163.take ((ji6) : Int).toNat : List ByteArray)).bind fun y169 => (impl_ReadSyms.l0 k a0 y166 y169 (y169.length : Int) 0)) else (none)) else (none)) = some (r1, r2) := by first | (rw [hji6] at H; exact H) | (simp only [hji6] at H ⊢; exact H)
  (try rw [hji6] at A2)
  have hji6w : (IntKind.i64.wrap ((t163.length : Int) - 1)) = ji6 := (i64_w _).trans hji6
  by_cases c7 : 0 ≤ (ji6)
  ·rw [if_pos c7] at H
   have c7b0 := eq_true c7
   have c7b1 : decide (0 ≤ (ji6)) = true := decide_eq_true c7
   clear c7
   by_cases c8 : (ji6) ≤ (t163.length : Int)
   ·rw [if_pos c8] at H
    have c8b0 := eq_true c8
    have c8b1 : decide ((ji6) ≤ (t163.length : Int)) = true := decide_eq_true c8
    clear c8
    obtain ⟨y169, hy169⟩ : ∃ y_ : List ByteArray, y_ = (t163.take ((ji6) : Int).toNat) := ⟨_, rfl⟩
    replace H : (impl_ReadSyms.l0 k a0 y166 y169 (y169.length : Int) 0) = some (r1, r2) := by first | (rw [hy169]; with_reducible exact H) | (have H2_ := (Option.bind_some _ _).symm.trans H; rw [hy169]; with_reducible exact H2_) | (have H2_ := (Option.bind_some _ _).symm.trans H; with_reducible exact H2_) | with_reducible exact H | (rw [hy169]; exact H) | exact H
    have Ny169 := Aside0.mk hy169
    clear hy169
    have H' := Aside0.mk H
    clear H
    go_enter Tryd.func24, Tryd.ntmps24
    go_wp2_with (first | ((with_reducible refine gate_callee (f := 67) rfl ?_); refine zc (some 13) Tryd.func67 #[.string a0, .string (⟨#[10]⟩ : ByteArray)] ?_; (with_reducible refine (strings_Split.calls a0 (⟨#[10]⟩ : ByteArray) t163 _ ?side1 A2.out).mono ?_); (case side1 => exact GW.below HG.out (zb _)); rintro e w9 ⟨v164, rfl, ho0, hb⟩; refine ⟨_, rfl, ?_⟩; have HO165 := Aside0.mk (Kd.R_lower ho0 (below_size (zb _))); replace HB := zt w hb; (try clear hb); (try clear hb2); (try clear hk); (try clear hi); (try clear ho0); obtain ⟨Ao10, co10, eo10⟩ := Kd.R_slice HO165.out; subst eo10) | ((with_reducible refine gate_dst (N := 17) rfl ?_); refine Kd.R_lit k61 _ 61 ?hg (N := 17) ?hd (xs := ([] : List (S61))) (inner := []) (ok := fun _ => True) (okp := fun _ => True) ?hr ?hp (fun _ hk => hk) trivial (Below.refl _ _) (Nat.le_refl _) (by simp) ?_; (case hd => rfl); (case hg => rfl); (case hr => first | (go_simp; done) | (go_simp; rfl)); (case hp => exact (Reps.none _ _)); intro v167 w11 ho12 hb hg_ hnew_; clear hg_ hnew_; (first | rw [← Ny166.out] at ho12 | (simp only [Int.reduceToNat] at ho12; rw [← Ny166.out] at ho12)); have HO168 := Aside0.mk (Kd.R_lower ho12 (below_size (zb _))); replace HO165 := Aside0.mk (Kd.R_below (by (with_reducible repeat (first | apply Kd.R_alloc | apply Kd.R_drewN | apply Kd.R_drew)); exact HO165.out) hb); replace HB := zt w hb; clear hb ho12; have q13 : ((ji6) : Int) ≤ ((t163.length : Int) : Int) := of_decide_eq_true (za _); obtain ⟨i013, hi013, _, hsz13, _⟩ := info_parts info9; have hroom13 : t163.length ≤ co10 := (Kd.R_reads' HO165.out).2.1; have hC13 : Kd.C Kd.string _ Ao10 t163.length t163 := (Kd.R_reads' HO165.out).2.2; have hcut13 := cut_to (P := Tryd.prog) 66 9 .i64 Tryd.underlying66 hi013 Ao10 t163.length co10 (ji6) (of_decide_eq_true (za _)) q13 hroom13; have hr13 := Kd.C_take (m := ((ji6) : Int).toNat) hC13 (by omega); have hy13 : y169.length = ((ji6) : Int).toNat := (by rw [Ny169.out, List.length_take]; omega); rw [← Ny169.out] at hr13; rw [← hy13] at hcut13; have HR172 := Aside0.mk hr13; have HC172 := Aside0.mk (show y169.length ≤ co10 from by omega); clear hr13 hC13 hroom13 hi013 hsz13; have KY13 := Aside0.mk hy13; clear hy13; have KL13 := Aside0.mk (show ((ji6) : Int).toNat ≤ t163.length from by omega); replace q13 := eq_true q13))
    go_loopg [5, 24] k (fun kq v5 v24 w' => ∃ (x5_1 : List (S61)) (x24_1 : Int), v24 = .int .i64 x24_1 ∧ Aside0 (impl_ReadSyms.l0 kq a0 x5_1 y169 (y169.length : Int) x24_1 = some (r1, r2)) ∧ Aside0 (kq ≤ k) ∧ Aside0 (Kd.R k61 61 w' w.heap.size (fun _ => True) v5 x5_1) ∧ Aside0 (Kd.R Kd.string 9 w' w.heap.size (fun _ => True) (.slice Ao10 t163.length co10) t163) ∧ Aside0 (Below w.heap.size w w'))
    case atStart => exact ⟨(y166), (0), (zE _), H', ⟨Nat.le_refl _⟩, ⟨by (with_reducible repeat (first | apply Kd.R_alloc | apply Kd.R_drewN | apply Kd.R_drew)); exact HO168.out⟩, ⟨by (with_reducible repeat (first | apply Kd.R_alloc | apply Kd.R_drewN | apply Kd.R_drew)); exact HO165.out⟩, ⟨zb _⟩⟩
    case round =>
     clear H'
     try clear q1
     try clear c2
     try clear p2
     try clear c3
     try clear c3b0
     try clear c3b1
     try clear c6
     try clear p6
     try clear c7
     try clear c7b0
     try clear c7b1
     try clear c8
     try clear c8b0
     try clear c8b1
     try clear q13
     try clear q13
     obtain ⟨x5_1, x24_1, rfl, HA, HK1, HO_5, HOL, HB⟩ := hrel
     have HRL := Aside0.mk (Kd.C_take (m := ((ji6) : Int).toNat) (Kd.R_reads' HOL.out).2.2 (by have := KL13.out; omega))
     rw [← Ny169.out] at HRL
     cases gk with
     | zero => exact absurd HA.out (by simp [impl_ReadSyms.l0])
     | succ k1 =>
      have H := HA.out
      clear HA
      simp only [impl_ReadSyms.l0] at H
      by_cases c14 : x24_1 < (y169.length : Int)
      ·rw [if_pos c14] at H
       have c14b0 : decide (x24_1 < (y169.length : Int)) = true := decide_eq_true c14
       clear c14
       by_cases c15 : 0 ≤ x24_1
       ·rw [if_pos c15] at H
        have c15b0 : decide (0 ≤ x24_1) = true := decide_eq_true c15
        clear c15
        by_cases c16 : x24_1 < (y169.length : Int)
        ·rw [if_pos c16] at H
         have c16b0 : decide (x24_1 < (y169.length : Int)) = true := decide_eq_true c16
         clear c16
         by_cases c17 : ((rdOf ByteArray.empty y169 x24_1).size : Int) < 8
         ·rw [if_pos c17] at H
          have c17b0 : decide (((rdOf ByteArray.empty y169 x24_1).size : Int) < 8) = true := decide_eq_true c17
          have c17b1 : decide ((rdOf ByteArray.empty y169 x24_1).size < 8) = true := decide_eq_true (by omega)
          clear c17
          simp only [Option.some.injEq, Prod.mk.injEq] at H
          obtain ⟨rfl, rfl⟩ := H
          have p173 : 0 ≤ (x24_1 : Int) := of_decide_eq_true (za _)
          have q173 : x24_1 < (y169.length : Int) := of_decide_eq_true (za _)
          obtain ⟨ad173, e173, hx173_0⟩ := Kd.at_string HRL.out x24_1 p173 q173
          cases e173
          replace p173 := eq_true p173
          replace q173 := eq_true q173
          go_wp2
          go_ret2
          exact ⟨_, by first | rfl | (simp [errW_none, errW_some] <;> rfl) | (simp only [← hji6]; first | rfl | (simp [errW_none, errW_some] <;> rfl)) | (simp [*, errW_none, errW_some] <;> rfl), by first | exact Kd.R_nil _ _ _ _ _ | exact Kd.N_nil _ _ _ _ _ | exact Kd.V_nil _ _ _ _ _ | exact Kd.Q_nil _ _ _ _ _ | exact Kd.S_nil _ _ _ _ _, zb _⟩
         ·rw [if_neg c17] at H
          have c17b0 : decide (((rdOf ByteArray.empty y169 x24_1).size : Int) < 8) = false := decide_eq_false c17
          have c17b1 : decide ((rdOf ByteArray.empty y169 x24_1).size < 8) = false := decide_eq_false (by omega)
          clear c17
          by_cases c18 : 0 ≤ 2
          ·rw [if_pos c18] at H
           have c18b0 := eq_true c18
           have c18b1 : decide (0 ≤ 2) = true := decide_eq_true c18
           clear c18
           by_cases c19 : 2 ≤ ((rdOf ByteArray.empty y169 x24_1).size : Int)
           ·rw [if_pos c19] at H
            have c19b0 := eq_true c19
            have c19b1 : decide (2 ≤ ((rdOf ByteArray.empty y169 x24_1).size : Int)) = true := decide_eq_true c19
            clear c19
            by_cases c20 : 1 + ((rdOf ByteArray.empty y169 x24_1).extract 0 2).size ≤ 9223372036854775807
            ·rw [if_pos c20] at H
             have c20b0 := eq_true c20
             have c20b1 : decide (1 + ((rdOf ByteArray.empty y169 x24_1).extract 0 2).size ≤ 9223372036854775807) = true := decide_eq_true c20
             try have c20b2 : (9223372036854775807 < 1 + ((rdOf ByteArray.empty y169 x24_1).extract 0 2).size) = False := eq_false (Nat.not_lt.2 c20)
             replace H := Option.bind_eq_some_iff.mp H
             obtain ⟨⟨t174, t175⟩, A210, H⟩ := H
             replace H : (if 3 ≤ 7 then (if 7 ≤ ((rdOf ByteArray.empty y169 x24_1).size : Int) then (if 1 + ((rdOf ByteArray.empty y169 x24_1).extract 3 7).size ≤ 9223372036854775807 then ((impl_ReadNum.f k1 ((⟨#[36]⟩ : ByteArray) ++ ((rdOf ByteArray.empty y169 x24_1).extract 3 7))).bind fun bt176 => (if 8 ≤ ((rdOf ByteArray.empty y169 x24_1).size : Int) then (if x5_1.length < 4398046511104 then (impl_ReadSyms.l0 k1 a0 (x5_1 ++ [(⟨(rdOf ByteArray.empty y169 x24_1).extract 8 (rdOf ByteArray.empty y169 x24_1).size, t174, bt176.1⟩ : S61)]) y169 (y169.length : Int) (wrap64 (x24_1 + 1))) else (none)) else (none))) else (none)) else (none)) else (none)) = some (r1, r2) := H
             have A21 := Aside0.mk A210
             clear A210
             by_cases c22 : 3 ≤ 7
             ·rw [if_pos c22] at H
              have c22b0 := eq_true c22
              have c22b1 : decide (3 ≤ 7) = true := decide_eq_true c22
              clear c22
              by_cases c23 : 7 ≤ ((rdOf ByteArray.empty y169 x24_1).size : Int)
              ·rw [if_pos c23] at H
               have c23b0 := eq_true c23
               have c23b1 : decide (7 ≤ ((rdOf ByteArray.empty y169 x24_1).size : Int)) = true := decide_eq_true c23
               clear c23
               by_cases c24 : 1 + ((rdOf ByteArray.empty y169 x24_1).extract 3 7).size ≤ 9223372036854775807
               ·rw [if_pos c24] at H
                have c24b0 := eq_true c24
                have c24b1 : decide (1 + ((rdOf ByteArray.empty y169 x24_1).extract 3 7).size ≤ 9223372036854775807) = true := decide_eq_true c24
                try have c24b2 : (9223372036854775807 < 1 + ((rdOf ByteArray.empty y169 x24_1).extract 3 7).size) = False := eq_false (Nat.not_lt.2 c24)
                replace H := Option.bind_eq_some_iff.mp H
                obtain ⟨⟨t176, t177⟩, A250, H⟩ := H
                replace H : (if 8 ≤ ((rdOf ByteArray.empty y169 x24_1).size : Int) then (if x5_1.length < 4398046511104 then (impl_ReadSyms.l0 k1 a0 (x5_1 ++ [(⟨(rdOf ByteArray.empty y169 x24_1).extract 8 (rdOf ByteArray.empty y169 x24_1).size, t174, t176⟩ : S61)]) y169 (y169.length : Int) (wrap64 (x24_1 + 1))) else (none)) else (none)) = some (r1, r2) := H
                have A25 := Aside0.mk A250
                clear A250
                by_cases c26 : 8 ≤ ((rdOf ByteArray.empty y169 x24_1).size : Int)
                ·rw [if_pos c26] at H
                 have c26b0 := eq_true c26
                 have c26b1 : decide (8 ≤ ((rdOf ByteArray.empty y169 x24_1).size : Int)) = true := decide_eq_true c26
                 clear c26
                 by_cases c27 : x5_1.length < 4398046511104
                 ·rw [if_pos c27] at H
                  have LMc27 := Aside0.mk c27
                  clear c27
                  obtain ⟨y178, hy178⟩ : ∃ y_ : List (S61), y_ = (x5_1 ++ [(⟨(rdOf ByteArray.empty y169 x24_1).extract 8 (rdOf ByteArray.empty y169 x24_1).size, t174, t176⟩ : S61)]) := ⟨_, rfl⟩
                  replace H : (impl_ReadSyms.l0 k1 a0 y178 y169 (y169.length : Int) (wrap64 (x24_1 + 1))) = some (r1, r2) := by first | (rw [hy178]; with_reducible exact H) | (have H2_ := (Option.bind_some _ _).symm.trans H; rw [hy178]; with_reducible exact H2_) | (have H2_ := (Option.bind_some _ _).symm.trans H; with_reducible exact H2_) | with_reducible exact H | (rw [hy178]; exact H) | exact H
                  have Ny178 := Aside0.mk hy178
                  clear hy178
                  have H' := Aside0.mk H
                  clear H
                  have p173 : 0 ≤ (x24_1 : Int) := of_decide_eq_true (za _)
                  have q173 : x24_1 < (y169.length : Int) := of_decide_eq_true (za _)
                  obtain ⟨ad173, e173, hx173_0⟩ := Kd.at_string HRL.out x24_1 p173 q173
                  cases e173
                  replace p173 := eq_true p173
                  replace q173 := eq_true q173
                  go_wp2_with (first | ((with_reducible refine gate_callee (f := 68) rfl ?_); refine zc (some 35) Tryd.func68 #[.string ((⟨#[36]⟩ : ByteArray) ++ ((rdOf ByteArray.empty y169 x24_1).extract 0 2))] ?_; (with_reducible refine (impl_ReadNum.calls k1 ((⟨#[36]⟩ : ByteArray) ++ ((rdOf ByteArray.empty y169 x24_1).extract 0 2)) t174 t175 _ A21.out).mono ?_); rintro e w' ⟨rfl, ⟨nd, rfl⟩⟩; refine ⟨_, rfl, ?_⟩) | ((with_reducible refine gate_callee (f := 68) rfl ?_); refine zc (some 42) Tryd.func68 #[.string ((⟨#[36]⟩ : ByteArray) ++ ((rdOf ByteArray.empty y169 x24_1).extract 3 7))] ?_; (with_reducible refine (impl_ReadNum.calls k1 ((⟨#[36]⟩ : ByteArray) ++ ((rdOf ByteArray.empty y169 x24_1).extract 3 7)) t176 t177 _ A25.out).mono ?_); rintro e w' ⟨rfl, ⟨nd, rfl⟩⟩; refine ⟨_, rfl, ?_⟩) | ((with_reducible refine gate_builtin (b := .append) (xs := #[.tmp 45, .tmp 51]) rfl ?_); at_builtin; refine Kd.R_append k61 (w0 := w) w.heap.size rfl (.tmp 45) (.tmp 51) 27 61 (.agg #[(.string ⟨#[]⟩), (.int .i64 0), (.int .i64 0)]) 32 rfl Tryd.underlying27 info61 rfl (by decide) (by omega) u5 x5_1 (⟨(rdOf ByteArray.empty y169 x24_1).extract 8 (rdOf ByteArray.empty y169 x24_1).size, t174, t176⟩ : S61) [.string ((rdOf ByteArray.empty y169 x24_1).extract 8 (rdOf ByteArray.empty y169 x24_1).size), .int .i64 t174, .int .i64 t176] (fun _ => True) (fun _ => False) rfl rfl ?aP (fun _ hk => hk.elim) ?aF ?aO ?aB ?aS ?aL ?_; (case aP => exact k61_mkM _ _ _ (⟨(rdOf ByteArray.empty y169 x24_1).extract 8 (rdOf ByteArray.empty y169 x24_1).size, t174, t176⟩ : S61)); (case aB => exact (zb _)); (case aF => exact (fun _ _ => trivial)); (case aO => exact (by (with_reducible repeat (first | apply Kd.R_alloc | apply Kd.R_drewN | apply Kd.R_drew)); exact HO_5.out)); (case aS => exact (below_size (zb _))); (case aL => have := LMc27.out; omega); intro v179 w28 ho hb hg hat; rw [← Ny178.out] at ho; have HOL2 := Aside0.mk (Kd.R_over' (by (with_reducible repeat (first | apply Kd.R_alloc | apply Kd.R_drewN | apply Kd.R_drew)); exact HOL.out) (Kd.R_typed (by (with_reducible repeat (first | apply Kd.R_alloc | apply Kd.R_drewN | apply Kd.R_drew)); exact HO_5.out)) (by decide) hg); have HO180 := Aside0.mk (ho); replace HB := Aside0.mk (hb); clear HO_5; clear ho hb hg hat))
                  go_roundg k1
                  case measure => have := HK1.out; omega
                  case rel => exact ⟨(y178), (wrap64 (x24_1 + 1)), (zE _), H', ⟨by have := HK1.out; omega⟩, ⟨by (with_reducible repeat (first | apply Kd.R_alloc | apply Kd.R_drewN | apply Kd.R_drew)); exact HO180.out⟩, ⟨by (with_reducible repeat (first | apply Kd.R_alloc | apply Kd.R_drewN | apply Kd.R_drew)); exact Kd.R_mono HOL2.out (fun _ hk => trivial)⟩, ⟨zb _⟩⟩
                 ·rw [if_neg c27] at H
                  exact absurd H (by simp)
                ·rw [if_neg c26] at H
                 exact absurd H (by simp)
               ·rw [if_neg c24] at H
                exact absurd H (by simp)
              ·rw [if_neg c23] at H
               exact absurd H (by simp)
             ·rw [if_neg c22] at H
              exact absurd H (by simp)
            ·rw [if_neg c20] at H
             exact absurd H (by simp)
           ·rw [if_neg c19] at H
            exact absurd H (by simp)
          ·rw [if_neg c18] at H
           exact absurd H (by simp)
        ·rw [if_neg c16] at H
         exact absurd H (by simp)
       ·rw [if_neg c15] at H
        exact absurd H (by simp)
      ·rw [if_neg c14] at H
       have c14b0 : decide (x24_1 < (y169.length : Int)) = false := decide_eq_false c14
       clear c14
       obtain ⟨t181, A290, H⟩ := Option.bind_eq_some_iff.mp H
       have A29 := Aside0.mk A290
       clear A290
       by_cases c30 : t181 = true
       ·subst c30
        rw [if_pos rfl] at H
        obtain ⟨t182, A310, H⟩ := Option.bind_eq_some_iff.mp H
        have A31 := Aside0.mk A310
        clear A310
        by_cases c32 : t182.toList = a0.toList
        ·rw [if_pos c32] at H
         have c32b0 : (t182.toList == a0.toList) = true := beq_iff_eq.mpr c32
         have c32b1 : (t182.toList != a0.toList) = false := bne_eq_false_iff_eq.mpr c32
         clear c32
         simp only [Option.some.injEq, Prod.mk.injEq] at H
         obtain ⟨rfl, rfl⟩ := H
         obtain ⟨Ao33, co33, eo33⟩ := Kd.R_slice HO_5.out
         subst eo33
         go_wp2_with (first | ((with_reducible refine gate_callee (f := 55) rfl ?_); refine zc (some 55) Tryd.func55 #[.slice Ao33 x5_1.length co33] ?_; (with_reducible refine (impl_areSyms.calls k1 _ _ x5_1 true _ ?side1 ?side2 A29.out).mono ?_); (case side1 => repeat (first | exact (Kd.R_reads' HO_5.out).2.2 | (with_reducible refine Kd.C_alloc ?_ _) | (with_reducible refine Kd.C_drewN ?_ _) | (with_reducible refine Kd.C_drew ?_))); (case side2 => exact (Kd.R_reads' HO_5.out).2.1); rintro e w34 ⟨rfl, hb⟩; refine ⟨_, rfl, ?_⟩; replace HO_5 := Aside0.mk (Kd.R_below (by (with_reducible repeat (first | apply Kd.R_alloc | apply Kd.R_drewN | apply Kd.R_drew)); exact HO_5.out) hb); replace HB := zt w hb; (try clear hb); (try clear hb2); (try clear hk); (try clear hi)) | (go_at_call 56; (with_reducible refine (impl_symText.calls _ _ x5_1 t182 _ ?side1 ?side2 ?side3 A31.out).mono ?_); (case side1 => repeat (first | exact (Kd.R_reads' HO_5.out).2.2 | (with_reducible refine Kd.C_alloc ?_ _) | (with_reducible refine Kd.C_drewN ?_ _) | (with_reducible refine Kd.C_drew ?_))); (case side2 => exact (Kd.R_reads' HO_5.out).2.1); (case side3 => exact GW.below HG.out (zb _)); rintro e w35 ⟨rfl, hb⟩; replace HO_5 := Aside0.mk (Kd.R_below (by (with_reducible repeat (first | apply Kd.R_alloc | apply Kd.R_drewN | apply Kd.R_drew)); exact HO_5.out) hb); replace HB := zt w hb; (try clear hb); (try clear hb2); (try clear hk); (try clear hi)))
         go_ret2
         exact ⟨_, by first | rfl | (simp [errW_none, errW_some] <;> rfl) | (simp only [← hji6]; first | rfl | (simp [errW_none, errW_some] <;> rfl)) | (simp [*, errW_none, errW_some] <;> rfl), by (with_reducible repeat (first | apply Kd.R_alloc | apply Kd.R_drewN | apply Kd.R_drew)); exact HO_5.out, zb _⟩
        ·rw [if_neg c32] at H
         have c32b0 : (t182.toList == a0.toList) = false := beq_eq_false_iff_ne.mpr c32
         have c32b1 : (t182.toList != a0.toList) = true := bne_iff_ne.mpr c32
         simp only [Option.some.injEq, Prod.mk.injEq] at H
         obtain ⟨rfl, rfl⟩ := H
         obtain ⟨Ao36, co36, eo36⟩ := Kd.R_slice HO_5.out
         subst eo36
         go_wp2_with (first | ((with_reducible refine gate_callee (f := 55) rfl ?_); refine zc (some 55) Tryd.func55 #[.slice Ao36 x5_1.length co36] ?_; (with_reducible refine (impl_areSyms.calls k1 _ _ x5_1 true _ ?side1 ?side2 A29.out).mono ?_); (case side1 => repeat (first | exact (Kd.R_reads' HO_5.out).2.2 | (with_reducible refine Kd.C_alloc ?_ _) | (with_reducible refine Kd.C_drewN ?_ _) | (with_reducible refine Kd.C_drew ?_))); (case side2 => exact (Kd.R_reads' HO_5.out).2.1); rintro e w37 ⟨rfl, hb⟩; refine ⟨_, rfl, ?_⟩; replace HO_5 := Aside0.mk (Kd.R_below (by (with_reducible repeat (first | apply Kd.R_alloc | apply Kd.R_drewN | apply Kd.R_drew)); exact HO_5.out) hb); replace HB := zt w hb; (try clear hb); (try clear hb2); (try clear hk); (try clear hi)) | (go_at_call 56; (with_reducible refine (impl_symText.calls _ _ x5_1 t182 _ ?side1 ?side2 ?side3 A31.out).mono ?_); (case side1 => repeat (first | exact (Kd.R_reads' HO_5.out).2.2 | (with_reducible refine Kd.C_alloc ?_ _) | (with_reducible refine Kd.C_drewN ?_ _) | (with_reducible refine Kd.C_drew ?_))); (case side2 => exact (Kd.R_reads' HO_5.out).2.1); (case side3 => exact GW.below HG.out (zb _)); rintro e w38 ⟨rfl, hb⟩; replace HO_5 := Aside0.mk (Kd.R_below (by (with_reducible repeat (first | apply Kd.R_alloc | apply Kd.R_drewN | apply Kd.R_drew)); exact HO_5.out) hb); replace HB := zt w hb; (try clear hb); (try clear hb2); (try clear hk); (try clear hi)))
         go_ret2
         exact ⟨_, by first | rfl | (simp [errW_none, errW_some] <;> rfl) | (simp only [← hji6]; first | rfl | (simp [errW_none, errW_some] <;> rfl)) | (simp [*, errW_none, errW_some] <;> rfl), by first | exact Kd.R_nil _ _ _ _ _ | exact Kd.N_nil _ _ _ _ _ | exact Kd.V_nil _ _ _ _ _ | exact Kd.Q_nil _ _ _ _ _ | exact Kd.S_nil _ _ _ _ _, zb _⟩
       ·replace c30 := Bool.eq_false_iff.mpr c30
        subst c30
        rw [if_neg (show ¬ (false = true) by decide)] at H
        simp only [Option.some.injEq, Prod.mk.injEq] at H
        obtain ⟨rfl, rfl⟩ := H
        obtain ⟨Ao39, co39, eo39⟩ := Kd.R_slice HO_5.out
        subst eo39
        go_wp2_with (first | ((with_reducible refine gate_callee (f := 55) rfl ?_); refine zc (some 55) Tryd.func55 #[.slice Ao39 x5_1.length co39] ?_; (with_reducible refine (impl_areSyms.calls k1 _ _ x5_1 false _ ?side1 ?side2 A29.out).mono ?_); (case side1 => repeat (first | exact (Kd.R_reads' HO_5.out).2.2 | (with_reducible refine Kd.C_alloc ?_ _) | (with_reducible refine Kd.C_drewN ?_ _) | (with_reducible refine Kd.C_drew ?_))); (case side2 => exact (Kd.R_reads' HO_5.out).2.1); rintro e w40 ⟨rfl, hb⟩; refine ⟨_, rfl, ?_⟩; replace HO_5 := Aside0.mk (Kd.R_below (by (with_reducible repeat (first | apply Kd.R_alloc | apply Kd.R_drewN | apply Kd.R_drew)); exact HO_5.out) hb); replace HB := zt w hb; (try clear hb); (try clear hb2); (try clear hk); (try clear hi)))
        go_ret2
        exact ⟨_, by first | rfl | (simp [errW_none, errW_some] <;> rfl) | (simp only [← hji6]; first | rfl | (simp [errW_none, errW_some] <;> rfl)) | (simp [*, errW_none, errW_some] <;> rfl), by first | exact Kd.R_nil _ _ _ _ _ | exact Kd.N_nil _ _ _ _ _ | exact Kd.V_nil _ _ _ _ _ | exact Kd.Q_nil _ _ _ _ _ | exact Kd.S_nil _ _ _ _ _, zb _⟩
   ·rw [if_neg c8] at H
    exact absurd H (by simp)
  ·rw [if_neg c7] at H
   exact absurd H (by simp)

/-! ### laws_markText: function 69 -/
def laws_markText.l0 : Nat → Int → ByteArray → Option (ByteArray)
  | 0, _, _ => none
  | k + 1, x0, x3 => if x0 > 0 then ((some (([(wrap64 (48 + (Int.tmod x0 10))) % 256] : List Int) : List Int)).bind fun y183 => (if (strOfNums y183).size + x3.size ≤ 9223372036854775807 then (laws_markText.l0 k (wrap64 (Int.tdiv x0 10)) ((strOfNums y183) ++ x3)) else (none))) else (if 1 + x3.size ≤ 9223372036854775807 then (some ((⟨#[109]⟩ : ByteArray) ++ x3)) else (none))
def laws_markText.f (k : Nat) (a0 : Int) : Option (ByteArray) := if a0 ≤ 0 then (some (⟨#[109, 48]⟩ : ByteArray)) else (laws_markText.l0 k a0 (⟨#[]⟩ : ByteArray))
theorem laws_markText.mono_l : ∀ k, (∀ y0 y1, LeO (laws_markText.l0 k y0 y1) (laws_markText.l0 (k + 1) y0 y1))
  | 0 => fun _ _ r h => by simp [laws_markText.l0] at h
  | k + 1 => by
    have ih0 := laws_markText.mono_l k
    · intro y0 y1
      unfold laws_markText.l0
      repeat' first
      | (with_reducible exact ih0 _ _)
      | (with_reducible exact LeO.refl _)
      | (with_reducible exact LeO.none _)
      | (with_reducible refine LeO.ite ?_ ?_)
      | (with_reducible refine LeO.bind ?_ (fun _ => ?_))
      | exact ih0 _ _
      | exact LeO.none _
      | refine LeO.ite ?_ ?_
      | refine LeO.bind ?_ (fun _ => ?_)
theorem laws_markText.mono : ∀ a0 k, LeO (laws_markText.f k a0) (laws_markText.f (k + 1) a0) := by
  intro a0 k
  have ih0 := laws_markText.mono_l k
  unfold laws_markText.f
  repeat' first
      | (with_reducible exact ih0 _ _)
      | (with_reducible exact LeO.refl _)
      | (with_reducible exact LeO.none _)
      | (with_reducible refine LeO.ite ?_ ?_)
      | (with_reducible refine LeO.bind ?_ (fun _ => ?_))
      | exact ih0 _ _
      | exact LeO.none _
      | refine LeO.ite ?_ ?_
      | refine LeO.bind ?_ (fun _ => ?_)
set_option maxHeartbeats 8000000 in
set_option maxRecDepth 100000 in
theorem laws_markText.calls (k : Nat) (a0 : Int) (r : ByteArray) (w : World) (h : laws_markText.f k a0 = some r) :
 Calls Tryd.prog 69 #[.int .i64 a0] w fun e w' => e = .returned (.string r) ∧ Below w.heap.size w w' := by
 have HB := Aside0.mk (Below.refl w.heap.size w)
 have H : (if a0 ≤ 0 then (some (⟨#[109, 48]⟩ : ByteArray)) else (laws_markText.l0 k a0 (⟨#[]⟩ : ByteArray))) = some r := h
 clear h
 by_cases c2 : a0 ≤ 0
 ·rw [if_pos c2] at H
  have c2b0 : decide (a0 ≤ 0) = true := decide_eq_true c2
  clear c2
  obtain rfl := Option.some.inj H
  go_enter Tryd.func69, Tryd.ntmps69
  go_wp2
  first | go_ret | ((try simp only [Exit.inBlock, Exit.then]); apply bodyPost_ret; (exact results_tmp rfl _ _ _); rfl)
  exact ⟨ze _, zb _⟩
 ·rw [if_neg c2] at H
  have c2b0 : decide (a0 ≤ 0) = false := decide_eq_false c2
  clear c2
  have H' := Aside0.mk H
  clear H
  go_enter Tryd.func69, Tryd.ntmps69
  go_wp2
  go_loopg [0, 3] k (fun kq v0 v3 w' => ∃ (x0_1 : Int) (x3_1 : ByteArray), v0 = .int .i64 x0_1 ∧ v3 = .string x3_1 ∧ Aside0 (laws_markText.l0 kq x0_1 x3_1 = some r) ∧ Aside0 (kq ≤ k) ∧ Aside0 (Below w.heap.size w w'))
  case atStart => exact ⟨(a0), ((⟨#[]⟩ : ByteArray)), (zE _), (zE _), H', ⟨Nat.le_refl _⟩, ⟨zb _⟩⟩
  case round =>
   clear H'
   try clear c2
   try clear c2b0
   try clear p2
   obtain ⟨x0_1, x3_1, rfl, rfl, HA, HK1, HB⟩ := hrel
   cases gk with
   | zero => exact absurd HA.out (by simp [laws_markText.l0])
   | succ k1 =>
    have H := HA.out
    clear HA
    simp only [laws_markText.l0] at H
    by_cases c3 : x0_1 > 0
    ·rw [if_pos c3] at H
     have c3b0 : decide (0 < x0_1) = true := decide_eq_true c3
     clear c3
     obtain ⟨y183, hy183⟩ : ∃ y_ : List Int, y_ = (([(wrap64 (48 + (Int.tmod x0_1 10))) % 256] : List Int)) := ⟨_, rfl⟩
     replace H : (if (strOfNums y183).size + x3_1.size ≤ 9223372036854775807 then (laws_markText.l0 k1 (wrap64 (Int.tdiv x0_1 10)) ((strOfNums y183) ++ x3_1)) else (none)) = some r := by first | (rw [hy183]; with_reducible exact H) | (have H2_ := (Option.bind_some _ _).symm.trans H; rw [hy183]; with_reducible exact H2_) | (have H2_ := (Option.bind_some _ _).symm.trans H; with_reducible exact H2_) | with_reducible exact H | (rw [hy183]; exact H) | exact H
     have Ny183 := Aside0.mk hy183
     clear hy183
     by_cases c4 : (strOfNums y183).size + x3_1.size ≤ 9223372036854775807
     ·rw [if_pos c4] at H
      have c4b0 := eq_true c4
      have c4b1 : decide ((strOfNums y183).size + x3_1.size ≤ 9223372036854775807) = true := decide_eq_true c4
      try have c4b2 : (9223372036854775807 < (strOfNums y183).size + x3_1.size) = False := eq_false (Nat.not_lt.2 c4)
      have H' := Aside0.mk H
      clear H
      go_wp2_with (first | ((with_reducible refine gate_dst (N := 12) rfl ?_); refine Kd.R_lit (Kd.int .u8) _ 5 ?hg (N := 12) ?hd (xs := ([(wrap64 (48 + (Int.tmod x0_1 10))) % 256] : List Int)) (inner := [.int .u8 ((wrap64 (48 + (Int.tmod x0_1 10))) % 256)]) (ok := fun _ => True) (okp := fun _ => True) ?hr ?hp (fun _ hk => hk) trivial (Below.refl _ _) (Nat.le_refl _) (by simp) ?_; (case hd => rfl); (case hg => rfl); (case hr => first | (go_simp; done) | (go_simp; rfl)); (case hp => exact (Reps.one (show Kd.M (Kd.int .u8) _ _ _ ((wrap64 (48 + (Int.tmod x0_1 10))) % 256) [.int .u8 ((wrap64 (48 + (Int.tmod x0_1 10))) % 256)] from rfl) (Reps.none _ _))); intro v184 w5 ho6 hb hg_ hnew_; clear hg_ hnew_; (first | rw [← Ny183.out] at ho6 | (simp only [Int.reduceToNat] at ho6; rw [← Ny183.out] at ho6)); have HO185 := Aside0.mk (Kd.R_lower ho6 (below_size (zb _))); replace HB := zt w hb; clear hb ho6; have hcv7 := own_string (P := Tryd.prog) Tryd.underlying93 Tryd.underlying5 Tryd.underlying9 (Kd.own_of_R HO185.out)))
      go_roundg k1
      case measure => have := HK1.out; omega
      case rel => exact ⟨(wrap64 (Int.tdiv x0_1 10)), ((strOfNums y183) ++ x3_1), (zE _), (zE _), H', ⟨by have := HK1.out; omega⟩, ⟨zb _⟩⟩
     ·rw [if_neg c4] at H
      exact absurd H (by simp)
    ·rw [if_neg c3] at H
     have c3b0 : decide (0 < x0_1) = false := decide_eq_false c3
     clear c3
     by_cases c8 : 1 + x3_1.size ≤ 9223372036854775807
     ·rw [if_pos c8] at H
      have c8b0 := eq_true c8
      have c8b1 : decide (1 + x3_1.size ≤ 9223372036854775807) = true := decide_eq_true c8
      try have c8b2 : (9223372036854775807 < 1 + x3_1.size) = False := eq_false (Nat.not_lt.2 c8)
      obtain rfl := Option.some.inj H
      go_wp2
      first | go_ret | ((try simp only [Exit.inBlock, Exit.then]); apply bodyPost_ret; (exact results_tmp rfl _ _ _); rfl)
      exact ⟨ze _, zb _⟩
     ·rw [if_neg c8] at H
      exact absurd H (by simp)

/-! ### laws_markSymS: function 25 -/
def laws_markSymS.l0 : Nat → List (S61) → Int → Int → Option (Int × (List (S61)))
  | 0, _, _, _ => none
  | k + 1, x0, x1, x5 => if x5 < (x0.length : Int) then ((laws_markText.f k x1).bind fun t186 => (if 0 ≤ x5 then ((some (x0.set (x5 : Int).toNat (⟨t186, (rd_T61 x0 x5).f1, (rd_T61 x0 x5).f2⟩ : S61) : List (S61))).bind fun y187 => ((some (y187.set (x5 : Int).toNat (⟨(rd_T61 y187 x5).f0, wrap64 (x1 + 1), (rd_T61 y187 x5).f2⟩ : S61) : List (S61))).bind fun y188 => (laws_markSymS.l0 k (y188.set (x5 : Int).toNat (⟨(rd_T61 y188 x5).f0, (rd_T61 y188 x5).f1, wrap64 ((wrap64 (x1 + 1)) + 1)⟩ : S61)) (wrap64 ((wrap64 ((wrap64 (x1 + 1)) + 1)) + 1)) (wrap64 (x5 + 1))))) else (none))) else (some (x1, x0))
def laws_markSymS.f (k : Nat) (l0 : List (S61)) (a1 : Int) : Option (Int × (List (S61))) := laws_markSymS.l0 k l0 a1 0
theorem laws_markSymS.mono_l : ∀ k, (∀ y0 y1 y2, LeO (laws_markSymS.l0 k y0 y1 y2) (laws_markSymS.l0 (k + 1) y0 y1 y2))
  | 0 => fun _ _ _ r h => by simp [laws_markSymS.l0] at h
  | k + 1 => by
    have ih0 := laws_markSymS.mono_l k
    · intro y0 y1 y2
      unfold laws_markSymS.l0
      repeat' first
      | (with_reducible exact ih0 _ _ _)
      | (with_reducible exact laws_markText.mono _ _)
      | (with_reducible exact LeO.refl _)
      | (with_reducible exact LeO.none _)
      | (with_reducible refine LeO.ite ?_ ?_)
      | (with_reducible refine LeO.bind ?_ (fun _ => ?_))
      | exact ih0 _ _ _
      | exact laws_markText.mono _ _
      | exact LeO.none _
      | refine LeO.ite ?_ ?_
      | refine LeO.bind ?_ (fun _ => ?_)
theorem laws_markSymS.mono : ∀ a0 a1 k, LeO (laws_markSymS.f k a0 a1) (laws_markSymS.f (k + 1) a0 a1) := by
  intro a0 a1 k
  have ih0 := laws_markSymS.mono_l k
  unfold laws_markSymS.f
  repeat' first
      | (with_reducible exact ih0 _ _ _)
      | (with_reducible exact laws_markText.mono _ _)
      | (with_reducible exact LeO.refl _)
      | (with_reducible exact LeO.none _)
      | (with_reducible refine LeO.ite ?_ ?_)
      | (with_reducible refine LeO.bind ?_ (fun _ => ?_))
      | exact ih0 _ _ _
      | exact laws_markText.mono _ _
      | exact LeO.none _
      | refine LeO.ite ?_ ?_
      | refine LeO.bind ?_ (fun _ => ?_)
set_option maxHeartbeats 8000000 in
set_option maxRecDepth 100000 in
theorem laws_markSymS.calls (k : Nat) (P0_ : Nat → Prop) (u9000_ : Value) (l0 : List (S61)) (a1 : Int) (r1 : Int) (r2 : List (S61)) (w0 w : World) (hB : Below w0.heap.size w0 w) (ho0 : Kd.R k61 61 w w0.heap.size P0_ u9000_ l0) (h : laws_markSymS.f k l0 a1 = some (r1, r2)) :
 Calls Tryd.prog 25 #[u9000_, .int .i64 a1] w fun e w' => e = .returned (.int .i64 r1) ∧ Kd.R k61 61 w' w0.heap.size (fun k_ => (P0_ k_ ∨ w.heap.size ≤ k_)) u9000_ r2 ∧ Below w0.heap.size w0 w' ∧ Kept w w' (fun k_ => P0_ k_) := by
 have HO0 := Aside0.mk (show Kd.R k61 61 w w0.heap.size (fun k_ => (P0_ k_ ∨ w.heap.size ≤ k_)) u9000_ l0 from Kd.R_mono ho0 (fun k_ hk => (.inl hk)))
 have HK := Aside0.mk (Kept.refl w (fun k_ => P0_ k_))
 have HW0 := Aside0.mk hB.size
 have HB := Aside0.mk hB
 clear hB
 have H : (laws_markSymS.l0 k l0 a1 0) = some (r1, r2) := h
 clear h
 have H' := Aside0.mk H
 clear H
 go_enter Tryd.func25, Tryd.ntmps25
 go_wp2
 go_loopg [1, 5] k (fun kq v1 v5 w' => ∃ (x0_1 : List (S61)) (x1_1 : Int) (x5_1 : Int), v1 = .int .i64 x1_1 ∧ v5 = .int .i64 x5_1 ∧ Aside0 (laws_markSymS.l0 kq x0_1 x1_1 x5_1 = some (r1, r2)) ∧ Aside0 (kq ≤ k) ∧ Aside0 (Kd.R k61 61 w' w0.heap.size (fun k_ => (P0_ k_ ∨ w.heap.size ≤ k_)) u9000_ x0_1) ∧ Aside0 (Kept w w' (fun k_ => P0_ k_)) ∧ Aside0 (Below w0.heap.size w0 w'))
 case atStart => exact ⟨(l0), (a1), (0), (zE _), (zE _), H', ⟨Nat.le_refl _⟩, ⟨by (with_reducible repeat (first | apply Kd.R_alloc | apply Kd.R_drewN | apply Kd.R_drew)); exact HO0.out⟩, ⟨by repeat (first | (with_reducible first | exact HK.out | apply Kept.alloc | apply Kept.drewN | apply Kept.drew) | exact HK.out)⟩, ⟨zb _⟩⟩
 case round =>
  clear H'
  try clear c2
  try clear p2
  obtain ⟨x0_1, x1_1, x5_1, rfl, rfl, HA, HK1, HO_0, HK, HB⟩ := hrel
  cases gk with
  | zero => exact absurd HA.out (by simp [laws_markSymS.l0])
  | succ k1 =>
   have H := HA.out
   clear HA
   simp only [laws_markSymS.l0] at H
   by_cases c3 : x5_1 < (x0_1.length : Int)
   ·rw [if_pos c3] at H
    have c3b0 : decide (x5_1 < (x0_1.length : Int)) = true := decide_eq_true c3
    clear c3
    obtain ⟨t186, A40, H⟩ := Option.bind_eq_some_iff.mp H
    have A4 := Aside0.mk A40
    clear A40
    by_cases c5 : 0 ≤ x5_1
    ·rw [if_pos c5] at H
     have c5b0 : decide (0 ≤ x5_1) = true := decide_eq_true c5
     clear c5
     obtain ⟨y187, hy187⟩ : ∃ y_ : List (S61), y_ = (x0_1.set (x5_1 : Int).toNat (⟨t186, (rd_T61 x0_1 x5_1).f1, (rd_T61 x0_1 x5_1).f2⟩ : S61)) := ⟨_, rfl⟩
     replace H : ((some (y187.set (x5_1 : Int).toNat (⟨(rd_T61 y187 x5_1).f0, wrap64 (x1_1 + 1), (rd_T61 y187 x5_1).f2⟩ : S61) : List (S61))).bind fun y188 => (laws_markSymS.l0 k1 (y188.set (x5_1 : Int).toNat (⟨(rd_T61 y188 x5_1).f0, (rd_T61 y188 x5_1).f1, wrap64 ((wrap64 (x1_1 + 1)) + 1)⟩ : S61)) (wrap64 ((wrap64 ((wrap64 (x1_1 + 1)) + 1)) + 1)) (wrap64 (x5_1 + 1)))) = some (r1, r2) := by first | (rw [hy187]; with_reducible exact H) | (have H2_ := (Option.bind_some _ _).symm.trans H; rw [hy187]; with_reducible exact H2_) | (have H2_ := (Option.bind_some _ _).symm.trans H; with_reducible exact H2_) | with_reducible exact H | (rw [hy187]; exact H) | exact H
     have Ny187 := Aside0.mk hy187
     clear hy187
     obtain ⟨y188, hy188⟩ : ∃ y_ : List (S61), y_ = (y187.set (x5_1 : Int).toNat (⟨(rd_T61 y187 x5_1).f0, wrap64 (x1_1 + 1), (rd_T61 y187 x5_1).f2⟩ : S61)) := ⟨_, rfl⟩
     replace H : (laws_markSymS.l0 k1 (y188.set (x5_1 : Int).toNat (⟨(rd_T61 y188 x5_1).f0, (rd_T61 y188 x5_1).f1, wrap64 ((wrap64 (x1_1 + 1)) + 1)⟩ : S61)) (wrap64 ((wrap64 ((wrap64 (x1_1 + 1)) + 1)) + 1)) (wrap64 (x5_1 + 1))) = some (r1, r2) := by first | (rw [hy188]; with_reducible exact H) | (have H2_ := (Option.bind_some _ _).symm.trans H; rw [hy188]; with_reducible exact H2_) | (have H2_ := (Option.bind_some _ _).symm.trans H; with_reducible exact H2_) | with_reducible exact H | (rw [hy188]; exact H) | exact H
     have Ny188 := Aside0.mk hy188
     clear hy188
     obtain ⟨y189, hy189⟩ : ∃ y_ : List (S61), y_ = (y188.set (x5_1 : Int).toNat (⟨(rd_T61 y188 x5_1).f0, (rd_T61 y188 x5_1).f1, wrap64 ((wrap64 (x1_1 + 1)) + 1)⟩ : S61)) := ⟨_, rfl⟩
     replace H : (laws_markSymS.l0 k1 y189 (wrap64 ((wrap64 ((wrap64 (x1_1 + 1)) + 1)) + 1)) (wrap64 (x5_1 + 1))) = some (r1, r2) := by first | (rw [hy189]; with_reducible exact H) | (have H2_ := (Option.bind_some _ _).symm.trans H; rw [hy189]; with_reducible exact H2_) | (have H2_ := (Option.bind_some _ _).symm.trans H; with_reducible exact H2_) | with_reducible exact H | (rw [hy189]; exact H) | exact H
     have Ny189 := Aside0.mk hy189
     clear hy189
     have H' := Aside0.mk H
     clear H
     obtain ⟨Ao9, co9, eo9⟩ := Kd.R_slice HO_0.out
     subst eo9
     go_wp2_with (first | ((with_reducible refine gate_callee (f := 69) rfl ?_); refine zc (some 15) Tryd.func69 #[.int .i64 x1_1] ?_; (with_reducible refine (laws_markText.calls k1 x1_1 t186 _ A4.out).mono ?_); rintro e w10 ⟨rfl, hb⟩; refine ⟨_, rfl, ?_⟩; replace HO_0 := Aside0.mk (Kd.R_below (by (with_reducible repeat (first | apply Kd.R_alloc | apply Kd.R_drewN | apply Kd.R_drew)); exact HO_0.out) hb); replace HK := Aside0.mk (Kept.below (S := (fun k_ => P0_ k_)) (by repeat (first | (with_reducible first | exact HK.out | apply Kept.alloc | apply Kept.drewN | apply Kept.drew) | exact HK.out)) hb); replace HB := zt w0 hb; (try clear hb); (try clear hb2); (try clear hk); (try clear hi); have p6 : 0 ≤ (x5_1 : Int) := of_decide_eq_true (za _); have q6 : (x5_1 : Int) < ((x0_1.length : Int) : Int) := of_decide_eq_true (za _); obtain ⟨go6, co6, eo6, gb6, gl6, cl6, HG6⟩ := Kd.R_form HO_0.out (by omega); (first | cases eo6 | (injection eo6 with ea_ en_ ec_; (first | subst ea_ | (injection ea_ with ea_; subst ea_)); subst ec_; clear en_)); have GB6 := Aside0.mk gb6; have GG6 := Aside0.mk HG6; clear gb6 gl6 HG6; have HMgo6 := Aside0.mk (show (P0_ go6 ∨ w.heap.size ≤ go6) from (HO_0.out.1 _ rfl)); obtain ⟨ce6, hcl6, hM6, hcc6, hfr6⟩ := Kd.R_elem HO_0.out z61 (x5_1 : Int) p6 q6; obtain rfl := k61_openM hM6; have hx6_0 : w10.cell? ⟨go6, (x5_1 : Int).toNat * 3, none⟩ = some (.string ((rd_T61 x0_1 x5_1).f0)) := hcc6 0 _ rfl; have hx6_1 : w10.cell? ⟨go6, (x5_1 : Int).toNat * 3 + 1, none⟩ = some (.int .i64 ((rd_T61 x0_1 x5_1).f1)) := hcc6 1 _ rfl; have hx6_2 : w10.cell? ⟨go6, (x5_1 : Int).toNat * 3 + 2, none⟩ = some (.int .i64 ((rd_T61 x0_1 x5_1).f2)) := hcc6 2 _ rfl; have hf6_0 : w10.frozen? ⟨go6, (x5_1 : Int).toNat * 3, none⟩ = false := hfr6 0; have hf6_1 : w10.frozen? ⟨go6, (x5_1 : Int).toNat * 3 + 1, none⟩ = false := hfr6 1; have hf6_2 : w10.frozen? ⟨go6, (x5_1 : Int).toNat * 3 + 2, none⟩ = false := hfr6 2; (try clear hM6); clear hcl6 hcc6 hfr6; replace p6 := eq_true p6; replace q6 := eq_true q6; have HX11 := Aside0.mk (show Kd.R k61 61 w10 w0.heap.size (fun k_ => (P0_ k_ ∨ w.heap.size ≤ k_)) (.slice (some ⟨go6, 0, none⟩) x0_1.length co9) x0_1 from (by (with_reducible repeat (first | apply Kd.R_alloc | apply Kd.R_drewN | apply Kd.R_drew)); exact HO_0.out)); obtain ⟨ce11, hcl11, hM11, hcc11, hfr11⟩ := Kd.R_elem HX11.out z61 (x5_1 : Int) (of_decide_eq_true (za _)) (by have h_ : (x5_1 : Int) < ((x0_1.length : Int) : Int) := of_decide_eq_true (za _); first | exact h_ | (have e_ := (Kd.R_reads' HO_0.out).1; omega) | simpa using h_); obtain rfl := k61_openM hM11; have HP11 := Kd.R_seg HX11.out (x5_1 : Int) (of_decide_eq_true (za _)) (by have h_ : (x5_1 : Int) < ((x0_1.length : Int) : Int) := of_decide_eq_true (za _); first | exact h_ | (have e_ := (Kd.R_reads' HO_0.out).1; omega) | simpa using h_) (seg := [.string t186]) (j := 0) hcl11 hcc11 (show 1 ≤ 3 from by decide) (x' := (⟨t186, (rd_T61 x0_1 x5_1).f1, (rd_T61 x0_1 x5_1).f2⟩ : S61)) (k61_mkM _ _ _ (⟨t186, (rd_T61 x0_1 x5_1).f1, (rd_T61 x0_1 x5_1).f2⟩ : S61) ) (fun _ hk => hk); have hx11_0 := hcc11 0 _ rfl; (try simp only [show (k61).sz = 3 from rfl, Nat.mul_one, Nat.add_zero] at hx11_0); have hf11_0 := hfr11 0; (try simp only [show (k61).sz = 3 from rfl, Nat.mul_one, Nat.add_zero] at hf11_0); (try clear hM11); clear hcl11 hcc11 hfr11) | ((with_reducible refine gate_store (t := 9) (p := 17) rfl ?_); refine store_event (t := 9) (p := 17) (v := ?vo_w12) (w1 := (w10.setCell ⟨go6, (x5_1 : Int).toNat * 3, none⟩ (.string t186))) ?hg ?ho ?hn ?hr ?_; (case ho => rfl); (case hg => rfl); (case hn => rfl); (case hr => first | (go_simp; done) | (go_simp; rfl)); intro w12 hw; have hg : w10.grownBy w12 (some go6) := (by rw [hw]; exact HP11.2); have hp_ : Kd.R k61 61 w12 w0.heap.size (fun k_ => (P0_ k_ ∨ w.heap.size ≤ k_)) (.slice (some ⟨go6, 0, none⟩) x0_1.length co9) y187 := (by rw [hw, Ny187.out]; exact HP11.1); clear HP11; have n0_ := Aside0.mk (hp_); have n1_ := Aside0.mk ((by rw [hw]; exact below_set (HB.out) GB6.out : Below w0.heap.size w0 w12)); have n2_ := Aside0.mk (Kept.of_grown (S := (fun k_ => P0_ k_)) hg (by repeat (first | (with_reducible first | exact HK.out | apply Kept.alloc | apply Kept.drewN | apply Kept.drew) | exact HK.out)) (fun k_ e_ => (HO_0.out.1 k_ e_))); clear HO_0; clear HB; clear HK; have HO_0 := n0_; have HB := n1_; have HK := n2_; clear n0_ n1_ n2_; clear hg hw hp_; have p7 : 0 ≤ (x5_1 : Int) := of_decide_eq_true (za _); have q7 : (x5_1 : Int) < ((x0_1.length : Int) : Int) := of_decide_eq_true (za _); obtain ⟨ce7, hcl7, hM7, hcc7, hfr7⟩ := Kd.R_elem HO_0.out z61 (x5_1 : Int) p7 q7; obtain rfl := k61_openM hM7; have hx7_0 : w12.cell? ⟨go6, (x5_1 : Int).toNat * 3, none⟩ = some (.string ((rd_T61 y187 x5_1).f0)) := hcc7 0 _ rfl; have hx7_1 : w12.cell? ⟨go6, (x5_1 : Int).toNat * 3 + 1, none⟩ = some (.int .i64 ((rd_T61 y187 x5_1).f1)) := hcc7 1 _ rfl; have hx7_2 : w12.cell? ⟨go6, (x5_1 : Int).toNat * 3 + 2, none⟩ = some (.int .i64 ((rd_T61 y187 x5_1).f2)) := hcc7 2 _ rfl; have hf7_0 : w12.frozen? ⟨go6, (x5_1 : Int).toNat * 3, none⟩ = false := hfr7 0; have hf7_1 : w12.frozen? ⟨go6, (x5_1 : Int).toNat * 3 + 1, none⟩ = false := hfr7 1; have hf7_2 : w12.frozen? ⟨go6, (x5_1 : Int).toNat * 3 + 2, none⟩ = false := hfr7 2; (try clear hM7); clear hcl7 hcc7 hfr7; replace p7 := eq_true p7; replace q7 := eq_true q7; have HX13 := Aside0.mk (show Kd.R k61 61 w12 w0.heap.size (fun k_ => (P0_ k_ ∨ w.heap.size ≤ k_)) (.slice (some ⟨go6, 0, none⟩) x0_1.length co9) y187 from (by (with_reducible repeat (first | apply Kd.R_alloc | apply Kd.R_drewN | apply Kd.R_drew)); exact HO_0.out)); obtain ⟨ce13, hcl13, hM13, hcc13, hfr13⟩ := Kd.R_elem HX13.out z61 (x5_1 : Int) (of_decide_eq_true (za _)) (by have h_ : (x5_1 : Int) < ((x0_1.length : Int) : Int) := of_decide_eq_true (za _); first | exact h_ | (have e_ := (Kd.R_reads' HO_0.out).1; omega) | simpa using h_); obtain rfl := k61_openM hM13; have HP13 := Kd.R_seg HX13.out (x5_1 : Int) (of_decide_eq_true (za _)) (by have h_ : (x5_1 : Int) < ((x0_1.length : Int) : Int) := of_decide_eq_true (za _); first | exact h_ | (have e_ := (Kd.R_reads' HO_0.out).1; omega) | simpa using h_) (seg := [.int .i64 (wrap64 (x1_1 + 1))]) (j := 1) hcl13 hcc13 (show 2 ≤ 3 from by decide) (x' := (⟨(rd_T61 y187 x5_1).f0, wrap64 (x1_1 + 1), (rd_T61 y187 x5_1).f2⟩ : S61)) (k61_mkM _ _ _ (⟨(rd_T61 y187 x5_1).f0, wrap64 (x1_1 + 1), (rd_T61 y187 x5_1).f2⟩ : S61) ) (fun _ hk => hk); have hx13_1 := hcc13 1 _ rfl; (try simp only [show (k61).sz = 3 from rfl, Nat.mul_one, Nat.add_zero] at hx13_1); have hf13_1 := hfr13 1; (try simp only [show (k61).sz = 3 from rfl, Nat.mul_one, Nat.add_zero] at hf13_1); (try clear hM13); clear hcl13 hcc13 hfr13) | ((with_reducible refine gate_store (t := 2) (p := 24) rfl ?_); refine store_event (t := 2) (p := 24) (v := ?vo_w14) (w1 := (w12.setCell ⟨go6, (x5_1 : Int).toNat * 3 + 1, none⟩ (.int .i64 (wrap64 (x1_1 + 1))))) ?hg ?ho ?hn ?hr ?_; (case ho => rfl); (case hg => rfl); (case hn => rfl); (case hr => first | (go_simp; done) | (go_simp; rfl)); intro w14 hw; have hg : w12.grownBy w14 (some go6) := (by rw [hw]; exact HP13.2); have hp_ : Kd.R k61 61 w14 w0.heap.size (fun k_ => (P0_ k_ ∨ w.heap.size ≤ k_)) (.slice (some ⟨go6, 0, none⟩) x0_1.length co9) y188 := (by rw [hw, Ny188.out]; exact HP13.1); clear HP13; have n0_ := Aside0.mk (hp_); have n1_ := Aside0.mk ((by rw [hw]; exact below_set (HB.out) GB6.out : Below w0.heap.size w0 w14)); have n2_ := Aside0.mk (Kept.of_grown (S := (fun k_ => P0_ k_)) hg (by repeat (first | (with_reducible first | exact HK.out | apply Kept.alloc | apply Kept.drewN | apply Kept.drew) | exact HK.out)) (fun k_ e_ => (HO_0.out.1 k_ e_))); clear HO_0; clear HB; clear HK; have HO_0 := n0_; have HB := n1_; have HK := n2_; clear n0_ n1_ n2_; clear hg hw hp_; have p8 : 0 ≤ (x5_1 : Int) := of_decide_eq_true (za _); have q8 : (x5_1 : Int) < ((x0_1.length : Int) : Int) := of_decide_eq_true (za _); obtain ⟨ce8, hcl8, hM8, hcc8, hfr8⟩ := Kd.R_elem HO_0.out z61 (x5_1 : Int) p8 q8; obtain rfl := k61_openM hM8; have hx8_0 : w14.cell? ⟨go6, (x5_1 : Int).toNat * 3, none⟩ = some (.string ((rd_T61 y188 x5_1).f0)) := hcc8 0 _ rfl; have hx8_1 : w14.cell? ⟨go6, (x5_1 : Int).toNat * 3 + 1, none⟩ = some (.int .i64 ((rd_T61 y188 x5_1).f1)) := hcc8 1 _ rfl; have hx8_2 : w14.cell? ⟨go6, (x5_1 : Int).toNat * 3 + 2, none⟩ = some (.int .i64 ((rd_T61 y188 x5_1).f2)) := hcc8 2 _ rfl; have hf8_0 : w14.frozen? ⟨go6, (x5_1 : Int).toNat * 3, none⟩ = false := hfr8 0; have hf8_1 : w14.frozen? ⟨go6, (x5_1 : Int).toNat * 3 + 1, none⟩ = false := hfr8 1; have hf8_2 : w14.frozen? ⟨go6, (x5_1 : Int).toNat * 3 + 2, none⟩ = false := hfr8 2; (try clear hM8); clear hcl8 hcc8 hfr8; replace p8 := eq_true p8; replace q8 := eq_true q8; have HX15 := Aside0.mk (show Kd.R k61 61 w14 w0.heap.size (fun k_ => (P0_ k_ ∨ w.heap.size ≤ k_)) (.slice (some ⟨go6, 0, none⟩) x0_1.length co9) y188 from (by (with_reducible repeat (first | apply Kd.R_alloc | apply Kd.R_drewN | apply Kd.R_drew)); exact HO_0.out)); obtain ⟨ce15, hcl15, hM15, hcc15, hfr15⟩ := Kd.R_elem HX15.out z61 (x5_1 : Int) (of_decide_eq_true (za _)) (by have h_ : (x5_1 : Int) < ((x0_1.length : Int) : Int) := of_decide_eq_true (za _); first | exact h_ | (have e_ := (Kd.R_reads' HO_0.out).1; omega) | simpa using h_); obtain rfl := k61_openM hM15; have HP15 := Kd.R_seg HX15.out (x5_1 : Int) (of_decide_eq_true (za _)) (by have h_ : (x5_1 : Int) < ((x0_1.length : Int) : Int) := of_decide_eq_true (za _); first | exact h_ | (have e_ := (Kd.R_reads' HO_0.out).1; omega) | simpa using h_) (seg := [.int .i64 (wrap64 ((wrap64 (x1_1 + 1)) + 1))]) (j := 2) hcl15 hcc15 (show 3 ≤ 3 from by decide) (x' := (⟨(rd_T61 y188 x5_1).f0, (rd_T61 y188 x5_1).f1, wrap64 ((wrap64 (x1_1 + 1)) + 1)⟩ : S61)) (k61_mkM _ _ _ (⟨(rd_T61 y188 x5_1).f0, (rd_T61 y188 x5_1).f1, wrap64 ((wrap64 (x1_1 + 1)) + 1)⟩ : S61) ) (fun _ hk => hk); have hx15_2 := hcc15 2 _ rfl; (try simp only [show (k61).sz = 3 from rfl, Nat.mul_one, Nat.add_zero] at hx15_2); have hf15_2 := hfr15 2; (try simp only [show (k61).sz = 3 from rfl, Nat.mul_one, Nat.add_zero] at hf15_2); (try clear hM15); clear hcl15 hcc15 hfr15) | ((with_reducible refine gate_store (t := 2) (p := 31) rfl ?_); refine store_event (t := 2) (p := 31) (v := ?vo_w16) (w1 := (w14.setCell ⟨go6, (x5_1 : Int).toNat * 3 + 2, none⟩ (.int .i64 (wrap64 ((wrap64 (x1_1 + 1)) + 1))))) ?hg ?ho ?hn ?hr ?_; (case ho => rfl); (case hg => rfl); (case hn => rfl); (case hr => first | (go_simp; done) | (go_simp; rfl)); intro w16 hw; have hg : w14.grownBy w16 (some go6) := (by rw [hw]; exact HP15.2); have hp_ : Kd.R k61 61 w16 w0.heap.size (fun k_ => (P0_ k_ ∨ w.heap.size ≤ k_)) (.slice (some ⟨go6, 0, none⟩) x0_1.length co9) y189 := (by rw [hw, Ny189.out]; exact HP15.1); clear HP15; have n0_ := Aside0.mk (hp_); have n1_ := Aside0.mk ((by rw [hw]; exact below_set (HB.out) GB6.out : Below w0.heap.size w0 w16)); have n2_ := Aside0.mk (Kept.of_grown (S := (fun k_ => P0_ k_)) hg (by repeat (first | (with_reducible first | exact HK.out | apply Kept.alloc | apply Kept.drewN | apply Kept.drew) | exact HK.out)) (fun k_ e_ => (HO_0.out.1 k_ e_))); clear HO_0; clear HB; clear HK; have HO_0 := n0_; have HB := n1_; have HK := n2_; clear n0_ n1_ n2_; clear hg hw hp_))
     go_roundg k1
     case measure => have := HK1.out; omega
     case rel => exact ⟨(y189), (wrap64 ((wrap64 ((wrap64 (x1_1 + 1)) + 1)) + 1)), (wrap64 (x5_1 + 1)), (zE _), (zE _), H', ⟨by have := HK1.out; omega⟩, ⟨by (with_reducible repeat (first | apply Kd.R_alloc | apply Kd.R_drewN | apply Kd.R_drew)); exact HO_0.out⟩, ⟨by repeat (first | (with_reducible first | exact HK.out | apply Kept.alloc | apply Kept.drewN | apply Kept.drew) | exact HK.out)⟩, ⟨zb _⟩⟩
    ·rw [if_neg c5] at H
     exact absurd H (by simp)
   ·rw [if_neg c3] at H
    have c3b0 : decide (x5_1 < (x0_1.length : Int)) = false := decide_eq_false c3
    clear c3
    simp only [Option.some.injEq, Prod.mk.injEq] at H
    obtain ⟨rfl, rfl⟩ := H
    obtain ⟨Ao17, co17, eo17⟩ := Kd.R_slice HO_0.out
    subst eo17
    go_wp2
    first | go_ret | ((try simp only [Exit.inBlock, Exit.then]); apply bodyPost_ret; (exact results_tmp rfl _ _ _); rfl)
    exact ⟨ze _, by (with_reducible repeat (first | apply Kd.R_alloc | apply Kd.R_drewN | apply Kd.R_drew)); exact HO_0.out, by repeat (first | (with_reducible first | exact HB.out | apply below_alloc | apply pw_below_drewN | apply below_drew1) | exact HB.out), by repeat (first | (with_reducible first | exact HK.out | apply Kept.alloc | apply Kept.drewN | apply Kept.drew) | exact HK.out)⟩

end Go.Proofs.YtmiebnpmckjidaaDoor.PFnExactReadSyms
