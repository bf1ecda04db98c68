/- What the Go functions that the law FnExactObjectText reaches compute, function by function, and that Go comes to just that. -/
import Derived.Test.YtlacpadpdfccmaaGreatDoorPFnExactObjectTextx0
import Derived.Test.YtlacpadpdfccmaaGreatDoorAidZ
import Derived.Test.YtlacpadpdfccmaaGreatDoorPFnExactObjectTextx2
namespace Go.Proofs.YtlacpadpdfccmaaGreatDoor.PFnExactObjectText
open Go.RowKit Go.Proofs.YtlacpadpdfccmaaGreatDoor.Z Go.Proofs.YtlacpadpdfccmaaGreatDoorW.PrintWords Go.Proofs.YtlacpadpdfccmaaGreatDoorW.PrintLast Go.Proofs.YtlacpadpdfccmaaGreatDoorW.PrintMore
attribute [local go_sem] max2_int min2_int max_two min_two max_three min_three max_four min_four   -- for this text's walks alone
set_option linter.unusedVariables false
set_option linter.unusedSimpArgs false

def impl_exprText.l0 : Nat → List ByteArray → List (S124) → Int → Int → Option (ByteArray)
  | 0, _, _, _, _ => none
  | k + 1, x3, x7, x8, x9 => if x9 < x8 then (if 0 ≤ x9 then (if x9 < (x7.length : Int) then (if ((rd_T124 x7 x9).f0) = 1 then ((impl_decimal.f ((rd_T124 x7 x9).f1)).bind fun t353 => (if x3.length < 8796093022208 then (impl_exprText.l0 k (x3 ++ [t353]) x7 x8 (wrap64 (x9 + 1))) else (none))) else (if ((rd_T124 x7 x9).f0) = 2 then (if x3.length < 8796093022208 then (impl_exprText.l0 k (x3 ++ [(rd_T124 x7 x9).f2]) x7 x8 (wrap64 (x9 + 1))) else (none)) else (if ((rd_T124 x7 x9).f0) = 3 then (if 1 + ((rd_T124 x7 x9).f2).size ≤ 9223372036854775807 then (if x3.length < 8796093022208 then (impl_exprText.l0 k (x3 ++ [(⟨#[35]⟩ : ByteArray) ++ ((rd_T124 x7 x9).f2)]) x7 x8 (wrap64 (x9 + 1))) else (none)) else (none)) else ((impl_opWords.f).bind fun t363 => (if 0 ≤ (wrap64 (((rd_T124 x7 x9).f0) - 4)) then (if (wrap64 (((rd_T124 x7 x9).f0) - 4)) < (t363.length : Int) then (if x3.length < 8796093022208 then (impl_exprText.l0 k (x3 ++ [rdOf ByteArray.empty t363 (wrap64 (((rd_T124 x7 x9).f0) - 4))]) x7 x8 (wrap64 (x9 + 1))) else (none)) else (none)) else (none)))))) else (none)) else (none)) else ((strings_Join.f x3 (⟨#[32]⟩ : ByteArray)).bind fun t350 => (some t350))
def impl_exprText.f (k : Nat) (l0 : List (S124)) : Option (ByteArray) := impl_exprText.l0 k (([] : List ByteArray)) l0 (l0.length : Int) 0
theorem impl_exprText.mono_l : ∀ k, (∀ y0 y1 y2 y3, LeO (impl_exprText.l0 k y0 y1 y2 y3) (impl_exprText.l0 (k + 1) y0 y1 y2 y3))
  | 0 => fun _ _ _ _ r h => by simp [impl_exprText.l0] at h
  | k + 1 => by
    have ih0 := impl_exprText.mono_l k
    · intro y0 y1 y2 y3
      unfold impl_exprText.l0
      repeat' with_reducible first | exact ih0 _ _ _ _ | exact LeO.refl _ | exact LeO.none _ | refine LeO.ite ?_ ?_ | refine LeO.bind ?_ (fun _ => ?_)
theorem impl_exprText.mono : ∀ a0 k, LeO (impl_exprText.f k a0) (impl_exprText.f (k + 1) a0) := by
  intro a0 k
  have ih0 := impl_exprText.mono_l k
  unfold impl_exprText.f
  repeat' with_reducible first | exact ih0 _ _ _ _ | exact LeO.refl _ | exact LeO.none _ | refine LeO.ite ?_ ?_ | refine LeO.bind ?_ (fun _ => ?_)
def impl_exprText.T6 : Bool × List (List Nat × List Nat) := (true, [([], []), ([], []), ([], []), ([2], [2]), ([3], [3]), ([1, 4], [1, 4]), ([5], [5]), ([6], [6]), ([0, 7, 1], [0, 7]), ([8, 8, 0, 1, 2, 3, 4, 5, 6, 7, 8], [0, 8])])
def impl_exprText.B6 : List Nat := [0, 0, 0, 4, 12, 30, 62, 126, 255, 511]
theorem impl_exprText.tab6 : rtab .any (opsOf Tryz.f62 6) = impl_exprText.T6 := by kernel_rfl
theorem impl_exprText.bits6 : waitsOk impl_exprText.T6.2 impl_exprText.B6 = true := by kernel_rfl
set_option maxHeartbeats 8000000 in
set_option maxRecDepth 100000 in
theorem impl_exprText.calls (k : Nat) (A0 : Option Addr) (c0 : Nat) (l0 : List (S124)) (r : ByteArray) (w : World) (hr0 : Kd.C k124 w A0 l0.length l0) (hc0 : l0.length ≤ c0) (hG : GW w) (h : impl_exprText.f k l0 = some r) :
 Calls Tryz.prog 62 #[.slice A0 l0.length c0] w fun e w' => e = .returned (.string r) ∧ Below w.heap.size w w' := by
 have hu124 := Tryz.underlying124
 have HR0 := Aside0.mk hr0
 have HC0 := Aside0.mk hc0
 clear hr0 hc0
 have HB := Aside0.mk (Below.refl w.heap.size w)
 have HG := Aside0.mk hG
 clear hG
 have H : (impl_exprText.l0 k (([] : List ByteArray)) l0 (l0.length : Int) 0) = some r := h
 clear h
 obtain ⟨y347, hy347⟩ : ∃ y_ : List ByteArray, y_ = (([] : List ByteArray)) := ⟨_, rfl⟩
 replace H : (impl_exprText.l0 k y347 l0 (l0.length : Int) 0) = some r := by first | (rw [hy347]; with_reducible exact H) | (have H2_ := (Option.bind_some _ _).symm.trans H; rw [hy347]; with_reducible exact H2_) | (have H2_ := (Option.bind_some _ _).symm.trans H; with_reducible exact H2_) | with_reducible exact H | (rw [hy347]; exact H) | exact H
 have Ny347 := Aside0.mk hy347
 clear hy347
 have H' := Aside0.mk H
 clear H
 go_enter Tryz.func62, Tryz.ntmps62
 go_wp2_with (first | ((with_reducible refine gate_dst (N := 6) rfl ?_); refine Kd.R_lit Kd.string _ 9 ?hg (N := 6) ?hd (xs := ([] : List ByteArray)) (inner := []) (ok := fun _ => True) (okp := fun _ => True) ?hr ?hp (fun _ hk => hk) trivial (Below.refl _ _) (Nat.le_refl _) (by simp) ?_; (case hd => rfl); (case hg => rfl); (case hr => first | (go_simp; done) | (go_simp; rfl)); (case hp => exact (Reps.none _ _)); intro v348 w2 ho3 hb hg_ hnew_; clear hg_ hnew_; (first | rw [← Ny347.out] at ho3 | (simp only [Int.reduceToNat] at ho3; rw [← Ny347.out] at ho3)); have HO349 := Aside0.mk (Kd.R_lower ho3 (below_size (zb _))); replace HB := zt w hb; clear hb ho3))
 go_loopg [3, 9] k (fun kq v3 v9 w' => ∃ (x3_1 : List ByteArray) (x9_1 : Int), v9 = .int .i64 x9_1 ∧ Aside0 (impl_exprText.l0 kq x3_1 l0 (l0.length : Int) x9_1 = some r) ∧ Aside0 (kq ≤ k) ∧ Aside0 (Kd.R Kd.string 9 w' w.heap.size (fun _ => True) v3 x3_1) ∧ Aside0 (Below w.heap.size w w'))
 case atStart => exact ⟨(y347), (0), (zE _), H', ⟨Nat.le_refl _⟩, ⟨by (with_reducible repeat (first | apply Kd.R_alloc | apply Kd.R_drewN | apply Kd.R_drew)); exact HO349.out⟩, ⟨zb _⟩⟩
 case round =>
  clear H'
  obtain ⟨x3_1, x9_1, rfl, HA, HK1, HO_3, HB⟩ := hrel
  cases gk with
  | zero => exact absurd HA.out (by simp [impl_exprText.l0])
  | succ k1 =>
   have H := HA.out
   clear HA
   simp only [impl_exprText.l0] at H
   by_cases c4 : x9_1 < (l0.length : Int)
   ·rw [if_pos c4] at H
    have c4b0 : decide (x9_1 < (l0.length : Int)) = true := decide_eq_true c4
    clear c4
    by_cases c5 : 0 ≤ x9_1
    ·rw [if_pos c5] at H
     have c5b0 : decide (0 ≤ x9_1) = true := decide_eq_true c5
     clear c5
     by_cases c6 : x9_1 < (l0.length : Int)
     ·rw [if_pos c6] at H
      have c6b0 : decide (x9_1 < (l0.length : Int)) = true := decide_eq_true c6
      clear c6
      by_cases c7 : ((rd_T124 l0 x9_1).f0) = 1
      ·rw [if_pos c7] at H
       have c7b0 : (((rd_T124 l0 x9_1).f0) == 1) = true := beq_iff_eq.mpr c7
       have c7b1 : (((rd_T124 l0 x9_1).f0) != 1) = false := bne_eq_false_iff_eq.mpr c7
       clear c7
       obtain ⟨t353, A80, H⟩ := Option.bind_eq_some_iff.mp H
       have A8 := Aside0.mk A80
       clear A80
       by_cases c9 : x3_1.length < 8796093022208
       ·rw [if_pos c9] at H
        have LMc9 := Aside0.mk c9
        clear c9
        obtain ⟨y354, hy354⟩ : ∃ y_ : List ByteArray, y_ = (x3_1 ++ [t353]) := ⟨_, rfl⟩
        replace H : (impl_exprText.l0 k1 y354 l0 (l0.length : Int) (wrap64 (x9_1 + 1))) = some r := by first | (rw [hy354]; with_reducible exact H) | (have H2_ := (Option.bind_some _ _).symm.trans H; rw [hy354]; with_reducible exact H2_) | (have H2_ := (Option.bind_some _ _).symm.trans H; with_reducible exact H2_) | with_reducible exact H | (rw [hy354]; exact H) | exact H
        have Ny354 := Aside0.mk hy354
        clear hy354
        have H' := Aside0.mk H
        clear H
        have p351 : 0 ≤ (x9_1 : Int) := of_decide_eq_true (za _)
        have q351 : x9_1 < (l0.length : Int) := of_decide_eq_true (za _)
        obtain ⟨ad351, e351, hx351_0, hx351_1, hx351_2⟩ := at_T124 HR0.out x9_1 p351 q351
        cases e351
        replace hx351_0 := zx HB hx351_0
        replace hx351_1 := zx HB hx351_1
        replace hx351_2 := zx HB hx351_2
        replace p351 := eq_true p351
        replace q351 := eq_true q351
        go_wp2_with (first | ((with_reducible refine gate_dst (N := 5) rfl ?_); refine zbx 5 #[.int .i64 0, .int .i64 0, .string (⟨#[]⟩ : ByteArray)] 124 ?_; intro gb352 hg w10 hbox hb; have BK352 := Aside0.mk (hbox); have GW352 := zs w hg; have GE352 := GW352; replace HO_3 := Aside0.mk (Kd.R_below (by (with_reducible repeat (first | apply Kd.R_alloc | apply Kd.R_drewN | apply Kd.R_drew)); exact HO_3.out) hb); replace HB := zt w hb; clear hb hbox hg; obtain ⟨hcz11_0, hcz11_1, hcz11_2, hfz11_0, hfz11_1, hfz11_2⟩ := zF3 BK352) | ((with_reducible refine gate_callee (f := 60) rfl ?_); refine zc (some 29) Tryz.func60 #[.int .i64 ((rd_T124 l0 x9_1).f1)] ?_; (with_reducible refine (impl_decimal.calls ((rd_T124 l0 x9_1).f1) t353 _ ?side1 A8.out).mono ?_); (case side1 => exact GW.below HG.out (zb _)); rintro e w12 ⟨rfl, hb⟩; refine ⟨_, rfl, ?_⟩; replace HO_3 := Aside0.mk (Kd.R_below (by (with_reducible repeat (first | apply Kd.R_alloc | apply Kd.R_drewN | apply Kd.R_drew)); exact (Kd.R_mono (Kd.R_far (p := ⟨gb352, 2, none⟩) (Kd.R_far (p := ⟨gb352, 1, none⟩) (Kd.R_far (p := ⟨gb352, 0, none⟩) (Kd.R_types HO_3.out BK352.out (by decide)) (fun _ hk => hk.2) (.int .i64 ((rd_T124 l0 x9_1).f0))) (fun _ hk => hk.2) (.int .i64 ((rd_T124 l0 x9_1).f1))) (fun _ hk => hk.2) (.string ((rd_T124 l0 x9_1).f2))) (fun _ h_ => h_.1))) hb); replace BK352 := zkw (g := gb352) (o := .cells #[.int .i64 ((rd_T124 l0 x9_1).f0), .int .i64 ((rd_T124 l0 x9_1).f1), .string ((rd_T124 l0 x9_1).f2)] 124 (0, 0)) hb; replace HB := zt w hb; (try clear hb); (try clear hb2); (try clear hk); (try clear hi)) | ((with_reducible refine gate_builtin (b := .append) (xs := #[.tmp 26, .tmp 30]) rfl ?_); at_builtin; refine Kd.R_append Kd.string (w0 := w) w.heap.size rfl (.tmp 26) (.tmp 30) 54 9 (.string ⟨#[]⟩) 16 rfl Tryz.underlying54 info9 rfl (by decide) (by omega) u3 x3_1 t353 [.string t353] (fun _ => True) (fun _ => False) rfl rfl ?aP (fun _ hk => hk.elim) ?aF ?aO ?aB ?aS ?aL ?_; (case aP => exact rfl); (case aB => exact (zb _)); (case aF => exact (fun _ _ => trivial)); (case aO => exact (by (with_reducible repeat (first | apply Kd.R_alloc | apply Kd.R_drewN | apply Kd.R_drew)); exact HO_3.out)); (case aS => exact (below_size (zb _))); (case aL => have := LMc9.out; omega); intro v355 w13 ho hb hg hat; rw [← Ny354.out] at ho; have HO356 := Aside0.mk (ho); replace BK352 := Aside0.mk (blk_grown (g := gb352) (o := .cells #[.int .i64 ((rd_T124 l0 x9_1).f0), .int .i64 ((rd_T124 l0 x9_1).f1), .string ((rd_T124 l0 x9_1).f2)] 124 (0, 0)) (zr BK352) hg (Kd.R_ne HO_3.out BK352.out (by decide))); replace HB := Aside0.mk (hb); clear HO_3; clear ho hb hg hat))
        go_roundg k1
        case measure => have := HK1.out; omega
        case rel => exact ⟨(y354), (wrap64 (x9_1 + 1)), (zE _), H', ⟨by have := HK1.out; omega⟩, ⟨by (with_reducible repeat (first | apply Kd.R_alloc | apply Kd.R_drewN | apply Kd.R_drew)); exact HO356.out⟩, ⟨zb _⟩⟩
       ·rw [if_neg c9] at H
        exact absurd H (by simp)
      ·rw [if_neg c7] at H
       have c7b0 : (((rd_T124 l0 x9_1).f0) == 1) = false := beq_eq_false_iff_ne.mpr c7
       have c7b1 : (((rd_T124 l0 x9_1).f0) != 1) = true := bne_iff_ne.mpr c7
       by_cases c14 : ((rd_T124 l0 x9_1).f0) = 2
       ·rw [if_pos c14] at H
        have c14b0 : (((rd_T124 l0 x9_1).f0) == 2) = true := beq_iff_eq.mpr c14
        have c14b1 : (((rd_T124 l0 x9_1).f0) != 2) = false := bne_eq_false_iff_eq.mpr c14
        clear c14
        by_cases c15 : x3_1.length < 8796093022208
        ·rw [if_pos c15] at H
         have LMc15 := Aside0.mk c15
         clear c15
         obtain ⟨y357, hy357⟩ : ∃ y_ : List ByteArray, y_ = (x3_1 ++ [(rd_T124 l0 x9_1).f2]) := ⟨_, rfl⟩
         replace H : (impl_exprText.l0 k1 y357 l0 (l0.length : Int) (wrap64 (x9_1 + 1))) = some r := by first | (rw [hy357]; with_reducible exact H) | (have H2_ := (Option.bind_some _ _).symm.trans H; rw [hy357]; with_reducible exact H2_) | (have H2_ := (Option.bind_some _ _).symm.trans H; with_reducible exact H2_) | with_reducible exact H | (rw [hy357]; exact H) | exact H
         have Ny357 := Aside0.mk hy357
         clear hy357
         have H' := Aside0.mk H
         clear H
         have p351 : 0 ≤ (x9_1 : Int) := of_decide_eq_true (za _)
         have q351 : x9_1 < (l0.length : Int) := of_decide_eq_true (za _)
         obtain ⟨ad351, e351, hx351_0, hx351_1, hx351_2⟩ := at_T124 HR0.out x9_1 p351 q351
         cases e351
         replace hx351_0 := zx HB hx351_0
         replace hx351_1 := zx HB hx351_1
         replace hx351_2 := zx HB hx351_2
         replace p351 := eq_true p351
         replace q351 := eq_true q351
         go_wp2_with (first | ((with_reducible refine gate_dst (N := 5) rfl ?_); refine zbx 5 #[.int .i64 0, .int .i64 0, .string (⟨#[]⟩ : ByteArray)] 124 ?_; intro gb352 hg w16 hbox hb; have BK352 := Aside0.mk (hbox); have GW352 := zs w hg; have GE352 := GW352; replace HO_3 := Aside0.mk (Kd.R_below (by (with_reducible repeat (first | apply Kd.R_alloc | apply Kd.R_drewN | apply Kd.R_drew)); exact HO_3.out) hb); replace HB := zt w hb; clear hb hbox hg; obtain ⟨hcz17_0, hcz17_1, hcz17_2, hfz17_0, hfz17_1, hfz17_2⟩ := zF3 BK352) | ((with_reducible refine gate_builtin (b := .append) (xs := #[.tmp 34, .tmp 37]) rfl ?_); at_builtin; refine Kd.R_append Kd.string (w0 := w) w.heap.size rfl (.tmp 34) (.tmp 37) 54 9 (.string ⟨#[]⟩) 16 rfl Tryz.underlying54 info9 rfl (by decide) (by omega) u3 x3_1 ((rd_T124 l0 x9_1).f2) [.string ((rd_T124 l0 x9_1).f2)] (fun _ => True) (fun _ => False) rfl (by first | (go_simp; done) | (go_simp; rfl)) ?aP (fun _ hk => hk.elim) ?aF ?aO ?aB ?aS ?aL ?_; (case aP => exact rfl); (case aB => exact (zb _)); (case aF => exact (fun _ _ => trivial)); (case aO => exact (by (with_reducible repeat (first | apply Kd.R_alloc | apply Kd.R_drewN | apply Kd.R_drew)); exact Kd.R_mono (Kd.R_far (p := ⟨gb352, 2, none⟩) (Kd.R_far (p := ⟨gb352, 1, none⟩) (Kd.R_far (p := ⟨gb352, 0, none⟩) (Kd.R_types HO_3.out BK352.out (by decide)) (fun _ hk => hk.2) (.int .i64 ((rd_T124 l0 x9_1).f0))) (fun _ hk => hk.2) (.int .i64 ((rd_T124 l0 x9_1).f1))) (fun _ hk => hk.2) (.string ((rd_T124 l0 x9_1).f2))) (fun _ hk => trivial))); (case aS => exact (below_size (zb _))); (case aL => have := LMc15.out; omega); intro v358 w18 ho hb hg hat; rw [← Ny357.out] at ho; have HO359 := Aside0.mk (ho); replace BK352 := Aside0.mk (blk_grown (g := gb352) (o := .cells #[.int .i64 ((rd_T124 l0 x9_1).f0), .int .i64 ((rd_T124 l0 x9_1).f1), .string ((rd_T124 l0 x9_1).f2)] 124 (0, 0)) (zw _) hg (Kd.R_ne HO_3.out BK352.out (by decide))); replace HB := Aside0.mk (hb); clear HO_3; clear ho hb hg hat))
         go_roundg k1
         case measure => have := HK1.out; omega
         case rel => exact ⟨(y357), (wrap64 (x9_1 + 1)), (zE _), H', ⟨by have := HK1.out; omega⟩, ⟨by (with_reducible repeat (first | apply Kd.R_alloc | apply Kd.R_drewN | apply Kd.R_drew)); exact HO359.out⟩, ⟨zb _⟩⟩
        ·rw [if_neg c15] at H
         exact absurd H (by simp)
       ·rw [if_neg c14] at H
        have c14b0 : (((rd_T124 l0 x9_1).f0) == 2) = false := beq_eq_false_iff_ne.mpr c14
        have c14b1 : (((rd_T124 l0 x9_1).f0) != 2) = true := bne_iff_ne.mpr c14
        by_cases c19 : ((rd_T124 l0 x9_1).f0) = 3
        ·rw [if_pos c19] at H
         have c19b0 : (((rd_T124 l0 x9_1).f0) == 3) = true := beq_iff_eq.mpr c19
         have c19b1 : (((rd_T124 l0 x9_1).f0) != 3) = false := bne_eq_false_iff_eq.mpr c19
         clear c19
         by_cases c20 : 1 + ((rd_T124 l0 x9_1).f2).size ≤ 9223372036854775807
         ·rw [if_pos c20] at H
          have c20b0 := eq_true c20
          have c20b1 : decide (1 + ((rd_T124 l0 x9_1).f2).size ≤ 9223372036854775807) = true := decide_eq_true c20
          try have c20b2 : (9223372036854775807 < 1 + ((rd_T124 l0 x9_1).f2).size) = False := eq_false (Nat.not_lt.2 c20)
          by_cases c21 : x3_1.length < 8796093022208
          ·rw [if_pos c21] at H
           have LMc21 := Aside0.mk c21
           clear c21
           obtain ⟨y360, hy360⟩ : ∃ y_ : List ByteArray, y_ = (x3_1 ++ [(⟨#[35]⟩ : ByteArray) ++ ((rd_T124 l0 x9_1).f2)]) := ⟨_, rfl⟩
           replace H : (impl_exprText.l0 k1 y360 l0 (l0.length : Int) (wrap64 (x9_1 + 1))) = some r := by first | (rw [hy360]; with_reducible exact H) | (have H2_ := (Option.bind_some _ _).symm.trans H; rw [hy360]; with_reducible exact H2_) | (have H2_ := (Option.bind_some _ _).symm.trans H; with_reducible exact H2_) | with_reducible exact H | (rw [hy360]; exact H) | exact H
           have Ny360 := Aside0.mk hy360
           clear hy360
           have H' := Aside0.mk H
           clear H
           have p351 : 0 ≤ (x9_1 : Int) := of_decide_eq_true (za _)
           have q351 : x9_1 < (l0.length : Int) := of_decide_eq_true (za _)
           obtain ⟨ad351, e351, hx351_0, hx351_1, hx351_2⟩ := at_T124 HR0.out x9_1 p351 q351
           cases e351
           replace hx351_0 := zx HB hx351_0
           replace hx351_1 := zx HB hx351_1
           replace hx351_2 := zx HB hx351_2
           replace p351 := eq_true p351
           replace q351 := eq_true q351
           go_wp2_with (first | ((with_reducible refine gate_dst (N := 5) rfl ?_); refine zbx 5 #[.int .i64 0, .int .i64 0, .string (⟨#[]⟩ : ByteArray)] 124 ?_; intro gb352 hg w22 hbox hb; have BK352 := Aside0.mk (hbox); have GW352 := zs w hg; have GE352 := GW352; replace HO_3 := Aside0.mk (Kd.R_below (by (with_reducible repeat (first | apply Kd.R_alloc | apply Kd.R_drewN | apply Kd.R_drew)); exact HO_3.out) hb); replace HB := zt w hb; clear hb hbox hg; obtain ⟨hcz23_0, hcz23_1, hcz23_2, hfz23_0, hfz23_1, hfz23_2⟩ := zF3 BK352) | ((with_reducible refine gate_builtin (b := .append) (xs := #[.tmp 41, .tmp 45]) rfl ?_); at_builtin; refine Kd.R_append Kd.string (w0 := w) w.heap.size rfl (.tmp 41) (.tmp 45) 54 9 (.string ⟨#[]⟩) 16 rfl Tryz.underlying54 info9 rfl (by decide) (by omega) u3 x3_1 ((⟨#[35]⟩ : ByteArray) ++ ((rd_T124 l0 x9_1).f2)) [.string ((⟨#[35]⟩ : ByteArray) ++ ((rd_T124 l0 x9_1).f2))] (fun _ => True) (fun _ => False) rfl (by first | (go_simp; done) | (go_simp; rfl)) ?aP (fun _ hk => hk.elim) ?aF ?aO ?aB ?aS ?aL ?_; (case aP => exact rfl); (case aB => exact (zb _)); (case aF => exact (fun _ _ => trivial)); (case aO => exact (by (with_reducible repeat (first | apply Kd.R_alloc | apply Kd.R_drewN | apply Kd.R_drew)); exact Kd.R_mono (Kd.R_far (p := ⟨gb352, 2, none⟩) (Kd.R_far (p := ⟨gb352, 1, none⟩) (Kd.R_far (p := ⟨gb352, 0, none⟩) (Kd.R_types HO_3.out BK352.out (by decide)) (fun _ hk => hk.2) (.int .i64 ((rd_T124 l0 x9_1).f0))) (fun _ hk => hk.2) (.int .i64 ((rd_T124 l0 x9_1).f1))) (fun _ hk => hk.2) (.string ((rd_T124 l0 x9_1).f2))) (fun _ hk => trivial))); (case aS => exact (below_size (zb _))); (case aL => have := LMc21.out; omega); intro v361 w24 ho hb hg hat; rw [← Ny360.out] at ho; have HO362 := Aside0.mk (ho); replace BK352 := Aside0.mk (blk_grown (g := gb352) (o := .cells #[.int .i64 ((rd_T124 l0 x9_1).f0), .int .i64 ((rd_T124 l0 x9_1).f1), .string ((rd_T124 l0 x9_1).f2)] 124 (0, 0)) (zw _) hg (Kd.R_ne HO_3.out BK352.out (by decide))); replace HB := Aside0.mk (hb); clear HO_3; clear ho hb hg hat))
           go_roundg k1
           case measure => have := HK1.out; omega
           case rel => exact ⟨(y360), (wrap64 (x9_1 + 1)), (zE _), H', ⟨by have := HK1.out; omega⟩, ⟨by (with_reducible repeat (first | apply Kd.R_alloc | apply Kd.R_drewN | apply Kd.R_drew)); exact HO362.out⟩, ⟨zb _⟩⟩
          ·rw [if_neg c21] at H
           exact absurd H (by simp)
         ·rw [if_neg c20] at H
          exact absurd H (by simp)
        ·rw [if_neg c19] at H
         have c19b0 : (((rd_T124 l0 x9_1).f0) == 3) = false := beq_eq_false_iff_ne.mpr c19
         have c19b1 : (((rd_T124 l0 x9_1).f0) != 3) = true := bne_iff_ne.mpr c19
         obtain ⟨t363, A250, H⟩ := Option.bind_eq_some_iff.mp H
         have A25 := Aside0.mk A250
         clear A250
         obtain ⟨ji26, hji26⟩ : ∃ j_ : Int, (wrap64 (((rd_T124 l0 x9_1).f0) - 4)) = j_ := ⟨_, rfl⟩
         replace H : (if 0 ≤ (ji26) then (if (ji26) < (t363.length : Int) then (if x3_1.length < 8796093022208 then (impl_exprText.l0 k1 (x3_1 ++ [rdOf ByteArray.empty t363 (ji26)]) l0 (l0.length : Int) (wrap64 (x9_1 + 1))) else (none)) else (none)) else (none)) = some r := by first | (rw [hji26] at H; exact H) | (simp only [hji26] at H ⊢; exact H)
         (try rw [hji26] at A25)
         have hji26w : (IntKind.i64.wrap (((rd_T124 l0 x9_1).f0) - 4)) = ji26 := (i64_w _).trans hji26
         by_cases c27 : 0 ≤ (ji26)
         ·rw [if_pos c27] at H
          have c27b0 : decide (0 ≤ (ji26)) = true := decide_eq_true c27
          clear c27
          by_cases c28 : (ji26) < (t363.length : Int)
          ·rw [if_pos c28] at H
           have c28b0 : decide ((ji26) < (t363.length : Int)) = true := decide_eq_true c28
           clear c28
           by_cases c29 : x3_1.length < 8796093022208
           ·rw [if_pos c29] at H
            have LMc29 := Aside0.mk c29
            clear c29
            obtain ⟨y367, hy367⟩ : ∃ y_ : List ByteArray, y_ = (x3_1 ++ [rdOf ByteArray.empty t363 (ji26)]) := ⟨_, rfl⟩
            replace H : (impl_exprText.l0 k1 y367 l0 (l0.length : Int) (wrap64 (x9_1 + 1))) = some r := by first | (rw [hy367]; with_reducible exact H) | (have H2_ := (Option.bind_some _ _).symm.trans H; rw [hy367]; with_reducible exact H2_) | (have H2_ := (Option.bind_some _ _).symm.trans H; with_reducible exact H2_) | with_reducible exact H | (rw [hy367]; exact H) | exact H
            have Ny367 := Aside0.mk hy367
            clear hy367
            have H' := Aside0.mk H
            clear H
            have p351 : 0 ≤ (x9_1 : Int) := of_decide_eq_true (za _)
            have q351 : x9_1 < (l0.length : Int) := of_decide_eq_true (za _)
            obtain ⟨ad351, e351, hx351_0, hx351_1, hx351_2⟩ := at_T124 HR0.out x9_1 p351 q351
            cases e351
            replace hx351_0 := zx HB hx351_0
            replace hx351_1 := zx HB hx351_1
            replace hx351_2 := zx HB hx351_2
            replace p351 := eq_true p351
            replace q351 := eq_true q351
            try go_wp2_with (first | ((with_reducible refine gate_dst (N := 5) rfl ?_); refine zbx 5 #[.int .i64 0, .int .i64 0, .string (⟨#[]⟩ : ByteArray)] 124 ?_; intro gb352 hg w30 hbox hb; have BK352 := Aside0.mk (hbox); have GW352 := zs w hg; have GE352 := GW352; replace HO_3 := Aside0.mk (Kd.R_below (by (with_reducible repeat (first | apply Kd.R_alloc | apply Kd.R_drewN | apply Kd.R_drew)); exact HO_3.out) hb); replace HB := zt w hb; clear hb hbox hg; obtain ⟨hcz31_0, hcz31_1, hcz31_2, hfz31_0, hfz31_1, hfz31_2⟩ := zF3 BK352))
            have n0_ : Aside0 (Kd.R Kd.string 9 (((w30.setCell ⟨gb352, 0, none⟩ (.int .i64 ((rd_T124 l0 x9_1).f0))).setCell ⟨gb352, 1, none⟩ (.int .i64 ((rd_T124 l0 x9_1).f1))).setCell ⟨gb352, 2, none⟩ (.string ((rd_T124 l0 x9_1).f2))) w.heap.size (fun _ => True) u3 x3_1) := ⟨by (with_reducible repeat (first | apply Kd.R_alloc | apply Kd.R_drewN | apply Kd.R_drew)); exact Kd.R_mono (Kd.R_far (p := ⟨gb352, 2, none⟩) (Kd.R_far (p := ⟨gb352, 1, none⟩) (Kd.R_far (p := ⟨gb352, 0, none⟩) (Kd.R_types HO_3.out BK352.out (by decide)) (fun _ hk => hk.2) (.int .i64 ((rd_T124 l0 x9_1).f0))) (fun _ hk => hk.2) (.int .i64 ((rd_T124 l0 x9_1).f1))) (fun _ hk => hk.2) (.string ((rd_T124 l0 x9_1).f2))) (fun _ hk => trivial)⟩
            have n1_ : Aside0 ((((w30.setCell ⟨gb352, 0, none⟩ (.int .i64 ((rd_T124 l0 x9_1).f0))).setCell ⟨gb352, 1, none⟩ (.int .i64 ((rd_T124 l0 x9_1).f1))).setCell ⟨gb352, 2, none⟩ (.string ((rd_T124 l0 x9_1).f2))).heap[gb352]? = some (.cells #[.int .i64 ((rd_T124 l0 x9_1).f0), .int .i64 ((rd_T124 l0 x9_1).f1), .string ((rd_T124 l0 x9_1).f2)] 124 (0, 0))) := ⟨by (with_reducible repeat (first | refine blk_drewN ?_ _ | refine blk_drew ?_ | refine blk_alloc ?_ _)); refine blk_put (cs := #[.int .i64 ((rd_T124 l0 x9_1).f0), .int .i64 ((rd_T124 l0 x9_1).f1), .string (⟨#[]⟩ : ByteArray)]) ?_ 2 _ rfl; (with_reducible repeat (first | refine blk_drewN ?_ _ | refine blk_drew ?_ | refine blk_alloc ?_ _)); refine blk_put (cs := #[.int .i64 ((rd_T124 l0 x9_1).f0), .int .i64 0, .string (⟨#[]⟩ : ByteArray)]) ?_ 1 _ rfl; (with_reducible repeat (first | refine blk_drewN ?_ _ | refine blk_drew ?_ | refine blk_alloc ?_ _)); refine blk_put (cs := #[.int .i64 0, .int .i64 0, .string (⟨#[]⟩ : ByteArray)]) ?_ 0 _ rfl; (with_reducible repeat (first | refine blk_drewN ?_ _ | refine blk_drew ?_ | refine blk_alloc ?_ _)); exact BK352.out⟩
            have n2_ : Aside0 (Below w.heap.size w (((w30.setCell ⟨gb352, 0, none⟩ (.int .i64 ((rd_T124 l0 x9_1).f0))).setCell ⟨gb352, 1, none⟩ (.int .i64 ((rd_T124 l0 x9_1).f1))).setCell ⟨gb352, 2, none⟩ (.string ((rd_T124 l0 x9_1).f2)))) := ⟨zb _⟩
            (try clear HO_3)
            (try clear BK352)
            (try clear HB)
            generalize (((w30.setCell ⟨gb352, 0, none⟩ (.int .i64 ((rd_T124 l0 x9_1).f0))).setCell ⟨gb352, 1, none⟩ (.int .i64 ((rd_T124 l0 x9_1).f1))).setCell ⟨gb352, 2, none⟩ (.string ((rd_T124 l0 x9_1).f2))) = w32 at n0_ n1_ n2_ ⊢
            have HO_3 := n0_
            have BK352 := n1_
            have HB := n2_
            clear n0_ n1_ n2_
            have n0_ := Aside0.mk (Kd.R_drew HO_3.out)
            have n1_ := Aside0.mk (blk_drew BK352.out)
            have n2_ := Aside0.mk (below_drew1 HB.out)
            clear HO_3
            clear BK352
            clear HB
            have HO_3 := n0_
            have BK352 := n1_
            have HB := n2_
            clear n0_ n1_ n2_
            refine start_ (n := 10) (S := fun w' => w'.cell? ⟨gb352, 0, none⟩ = some (.int .i64 ((rd_T124 l0 x9_1).f0)) ∧ w'.cell? ⟨gb352, 1, none⟩ = some (.int .i64 ((rd_T124 l0 x9_1).f1)) ∧ w'.cell? ⟨gb352, 2, none⟩ = some (.string ((rd_T124 l0 x9_1).f2))) (ds := [6, 7, 8]) (zm 10 0) (by kernel_rfl) rfl rfl ⟨zc0 BK352, zc1 BK352, zc2 BK352⟩ (fun hHeld => ?_); refine with_tabW impl_exprText.tab6 impl_exprText.bits6 (fun HT_ HW_ => ?_)
            generalize w32.drew = w33 at HO_3 BK352 HB hHeld ⊢
            refine zp 0 15 (zm 10 1) ?_
            refine zp 2 17 (zm 10 5) ?_
            refine zy 3 18 (zm 10 13) hHeld ?_
            refine zp 4 19 (zm 10 29) ?_
            refine one_ (i := 1) (N := some 16) (zm 10 31) rfl rfl (one_of HT_.out (by kernel_rfl)) (by decide) (fun K hK => ?_)
            refine zi Tryz.func105 #[] ?_
            with_reducible refine (impl_opWords.calls  t363 _ ?side1 A25.out).mono ?_
            (case side1 => exact GW.below HG.out (zb _))
            rintro e w34 ⟨v364, rfl, ho0, hb⟩
            refine ⟨_, rfl, ?_⟩
            have n0_ := Aside0.mk (Kd.R_elder' (by (with_reducible repeat (first | apply Kd.R_alloc | apply Kd.R_drewN | apply Kd.R_drew)); exact HO_3.out) (Kd.R_base ho0) hb)
            have n1_ := Aside0.mk (Kd.R_lower (Kd.R_new' ho0 (Kd.R_lt (by (with_reducible repeat (first | apply Kd.R_alloc | apply Kd.R_drewN | apply Kd.R_drew)); exact HO_3.out))) (below_size (zb _)))
            have n2_ := zk BK352 hb
            have n3_ := zt w hb
            clear HO_3
            clear BK352
            clear HB
            have HO_3 := n0_
            have HO365 := n1_
            have BK352 := n2_
            have HB := n3_
            clear n0_ n1_ n2_ n3_
            (try clear hb)
            (try clear hb2)
            (try clear hk)
            (try clear hi)
            (try clear ho0)
            obtain ⟨Ao35, co35, eo35⟩ := Kd.R_slice HO365.out
            (first | subst eo35 | (injection eo35 with f1_ f2_ f3_; have f4_ := f1_.symm; have f5_ := f3_.symm; clear f1_ f2_ f3_; subst f4_; subst f5_))
            have p366 : 0 ≤ ((ji26) : Int) := of_decide_eq_true (za _)
            have q366 : (ji26) < (t363.length : Int) := of_decide_eq_true (za _)
            obtain ⟨ad366, e366, hx366_0⟩ := Kd.at_string (Kd.R_reads' HO365.out).2.2 (ji26) p366 q366
            cases e366
            replace p366 := eq_true p366
            replace q366 := eq_true q366
            refine hK.out _ _ ⟨zc0 BK352, zc1 BK352, zc2 BK352⟩ (fun hHeld => ?_)
            clear hK K
            refine zq ?_
            refine zp 5 20 (zm 10 63) ?_
            refine last_ (i := 6) (N := some 21) (zm 10 127) rfl rfl (one_of HT_.out (by kernel_rfl)) (by decide) (fun K hK => ?_)
            refine value_ (w1 := ?_) (v := ?_) (by rfl) rfl ?_ ?_
            rotate_left 2
            ·go_simp
             constructor
             ·rfl
             ·rfl
            refine hK.out _ _ ?_
            clear hK K
            refine zq ?_
            refine last_ (i := 7) (N := some 22) (zm 10 255) rfl rfl (one_of HT_.out (by kernel_rfl)) (by decide) (fun K hK => ?_)
            refine value_ (w1 := ?_) (v := ?_) (by rfl) rfl ?_ ?_
            rotate_left 2
            ·go_simp
             constructor
             ·rfl
             ·rfl
            refine hK.out _ _ ?_
            clear hK K
            refine zq ?_
            refine last_ (i := 8) (N := some 23) (zm 10 511) rfl rfl (one_of HT_.out (by kernel_rfl)) (by decide) (fun K hK => ?_)
            refine Kd.R_append_step Kd.string (w0 := w) w.heap.size (by rfl) (.tmp 15) (.tmp 22) 54 9 (.string ⟨#[]⟩) 16 rfl Tryz.underlying54 info9 rfl (by decide) (by omega) u3 x3_1 (rdOf ByteArray.empty t363 (ji26)) [.string (rdOf ByteArray.empty t363 (ji26))] (fun k_ => some k_ ≠ (.slice (some ad366) t363.length co35 : Value).ownBlock) (fun _ => False) rfl rfl ?aP (fun _ hk => hk.elim) ?aF ?aO ?aB ?aS ?aL ?_
            (case aP => exact rfl)
            (case aB => exact (zb _))
            (case aF => exact (fun k_ hk => Kd.fresh' (Kd.R_lt (by (with_reducible repeat (first | apply Kd.R_alloc | apply Kd.R_drewN | apply Kd.R_drew)); exact HO365.out)) k_ hk))
            (case aO => exact (by (with_reducible repeat (first | apply Kd.R_alloc | apply Kd.R_drewN | apply Kd.R_drew)); exact Kd.R_mono HO_3.out (fun _ hk => hk.2)))
            (case aS => exact (below_size (zb _)))
            (case aL => have := LMc29.out; omega)
            intro v368 w36 ho hb hg hat
            rw [← Ny367.out] at ho
            have n0_ := Aside0.mk (blk_grown (g := gb352) (o := .cells #[.int .i64 ((rd_T124 l0 x9_1).f0), .int .i64 ((rd_T124 l0 x9_1).f1), .string ((rd_T124 l0 x9_1).f2)] 124 (0, 0)) (zr BK352) hg (Kd.R_ne HO_3.out BK352.out (by decide)))
            have n1_ := Aside0.mk (Kd.R_after (ok := (fun _ => True)) (by (with_reducible repeat (first | apply Kd.R_alloc | apply Kd.R_drewN | apply Kd.R_drew)); exact HO365.out) hg hat)
            have n2_ := Aside0.mk (hb)
            have n3_ := Aside0.mk (ho)
            clear BK352
            clear HO365
            clear HB
            clear HO_3
            have BK352 := n0_
            have HO365 := n1_
            have HB := n2_
            have HO369 := n3_
            clear n0_ n1_ n2_ n3_
            clear ho hb hg hat
            refine hK.out _ _ ?_
            clear hK K
            refine zq ?_
            refine zp 9 3 (zm 10 1023) ?_
            refine done_ (done_of HT_.out (by kernel_rfl)) ?_
            try go_wp2
            go_roundg k1
            case measure => have := HK1.out; omega
            case rel => exact ⟨(y367), (wrap64 (x9_1 + 1)), (zE _), H', ⟨by have := HK1.out; omega⟩, ⟨by (with_reducible repeat (first | apply Kd.R_alloc | apply Kd.R_drewN | apply Kd.R_drew)); exact Kd.R_mono HO369.out (fun _ hk => trivial)⟩, ⟨zb _⟩⟩
           ·rw [if_neg c29] at H
            exact absurd H (by simp)
          ·rw [if_neg c28] at H
           exact absurd H (by simp)
         ·rw [if_neg c27] at H
          exact absurd H (by simp)
     ·rw [if_neg c6] at H
      exact absurd H (by simp)
    ·rw [if_neg c5] at H
     exact absurd H (by simp)
   ·rw [if_neg c4] at H
    have c4b0 : decide (x9_1 < (l0.length : Int)) = false := decide_eq_false c4
    clear c4
    obtain ⟨t350, A370, H⟩ := Option.bind_eq_some_iff.mp H
    have A37 := Aside0.mk A370
    clear A370
    obtain rfl := Option.some.inj H
    obtain ⟨Ao38, co38, eo38⟩ := Kd.R_slice HO_3.out
    subst eo38
    go_wp2_with (first | ((with_reducible refine gate_callee (f := 75) rfl ?_); refine zc (some 49) Tryz.func75 #[.slice Ao38 x3_1.length co38, .string (⟨#[32]⟩ : ByteArray)] ?_; (with_reducible refine (strings_Join.calls _ _ x3_1 (⟨#[32]⟩ : ByteArray) t350 _ ?side1 ?side2 A37.out).mono ?_); (case side1 => repeat (first | exact (Kd.R_reads' HO_3.out).2.2 | (with_reducible refine Kd.C_alloc ?_ _) | (with_reducible refine Kd.C_drewN ?_ _) | (with_reducible refine Kd.C_drew ?_))); (case side2 => exact (Kd.R_reads' HO_3.out).2.1); rintro e w39 ⟨rfl, hb⟩; refine ⟨_, rfl, ?_⟩; replace HO_3 := Aside0.mk (Kd.R_below (by (with_reducible repeat (first | apply Kd.R_alloc | apply Kd.R_drewN | apply Kd.R_drew)); exact HO_3.out) hb); replace HB := zt w hb; (try clear hb); (try clear hb2); (try clear hk); (try clear hi)))
    go_ret
    exact ⟨ze _, zb _⟩

theorem impl_objectText.row2 {e g : Nat} {W : World} {s0 s1 : ByteArray} (h : W.heap[g]? = some (.cells #[.string s0, .string s1] e (0, 0))) : Kd.C Kd.string W (some ⟨g, 0, none⟩) ([s0, s1] : List ByteArray).length [s0, s1] := by
  refine ⟨rfl, by show 2 ≤ _; omega, fun _ => ⟨_, rfl, fun j p hj => ⟨[.string p], rfl, rfl, fun i v hv => ?_⟩⟩⟩
  have hi : i = 0 := by
    rcases i with _ | i
    · rfl
    · simp at hv
  subst hi
  obtain rfl : Value.string p = v := by simpa using hv
  rcases j with _ | _ | j
  · obtain rfl : s0 = p := by simpa using hj
    exact (blk_cell h 0).trans rfl
  · obtain rfl : s1 = p := by simpa using hj
    exact (blk_cell h 1).trans rfl
  · simp at hj
theorem impl_objectText.sp2 {e : Nat} (g : Nat) (s0 s1 t : ByteArray) (w : World) (h : w.heap[g]? = some (.cells #[.string s0, .string s1] e (0, 0))) (ht : impl_spaced.f [s0, s1] = some t) :
    Calls Tryz.prog 59 #[.slice (some ⟨g, 0, none⟩) 2 2] w fun e w' => e = .returned (.string t) ∧ Below w.heap.size w w' :=
  impl_spaced.calls (some ⟨g, 0, none⟩) 2 [s0, s1] t w (impl_objectText.row2 h) (Nat.le_refl _) ht
theorem impl_objectText.row4 {e g : Nat} {W : World} {s0 s1 s2 s3 : ByteArray} (h : W.heap[g]? = some (.cells #[.string s0, .string s1, .string s2, .string s3] e (0, 0))) : Kd.C Kd.string W (some ⟨g, 0, none⟩) ([s0, s1, s2, s3] : List ByteArray).length [s0, s1, s2, s3] := by
  refine ⟨rfl, by show 4 ≤ _; omega, fun _ => ⟨_, rfl, fun j p hj => ⟨[.string p], rfl, rfl, fun i v hv => ?_⟩⟩⟩
  have hi : i = 0 := by
    rcases i with _ | i
    · rfl
    · simp at hv
  subst hi
  obtain rfl : Value.string p = v := by simpa using hv
  rcases j with _ | _ | _ | _ | j
  · obtain rfl : s0 = p := by simpa using hj
    exact (blk_cell h 0).trans rfl
  · obtain rfl : s1 = p := by simpa using hj
    exact (blk_cell h 1).trans rfl
  · obtain rfl : s2 = p := by simpa using hj
    exact (blk_cell h 2).trans rfl
  · obtain rfl : s3 = p := by simpa using hj
    exact (blk_cell h 3).trans rfl
  · simp at hj
theorem impl_objectText.sp4 {e : Nat} (g : Nat) (s0 s1 s2 s3 t : ByteArray) (w : World) (h : w.heap[g]? = some (.cells #[.string s0, .string s1, .string s2, .string s3] e (0, 0))) (ht : impl_spaced.f [s0, s1, s2, s3] = some t) :
    Calls Tryz.prog 59 #[.slice (some ⟨g, 0, none⟩) 4 4] w fun e w' => e = .returned (.string t) ∧ Below w.heap.size w w' :=
  impl_spaced.calls (some ⟨g, 0, none⟩) 4 [s0, s1, s2, s3] t w (impl_objectText.row4 h) (Nat.le_refl _) ht
theorem impl_objectText.row5 {e g : Nat} {W : World} {s0 s1 s2 s3 s4 : ByteArray} (h : W.heap[g]? = some (.cells #[.string s0, .string s1, .string s2, .string s3, .string s4] e (0, 0))) : Kd.C Kd.string W (some ⟨g, 0, none⟩) ([s0, s1, s2, s3, s4] : List ByteArray).length [s0, s1, s2, s3, s4] := by
  refine ⟨rfl, by show 5 ≤ _; omega, fun _ => ⟨_, rfl, fun j p hj => ⟨[.string p], rfl, rfl, fun i v hv => ?_⟩⟩⟩
  have hi : i = 0 := by
    rcases i with _ | i
    · rfl
    · simp at hv
  subst hi
  obtain rfl : Value.string p = v := by simpa using hv
  rcases j with _ | _ | _ | _ | _ | j
  · obtain rfl : s0 = p := by simpa using hj
    exact (blk_cell h 0).trans rfl
  · obtain rfl : s1 = p := by simpa using hj
    exact (blk_cell h 1).trans rfl
  · obtain rfl : s2 = p := by simpa using hj
    exact (blk_cell h 2).trans rfl
  · obtain rfl : s3 = p := by simpa using hj
    exact (blk_cell h 3).trans rfl
  · obtain rfl : s4 = p := by simpa using hj
    exact (blk_cell h 4).trans rfl
  · simp at hj
theorem impl_objectText.sp5 {e : Nat} (g : Nat) (s0 s1 s2 s3 s4 t : ByteArray) (w : World) (h : w.heap[g]? = some (.cells #[.string s0, .string s1, .string s2, .string s3, .string s4] e (0, 0))) (ht : impl_spaced.f [s0, s1, s2, s3, s4] = some t) :
    Calls Tryz.prog 59 #[.slice (some ⟨g, 0, none⟩) 5 5] w fun e w' => e = .returned (.string t) ∧ Below w.heap.size w w' :=
  impl_spaced.calls (some ⟨g, 0, none⟩) 5 [s0, s1, s2, s3, s4] t w (impl_objectText.row5 h) (Nat.le_refl _) ht
theorem impl_objectText.row6 {e g : Nat} {W : World} {s0 s1 s2 s3 s4 s5 : ByteArray} (h : W.heap[g]? = some (.cells #[.string s0, .string s1, .string s2, .string s3, .string s4, .string s5] e (0, 0))) : Kd.C Kd.string W (some ⟨g, 0, none⟩) ([s0, s1, s2, s3, s4, s5] : List ByteArray).length [s0, s1, s2, s3, s4, s5] := by
  refine ⟨rfl, by show 6 ≤ _; omega, fun _ => ⟨_, rfl, fun j p hj => ⟨[.string p], rfl, rfl, fun i v hv => ?_⟩⟩⟩
  have hi : i = 0 := by
    rcases i with _ | i
    · rfl
    · simp at hv
  subst hi
  obtain rfl : Value.string p = v := by simpa using hv
  rcases j with _ | _ | _ | _ | _ | _ | j
  · obtain rfl : s0 = p := by simpa using hj
    exact (blk_cell h 0).trans rfl
  · obtain rfl : s1 = p := by simpa using hj
    exact (blk_cell h 1).trans rfl
  · obtain rfl : s2 = p := by simpa using hj
    exact (blk_cell h 2).trans rfl
  · obtain rfl : s3 = p := by simpa using hj
    exact (blk_cell h 3).trans rfl
  · obtain rfl : s4 = p := by simpa using hj
    exact (blk_cell h 4).trans rfl
  · obtain rfl : s5 = p := by simpa using hj
    exact (blk_cell h 5).trans rfl
  · simp at hj
theorem impl_objectText.sp6 {e : Nat} (g : Nat) (s0 s1 s2 s3 s4 s5 t : ByteArray) (w : World) (h : w.heap[g]? = some (.cells #[.string s0, .string s1, .string s2, .string s3, .string s4, .string s5] e (0, 0))) (ht : impl_spaced.f [s0, s1, s2, s3, s4, s5] = some t) :
    Calls Tryz.prog 59 #[.slice (some ⟨g, 0, none⟩) 6 6] w fun e w' => e = .returned (.string t) ∧ Below w.heap.size w w' :=
  impl_spaced.calls (some ⟨g, 0, none⟩) 6 [s0, s1, s2, s3, s4, s5] t w (impl_objectText.row6 h) (Nat.le_refl _) ht
def impl_objectText.St (bx : Array Value) (w : World) (acc : ByteArray) (wr : World) : Prop := Below w.heap.size w wr ∧ Go.Lib.IsBuilderF 91 5 (w.heap.size + 1) (w.heap.size + 1) (Go.Lib.byteCells acc.data.toList) wr ∧ wr.heap[w.heap.size]? = some (.cells bx 33 (0, 0)) ∧ w.heap.size + 1 < wr.heap.size
theorem impl_objectText.bldF {T e B b : Nat} {bs : List Value} {W W' : World} (h : Go.Lib.IsBuilderF T e B b bs W) (hb : Below W.heap.size W W') : Go.Lib.IsBuilderF T e B b bs W' := by
  have own : ∀ v, W.ownsRowF B e 1 v bs.length bs → W'.ownsRowF B e 1 v bs.length bs := by
    intro v h
    obtain ⟨q1, q2⟩ := h
    refine ⟨q1, ?_⟩
    rcases q2 with q2 | ⟨g, cap, cur, fz, r1, r2, r3, r4⟩
    · exact .inl q2
    · exact .inr ⟨g, cap, cur, fz, r1, r2, (hb.block g (Array.getElem?_eq_some_iff.1 r3).1).trans r3, r4⟩
  have at_ : ∀ p, Go.Lib.BuilderAtF T e B b p bs W → Go.Lib.BuilderAtF T e B b p bs W' := by
    rintro p ⟨h1, v, h2, h3, h4⟩
    have hlt : b < W.heap.size := (Array.getElem?_eq_some_iff.1 h2).1
    exact ⟨h1, v, (hb.block b hlt).trans h2, own v h3, h4⟩
  exact h.elim (fun x => .inl (at_ _ x)) (fun x => .inr (at_ _ x))
theorem impl_objectText.St.step {bx : Array Value} {w : World} {acc : ByteArray} {wr w' : World} (h : impl_objectText.St bx w acc wr) (hb : Below wr.heap.size wr w') : impl_objectText.St bx w acc w' := by
  obtain ⟨h1, h2, h3, h4⟩ := h
  exact ⟨below_step h1 hb, impl_objectText.bldF h2 hb, (hb.block _ (Array.getElem?_eq_some_iff.1 h3).1).trans h3, Nat.lt_of_lt_of_le h4 hb.size⟩
theorem impl_objectText.St.gw {bx : Array Value} {w : World} {acc : ByteArray} {wr W : World} (h : impl_objectText.St bx w acc wr) (hG : GW w) (hb : Below wr.heap.size wr W) : GW W := GW.below hG (below_step h.1 hb)
theorem impl_objectText.write (bx : Array Value) (w : World) (acc t : ByteArray) (wr : World) (h : impl_objectText.St bx w acc wr) (hlen : acc.size + t.size ≤ 140737488355328) :
    Calls Tryz.prog 58 #[.pointer (some ⟨w.heap.size + 1, 0, none⟩), .string t] wr fun e w' => e = .returned (.tuple #[.int .i64 t.size, .nilIface]) ∧ impl_objectText.St bx w (acc ++ t) w' ∧ Go.Lib.OthersKept 5 (some (w.heap.size + 1)) wr w' := by
  have hl : (Go.Lib.byteCells acc.data.toList).length = acc.size := by
    rw [Go.Lib.byteCells_length, Array.length_toList]
    rfl
  have hc : Go.Lib.byteCells acc.data.toList ++ Go.Lib.strCells t = Go.Lib.byteCells (acc ++ t).data.toList := by
    rw [Go.Lib.strCells_eq, ← Go.Lib.byteCells_append, ByteArray.data_append, Array.toList_append]
  obtain ⟨h1, h2, h3, h4⟩ := h
  have hw := Any.Builder_WriteString_k (ρ := Tryz.lays156_ren) { Tryz.lays156 with } Tryz.Builder_Extra_156 (w.heap.size + 1) (w.heap.size + 1) (Go.Lib.byteCells acc.data.toList) t wr h2 (by rw [hl]; exact hlen) (by omega)
  refine hw.mono ?_
  rintro e w' ⟨rfl, hb, hB, hO⟩
  rw [hc] at hb
  exact ⟨rfl, ⟨Below.trans h1 (hB.mono (by omega)), .inr hb, (hB.block _ (by omega)).trans h3, Nat.lt_of_lt_of_le h4 hB.size⟩, hO⟩
theorem impl_objectText.kept {b gs : Nat} {cs : Array Value} {e : Nat} {W W' : World} (h : Go.Lib.OthersKept 5 (some b) W W') (hg : W.heap[gs]? = some (.cells cs e (0, 0))) (hb : b < gs) (he : e ≠ 5) : W'.heap[gs]? = some (.cells cs e (0, 0)) :=
  h gs _ hg (by simp only [ne_eq, Option.some.injEq]; omega) (fun c fz hq => by injection hq with _ hq; exact he hq)
def impl_objectText.patRow (k : Nat) (p : S79) : Option ByteArray := (impl_decimal.f p.f0).bind fun a => (impl_decimal.f p.f1).bind fun b => (impl_exprText.f k p.f2).bind fun e => impl_spaced.f [(⟨#[112, 97, 116, 99, 104]⟩ : ByteArray), a, b, e]
def impl_objectText.pats (k : Nat) : List S79 → ByteArray → Option ByteArray
  | [], acc => some acc
  | p :: r, acc => (impl_objectText.patRow k p).bind fun t => if acc.size + t.size ≤ 140737488355328 then impl_objectText.pats k r (acc ++ t) else none
def impl_objectText.secRow (y : S71) : Option ByteArray := (impl_decimal.f y.f1).bind fun a => (impl_decimal.f y.f2).bind fun b => (impl_decimal.f y.f3).bind fun c => (impl_hexText.f y.f4).bind fun d => impl_spaced.f [(⟨#[115, 101, 99, 116, 105, 111, 110]⟩ : ByteArray), y.f0, a, b, c, d]
def impl_objectText.secs (k : Nat) : List S71 → ByteArray → Option ByteArray
  | [], acc => some acc
  | y :: r, acc => (impl_objectText.secRow y).bind fun t => if acc.size + t.size ≤ 140737488355328 then ((impl_objectText.pats k y.f5 (acc ++ t)).bind fun acc2 => impl_objectText.secs k r acc2) else none
def impl_objectText.symRow (y : S72) : Option ByteArray := (impl_decimal.f y.f1).bind fun a => (impl_decimal.f y.f2).bind fun b => impl_spaced.f [(⟨#[115, 121, 109, 98, 111, 108]⟩ : ByteArray), y.f0, a, b, if y.f3 = true then (⟨#[49]⟩ : ByteArray) else (⟨#[48]⟩ : ByteArray)]
def impl_objectText.syms : List S72 → ByteArray → Option ByteArray
  | [], acc => some acc
  | y :: r, acc => (impl_objectText.symRow y).bind fun t => if acc.size + t.size ≤ 140737488355328 then impl_objectText.syms r (acc ++ t) else none
def impl_objectText.assRow (k : Nat) (e : List S124) : Option ByteArray := (impl_exprText.f k e).bind fun a => impl_spaced.f [(⟨#[97, 115, 115, 101, 114, 116]⟩ : ByteArray), a]
def impl_objectText.asss (k : Nat) : List (List S124) → ByteArray → Option ByteArray
  | [], acc => some acc
  | y :: r, acc => (impl_objectText.assRow k y).bind fun t => if acc.size + t.size ≤ 140737488355328 then impl_objectText.asss k r (acc ++ t) else none
def impl_objectText.f (k : Nat) (l0 : List S71) (l1 : List S72) (l2 : List (List S124)) : Option ByteArray := (impl_objectText.secs k l0 (⟨#[]⟩ : ByteArray)).bind fun a => (impl_objectText.syms l1 a).bind fun b => impl_objectText.asss k l2 b
theorem impl_objectText.patRow_mono (k : Nat) (p : S79) : LeO (impl_objectText.patRow k p) (impl_objectText.patRow (k + 1) p) := by
  unfold impl_objectText.patRow
  exact LeO.bind (LeO.refl _) (fun _ => LeO.bind (LeO.refl _) (fun _ => LeO.bind (impl_exprText.mono _ _) (fun _ => LeO.refl _)))
theorem impl_objectText.pats_mono (k : Nat) : ∀ (y : List S79) (a : ByteArray), LeO (impl_objectText.pats k y a) (impl_objectText.pats (k + 1) y a)
  | [], _ => LeO.refl _
  | x :: r, a => LeO.bind (impl_objectText.patRow_mono k x) (fun t => LeO.ite (impl_objectText.pats_mono k r _) (LeO.refl _))
theorem impl_objectText.secs_mono (k : Nat) : ∀ (y : List S71) (a : ByteArray), LeO (impl_objectText.secs k y a) (impl_objectText.secs (k + 1) y a)
  | [], _ => LeO.refl _
  | x :: r, a => LeO.bind (LeO.refl _) (fun t => LeO.ite (LeO.bind (impl_objectText.pats_mono k _ _) (fun _ => impl_objectText.secs_mono k r _)) (LeO.refl _))
theorem impl_objectText.asss_mono (k : Nat) : ∀ (y : List (List S124)) (a : ByteArray), LeO (impl_objectText.asss k y a) (impl_objectText.asss (k + 1) y a)
  | [], _ => LeO.refl _
  | x :: r, a => LeO.bind (by unfold impl_objectText.assRow; exact LeO.bind (impl_exprText.mono _ _) (fun _ => LeO.refl _)) (fun t => LeO.ite (impl_objectText.asss_mono k r _) (LeO.refl _))
theorem impl_objectText.mono : ∀ a0 a1 a2 k, LeO (impl_objectText.f k a0 a1 a2) (impl_objectText.f (k + 1) a0 a1 a2) := by
  intro a0 a1 a2 k
  unfold impl_objectText.f
  exact LeO.bind (impl_objectText.secs_mono k a0 _) (fun _ => LeO.bind (LeO.refl _) (fun _ => impl_objectText.asss_mono k a2 _))
theorem impl_objectText.c6 {gs : Nat} {e : Nat} {w : World} {a0 a1 a2 a3 a4 a5 : Value} (h : w.heap[gs]? = some (.cells #[a0, a1, a2, a3, a4, a5] e (0, 0))) : w.cell? ⟨gs, 0, none⟩ = some a0 ∧ w.cell? ⟨gs, 1, none⟩ = some a1 ∧ w.cell? ⟨gs, 2, none⟩ = some a2 ∧ w.cell? ⟨gs, 3, none⟩ = some a3 ∧ w.cell? ⟨gs, 4, none⟩ = some a4 ∧ w.cell? ⟨gs, 5, none⟩ = some a5 :=
  ⟨(blk_cell h 0).trans rfl, (blk_cell h 1).trans rfl, (blk_cell h 2).trans rfl, (blk_cell h 3).trans rfl, (blk_cell h 4).trans rfl, (blk_cell h 5).trans rfl⟩
theorem impl_objectText.c4 {gs : Nat} {e : Nat} {w : World} {a0 a1 a2 a3 : Value} (h : w.heap[gs]? = some (.cells #[a0, a1, a2, a3] e (0, 0))) : w.cell? ⟨gs, 0, none⟩ = some a0 ∧ w.cell? ⟨gs, 1, none⟩ = some a1 ∧ w.cell? ⟨gs, 2, none⟩ = some a2 ∧ w.cell? ⟨gs, 3, none⟩ = some a3 :=
  ⟨(blk_cell h 0).trans rfl, (blk_cell h 1).trans rfl, (blk_cell h 2).trans rfl, (blk_cell h 3).trans rfl⟩
theorem impl_objectText.c3 {gs : Nat} {e : Nat} {w : World} {a0 a1 a2 : Value} (h : w.heap[gs]? = some (.cells #[a0, a1, a2] e (0, 0))) : w.cell? ⟨gs, 0, none⟩ = some a0 ∧ w.cell? ⟨gs, 1, none⟩ = some a1 ∧ w.cell? ⟨gs, 2, none⟩ = some a2 :=
  ⟨(blk_cell h 0).trans rfl, (blk_cell h 1).trans rfl, (blk_cell h 2).trans rfl⟩
set_option maxHeartbeats 16000000 in
set_option maxRecDepth 100000 in
theorem impl_objectText.calls (k : Nat) (A0_0 : Option Addr) (c0_0 : Nat) (l0_0 : List S71) (A0_1 : Option Addr) (c0_1 : Nat) (l0_1 : List S72) (A0_2 : Option Addr) (c0_2 : Nat) (l0_2 : List (List S124)) (r : ByteArray) (w : World) (hr0_0 : Kd.C k71 w A0_0 l0_0.length l0_0) (hc0_0 : l0_0.length ≤ c0_0) (hr0_1 : Kd.C k72 w A0_1 l0_1.length l0_1) (hc0_1 : l0_1.length ≤ c0_1) (hr0_2 : Kd.C (Kd.slice 124 k124) w A0_2 l0_2.length l0_2) (hc0_2 : l0_2.length ≤ c0_2) (hG : GW w) (h : impl_objectText.f k l0_0 l0_1 l0_2 = some r) :
 Calls Tryz.prog 23 #[.agg #[.slice A0_0 l0_0.length c0_0, .slice A0_1 l0_1.length c0_1, .slice A0_2 l0_2.length c0_2]] w fun e w' => e = .returned (.string r) ∧ Below w.heap.size w w' := by
 have hu33 := Tryz.underlying33
 have hu71 := Tryz.underlying71
 have hu79 := Tryz.underlying79
 have hu72 := Tryz.underlying72
 have hb0 : l0_0.length ≤ 9223372036854775807 := hr0_0.2.1
 have hb1 : l0_1.length ≤ 9223372036854775807 := hr0_1.2.1
 have hb2 : l0_2.length ≤ 9223372036854775807 := hr0_2.2.1
 obtain ⟨a1, h1, h⟩ := Option.bind_eq_some_iff.1 h
 obtain ⟨a2, h2, h3⟩ := Option.bind_eq_some_iff.1 h
 have HR0 := Aside0.mk hr0_0
 have HR1 := Aside0.mk hr0_1
 have HR2 := Aside0.mk hr0_2
 have HG := Aside0.mk hG
 have HF1 := Aside0.mk h1
 have HF2 := Aside0.mk h2
 have HF3 := Aside0.mk h3
 clear hr0_0 hr0_1 hr0_2 hG h h1 h2 h3 hc0_0 hc0_1 hc0_2
 have HS0 := Aside0.mk (show impl_objectText.St #[.slice A0_0 l0_0.length c0_0, .slice A0_1 l0_1.length c0_1, .slice A0_2 l0_2.length c0_2] w (⟨#[]⟩ : ByteArray) ((w.alloc (.cells #[.slice A0_0 l0_0.length c0_0, .slice A0_1 l0_1.length c0_1, .slice A0_2 l0_2.length c0_2] 33)).alloc (.cells #[.pointer none, .slice none 0 0] 91)) from ⟨by repeat (first | exact Below.refl _ _ | apply below_alloc | apply pw_below_drewN | apply below_drew), Go.Lib.IsBuilderF.of (by
  have := Go.Lib.fresh_isBuilder 91 5 (w.alloc (.cells #[.slice A0_0 l0_0.length c0_0, .slice A0_1 l0_1.length c0_1, .slice A0_2 l0_2.length c0_2] 33))
  rw [show (w.alloc (.cells #[.slice A0_0 l0_0.length c0_0, .slice A0_1 l0_1.length c0_1, .slice A0_2 l0_2.length c0_2] 33)).heap.size = w.heap.size + 1 by simp] at this
  exact this), by
  show ((w.heap.push _).push _)[w.heap.size]? = _
  rw [Array.getElem?_push_lt (by simp)]
  simp, by simp⟩)
 go_enter Tryz.func23, Tryz.ntmps23
 go_wp2
 generalize ((w.alloc (.cells #[.slice A0_0 l0_0.length c0_0, .slice A0_1 l0_1.length c0_1, .slice A0_2 l0_2.length c0_2] 33)).alloc (.cells #[.pointer none, .slice none 0 0] 91)) = w1 at HS0 ⊢
 go_loopg [16] l0_0.length (fun gg s_ wr => ∃ (kk : Nat) (acc : ByteArray), kk ≤ l0_0.length ∧ l0_0.length - kk ≤ gg ∧ s_ = .int .i64 kk ∧ Aside0 (impl_objectText.St #[.slice A0_0 l0_0.length c0_0, .slice A0_1 l0_1.length c0_1, .slice A0_2 l0_2.length c0_2] w acc wr) ∧ Aside0 (impl_objectText.secs k (l0_0.drop kk) acc = some a1))
 case atStart => exact ⟨0, ⟨#[]⟩, Nat.zero_le _, by omega, rfl, HS0, HF1⟩
 case round =>
  clear HF1 HS0
  obtain ⟨kk, acc, hkk, hg, rfl, HS, HA⟩ := hrel
  by_cases hlt : kk < l0_0.length
  ·have hltz : (kk : Int) < (l0_0.length : Int) := by omega
   obtain ⟨ad, A5, c5, eA, hcell, hcell1, hcell2, hcell3, hcell4, hcell5, hl5, hi5⟩ := at_T71 HR0.out (kk : Int) (by omega) (by omega)
   have hd : l0_0.drop kk = rd_T71 l0_0 kk :: l0_0.drop (kk + 1) := by
    rw [List.drop_eq_getElem_cons hlt, rd_T71, Int.toNat_natCast, List.getD_eq_getElem?_getD, List.getElem?_eq_getElem hlt]
    rfl
   have HA1 := HA.out
   rw [hd, impl_objectText.secs] at HA1
   rw [Int.toNat_natCast] at hcell hcell1 hcell2 hcell3 hcell4 hcell5
   replace hcell := pw_cell_below HS.out.1 hcell
   replace hcell1 := pw_cell_below HS.out.1 hcell1
   replace hcell2 := pw_cell_below HS.out.1 hcell2
   replace hcell3 := pw_cell_below HS.out.1 hcell3
   replace hcell4 := pw_cell_below HS.out.1 hcell4
   replace hcell5 := pw_cell_below HS.out.1 hcell5
   have HI5 := Aside0.mk hi5
   have HL5 := Aside0.mk hl5
   clear hi5 hl5
   generalize rd_T71 l0_0 kk = y at hcell hcell1 hcell2 hcell3 hcell4 hcell5 HA1 HI5 HL5
   obtain ⟨t, ht, HA2⟩ := Option.bind_eq_some_iff.1 HA1
   unfold impl_objectText.secRow at ht
   obtain ⟨va, ea, ht⟩ := Option.bind_eq_some_iff.1 ht
   obtain ⟨vb, eb, ht⟩ := Option.bind_eq_some_iff.1 ht
   obtain ⟨vc, ec, ht⟩ := Option.bind_eq_some_iff.1 ht
   obtain ⟨vd, ed, ht⟩ := Option.bind_eq_some_iff.1 ht
   by_cases hs : acc.size + t.size ≤ 140737488355328
   ·rw [if_pos hs] at HA2
    obtain ⟨acc2, hp, HA3⟩ := Option.bind_eq_some_iff.1 HA2
    have EA := Aside0.mk ea
    have EB := Aside0.mk eb
    have EC := Aside0.mk ec
    have ED := Aside0.mk ed
    have ET := Aside0.mk ht
    have HP := Aside0.mk hp
    have HA4 := Aside0.mk HA3
    have ZS := Aside0.mk hs
    clear hd HA HA1 HA2 HA3 ea eb ec ed ht hp hs
    subst eA
    go_wp2
    have GLT := Aside0.mk HS.out.2.2.2
    have BK := Aside0.mk (blk_new wr (.cells #[.string y.f0, .int .i64 y.f1, .int .i64 y.f2, .int .i64 y.f3, .string y.f4, .slice A5 y.f5.length c5] 71))
    have HSn := Aside0.mk (HS.out.step (below_alloc (Below.refl _ _) (.cells #[.string y.f0, .int .i64 y.f1, .int .i64 y.f2, .int .i64 y.f3, .string y.f4, .slice A5 y.f5.length c5] 71)))
    clear HS hcell hcell1 hcell2 hcell3 hcell4 hcell5
    have HS := HSn
    clear HSn
    generalize wr.alloc (.cells #[.string y.f0, .int .i64 y.f1, .int .i64 y.f2, .int .i64 y.f3, .string y.f4, .slice A5 y.f5.length c5] 71) = w2 at BK HS ⊢
    generalize wr.heap.size = gs at BK GLT ⊢
    go_region_held3 (fun w' => w'.cell? ⟨gs, 0, none⟩ = some (.string y.f0) ∧ w'.cell? ⟨gs, 1, none⟩ = some (.int .i64 y.f1) ∧ w'.cell? ⟨gs, 2, none⟩ = some (.int .i64 y.f2) ∧ w'.cell? ⟨gs, 3, none⟩ = some (.int .i64 y.f3) ∧ w'.cell? ⟨gs, 4, none⟩ = some (.string y.f4) ∧ w'.cell? ⟨gs, 5, none⟩ = some (.slice A5 y.f5.length c5)) (exact impl_objectText.c6 (by (with_reducible repeat (first | refine blk_drewN ?_ _ | refine blk_drew ?_ | refine blk_alloc ?_ _)); exact BK.out)) (first | (go_at_call 60; (first | ((with_reducible refine (impl_decimal.calls y.f1 va _ ?hg EA.out).mono ?_); (case hg => exact HS.out.gw HG.out (by repeat (first | exact Below.refl _ _ | apply below_alloc | apply pw_below_drewN | apply below_drew))); rintro e w' ⟨rfl, hb⟩; have HSn := Aside0.mk (HS.out.step (below_step (by repeat (first | exact Below.refl _ _ | apply below_alloc | apply pw_below_drewN | apply below_drew)) hb)); have BKn := Aside0.mk (blk_below (g := gs) (o := .cells #[.string y.f0, .int .i64 y.f1, .int .i64 y.f2, .int .i64 y.f3, .string y.f4, .slice A5 y.f5.length c5] 71 (0, 0)) (by (with_reducible repeat (first | refine blk_drewN ?_ _ | refine blk_drew ?_ | refine blk_alloc ?_ _)); exact BK.out) hb); clear HS BK hb; have HS := HSn; have BK := BKn; clear HSn BKn) | ((with_reducible refine (impl_decimal.calls y.f2 vb _ ?hg EB.out).mono ?_); (case hg => exact HS.out.gw HG.out (by repeat (first | exact Below.refl _ _ | apply below_alloc | apply pw_below_drewN | apply below_drew))); rintro e w' ⟨rfl, hb⟩; have HSn := Aside0.mk (HS.out.step (below_step (by repeat (first | exact Below.refl _ _ | apply below_alloc | apply pw_below_drewN | apply below_drew)) hb)); have BKn := Aside0.mk (blk_below (g := gs) (o := .cells #[.string y.f0, .int .i64 y.f1, .int .i64 y.f2, .int .i64 y.f3, .string y.f4, .slice A5 y.f5.length c5] 71 (0, 0)) (by (with_reducible repeat (first | refine blk_drewN ?_ _ | refine blk_drew ?_ | refine blk_alloc ?_ _)); exact BK.out) hb); clear HS BK hb; have HS := HSn; have BK := BKn; clear HSn BKn) | ((with_reducible refine (impl_decimal.calls y.f3 vc _ ?hg EC.out).mono ?_); (case hg => exact HS.out.gw HG.out (by repeat (first | exact Below.refl _ _ | apply below_alloc | apply pw_below_drewN | apply below_drew))); rintro e w' ⟨rfl, hb⟩; have HSn := Aside0.mk (HS.out.step (below_step (by repeat (first | exact Below.refl _ _ | apply below_alloc | apply pw_below_drewN | apply below_drew)) hb)); have BKn := Aside0.mk (blk_below (g := gs) (o := .cells #[.string y.f0, .int .i64 y.f1, .int .i64 y.f2, .int .i64 y.f3, .string y.f4, .slice A5 y.f5.length c5] 71 (0, 0)) (by (with_reducible repeat (first | refine blk_drewN ?_ _ | refine blk_drew ?_ | refine blk_alloc ?_ _)); exact BK.out) hb); clear HS BK hb; have HS := HSn; have BK := BKn; clear HSn BKn))) | (go_at_call 61; ((with_reducible refine (impl_hexText.calls y.f4 vd _ ?hg ED.out).mono ?_); (case hg => exact HS.out.gw HG.out (by repeat (first | exact Below.refl _ _ | apply below_alloc | apply pw_below_drewN | apply below_drew))); rintro e w' ⟨rfl, hb⟩; have HSn := Aside0.mk (HS.out.step (below_step (by repeat (first | exact Below.refl _ _ | apply below_alloc | apply pw_below_drewN | apply below_drew)) hb)); have BKn := Aside0.mk (blk_below (g := gs) (o := .cells #[.string y.f0, .int .i64 y.f1, .int .i64 y.f2, .int .i64 y.f3, .string y.f4, .slice A5 y.f5.length c5] 71 (0, 0)) (by (with_reducible repeat (first | refine blk_drewN ?_ _ | refine blk_drew ?_ | refine blk_alloc ?_ _)); exact BK.out) hb); clear HS BK hb; have HS := HSn; have BK := BKn; clear HSn BKn)) | (go_at_call 59; ((with_reducible refine (impl_objectText.sp6 (e := 9) _ (⟨#[115, 101, 99, 116, 105, 111, 110]⟩ : ByteArray) y.f0 va vb vc vd t _ ?hr ET.out).mono ?_); (case hr => exact blk_new _ _); rintro e w' ⟨rfl, hb⟩; have HSn := Aside0.mk (HS.out.step (below_step (by repeat (first | exact Below.refl _ _ | apply below_alloc | apply pw_below_drewN | apply below_drew)) hb)); have BKn := Aside0.mk (blk_below (g := gs) (o := .cells #[.string y.f0, .int .i64 y.f1, .int .i64 y.f2, .int .i64 y.f3, .string y.f4, .slice A5 y.f5.length c5] 71 (0, 0)) (by (with_reducible repeat (first | refine blk_drewN ?_ _ | refine blk_drew ?_ | refine blk_alloc ?_ _)); exact BK.out) hb); clear HS BK hb; have HS := HSn; have BK := BKn; clear HSn BKn)) | (go_at_call 58; ((with_reducible refine (impl_objectText.write _ w acc t _ HS.out ZS.out).mono ?_); rintro e w' ⟨rfl, hb, hO⟩; have BKn := Aside0.mk (impl_objectText.kept hO (by (with_reducible repeat (first | refine blk_drewN ?_ _ | refine blk_drew ?_ | refine blk_alloc ?_ _)); exact BK.out) GLT.out (by decide)); clear HS hO BK; have HS := Aside0.mk hb; clear hb; have BK := BKn; clear BKn)))
    have c5_ := (blk_cell BK.out 5).trans rfl
    have hb5 : y.f5.length ≤ 9223372036854775807 := HI5.out.2.1
    go_wp2
    go_loopg [40] y.f5.length (fun gg s_ wr => ∃ (jj : Nat) (acc : ByteArray), jj ≤ y.f5.length ∧ y.f5.length - jj ≤ gg ∧ s_ = .int .i64 jj ∧ Aside0 (impl_objectText.St #[.slice (some ad) l0_0.length c0_0, .slice A0_1 l0_1.length c0_1, .slice A0_2 l0_2.length c0_2] w acc wr) ∧ Aside0 (impl_objectText.pats k (y.f5.drop jj) acc = some acc2))
    case atStart => exact ⟨0, acc ++ t, Nat.zero_le _, by omega, rfl, HS, HP⟩
    case round =>
     clear HP HS BK c5_
     rename_i acc0_
     obtain ⟨jj, acc, hjj, hgj, rfl, HS, HA⟩ := hrel
     by_cases hlt : jj < y.f5.length
     ·have HJ5 := HI5
      have hltz : (jj : Int) < (y.f5.length : Int) := by omega
      obtain ⟨ad, A2, c2, eA, hcell, hcell1, hcell2, hl2, hi2⟩ := at_T79 HJ5.out (jj : Int) (by omega) (by omega)
      have hd : y.f5.drop jj = rd_T79 y.f5 jj :: y.f5.drop (jj + 1) := by
       rw [List.drop_eq_getElem_cons hlt, rd_T79, Int.toNat_natCast, List.getD_eq_getElem?_getD, List.getElem?_eq_getElem hlt]
       rfl
      have HA1 := HA.out
      rw [hd, impl_objectText.pats] at HA1
      rw [Int.toNat_natCast] at hcell hcell1 hcell2
      replace hcell := pw_cell_below HS.out.1 hcell
      replace hcell1 := pw_cell_below HS.out.1 hcell1
      replace hcell2 := pw_cell_below HS.out.1 hcell2
      have HI2 := Aside0.mk hi2
      have HL2 := Aside0.mk hl2
      clear hi2 hl2
      generalize rd_T79 y.f5 jj = p at hcell hcell1 hcell2 HA1 HI2 HL2
      obtain ⟨t, ht, HA2⟩ := Option.bind_eq_some_iff.1 HA1
      clear HJ5
      unfold impl_objectText.patRow at ht
      obtain ⟨va2, ea, ht⟩ := Option.bind_eq_some_iff.1 ht
      obtain ⟨vb2, eb, ht⟩ := Option.bind_eq_some_iff.1 ht
      obtain ⟨ve, ee, ht⟩ := Option.bind_eq_some_iff.1 ht
      by_cases hs : acc.size + t.size ≤ 140737488355328
      ·rw [if_pos hs] at HA2
       have EA2 := Aside0.mk ea
       have EB2 := Aside0.mk eb
       have EE := Aside0.mk ee
       have ET := Aside0.mk ht
       have HA5 := Aside0.mk HA2
       have ZS := Aside0.mk hs
       clear hd HA HA1 HA2 ea eb ee ht hs
       subst eA
       go_wp2
       have GLT := Aside0.mk HS.out.2.2.2
       have BK := Aside0.mk (blk_new wr (.cells #[.int .i64 p.f0, .int .i64 p.f1, .slice A2 p.f2.length c2] 79))
       have HSn := Aside0.mk (HS.out.step (below_alloc (Below.refl _ _) (.cells #[.int .i64 p.f0, .int .i64 p.f1, .slice A2 p.f2.length c2] 79)))
       clear HS hcell hcell1 hcell2
       have HS := HSn
       clear HSn
       generalize wr.alloc (.cells #[.int .i64 p.f0, .int .i64 p.f1, .slice A2 p.f2.length c2] 79) = w2 at BK HS ⊢
       generalize wr.heap.size = gs at BK GLT ⊢
       go_region_held3 (fun w' => w'.cell? ⟨gs, 0, none⟩ = some (.int .i64 p.f0) ∧ w'.cell? ⟨gs, 1, none⟩ = some (.int .i64 p.f1) ∧ w'.cell? ⟨gs, 2, none⟩ = some (.slice A2 p.f2.length c2)) (exact impl_objectText.c3 (by (with_reducible repeat (first | refine blk_drewN ?_ _ | refine blk_drew ?_ | refine blk_alloc ?_ _)); exact BK.out)) (first | (go_at_call 60; (first | ((with_reducible refine (impl_decimal.calls p.f0 va2 _ ?hg EA2.out).mono ?_); (case hg => exact HS.out.gw HG.out (by repeat (first | exact Below.refl _ _ | apply below_alloc | apply pw_below_drewN | apply below_drew))); rintro e w' ⟨rfl, hb⟩; have HSn := Aside0.mk (HS.out.step (below_step (by repeat (first | exact Below.refl _ _ | apply below_alloc | apply pw_below_drewN | apply below_drew)) hb)); have BKn := Aside0.mk (blk_below (g := gs) (o := .cells #[.int .i64 p.f0, .int .i64 p.f1, .slice A2 p.f2.length c2] 79 (0, 0)) (by (with_reducible repeat (first | refine blk_drewN ?_ _ | refine blk_drew ?_ | refine blk_alloc ?_ _)); exact BK.out) hb); clear HS BK hb; have HS := HSn; have BK := BKn; clear HSn BKn) | ((with_reducible refine (impl_decimal.calls p.f1 vb2 _ ?hg EB2.out).mono ?_); (case hg => exact HS.out.gw HG.out (by repeat (first | exact Below.refl _ _ | apply below_alloc | apply pw_below_drewN | apply below_drew))); rintro e w' ⟨rfl, hb⟩; have HSn := Aside0.mk (HS.out.step (below_step (by repeat (first | exact Below.refl _ _ | apply below_alloc | apply pw_below_drewN | apply below_drew)) hb)); have BKn := Aside0.mk (blk_below (g := gs) (o := .cells #[.int .i64 p.f0, .int .i64 p.f1, .slice A2 p.f2.length c2] 79 (0, 0)) (by (with_reducible repeat (first | refine blk_drewN ?_ _ | refine blk_drew ?_ | refine blk_alloc ?_ _)); exact BK.out) hb); clear HS BK hb; have HS := HSn; have BK := BKn; clear HSn BKn))) | (go_at_call 62; ((with_reducible refine (impl_exprText.calls k A2 c2 p.f2 ve _ ?hr HL2.out ?hg EE.out).mono ?_); (case hr => exact Kd.C_below HI2.out (by repeat (first | exact HS.out.1 | apply below_alloc | apply pw_below_drewN | apply below_drew1))); (case hg => exact HS.out.gw HG.out (by repeat (first | exact Below.refl _ _ | apply below_alloc | apply pw_below_drewN | apply below_drew))); rintro e w' ⟨rfl, hb⟩; have HSn := Aside0.mk (HS.out.step (below_step (by repeat (first | exact Below.refl _ _ | apply below_alloc | apply pw_below_drewN | apply below_drew)) hb)); have BKn := Aside0.mk (blk_below (g := gs) (o := .cells #[.int .i64 p.f0, .int .i64 p.f1, .slice A2 p.f2.length c2] 79 (0, 0)) (by (with_reducible repeat (first | refine blk_drewN ?_ _ | refine blk_drew ?_ | refine blk_alloc ?_ _)); exact BK.out) hb); clear HS BK hb; have HS := HSn; have BK := BKn; clear HSn BKn)) | (go_at_call 59; ((with_reducible refine (impl_objectText.sp4 (e := 9) _ (⟨#[112, 97, 116, 99, 104]⟩ : ByteArray) va2 vb2 ve t _ ?hr ET.out).mono ?_); (case hr => exact blk_new _ _); rintro e w' ⟨rfl, hb⟩; have HSn := Aside0.mk (HS.out.step (below_step (by repeat (first | exact Below.refl _ _ | apply below_alloc | apply pw_below_drewN | apply below_drew)) hb)); have BKn := Aside0.mk (blk_below (g := gs) (o := .cells #[.int .i64 p.f0, .int .i64 p.f1, .slice A2 p.f2.length c2] 79 (0, 0)) (by (with_reducible repeat (first | refine blk_drewN ?_ _ | refine blk_drew ?_ | refine blk_alloc ?_ _)); exact BK.out) hb); clear HS BK hb; have HS := HSn; have BK := BKn; clear HSn BKn)) | (go_at_call 58; ((with_reducible refine (impl_objectText.write _ w acc t _ HS.out ZS.out).mono ?_); rintro e w' ⟨rfl, hb, hO⟩; have BKn := Aside0.mk (impl_objectText.kept hO (by (with_reducible repeat (first | refine blk_drewN ?_ _ | refine blk_drew ?_ | refine blk_alloc ?_ _)); exact BK.out) GLT.out (by decide)); clear HS hO BK; have HS := Aside0.mk hb; clear hb; have BK := BKn; clear BKn)))
       go_wp2
       go_roundg (y.f5.length - (jj + 1))
       case measure => omega
       case rel => exact ⟨jj + 1, acc ++ t, by omega, by omega, by go_num, HS, HA5⟩
      ·rw [if_neg hs] at HA2
       cases HA2
     ·have hltz : ¬ (jj : Int) < (y.f5.length : Int) := by omega
      have hr_ : acc = acc2 := by
       have := HA.out
       rw [List.drop_eq_nil_of_le (by omega), impl_objectText.pats] at this
       exact Option.some.inj this
      subst hr_
      clear HA
      go_wp2
      go_roundg (l0_0.length - (kk + 1))
      case measure => omega
      case rel => exact ⟨kk + 1, acc, by omega, by omega, by go_num, HS, HA4⟩
   ·rw [if_neg hs] at HA2
    cases HA2
  ·have hltz : ¬ (kk : Int) < (l0_0.length : Int) := by omega
   have hr_ : acc = a1 := by
    have := HA.out
    rw [List.drop_eq_nil_of_le (by omega), impl_objectText.secs] at this
    exact Option.some.inj this
   subst hr_
   clear HA
   have cb1_ := (blk_cell HS.out.2.2.1 1).trans rfl
   go_wp2
   go_loopg [61] l0_1.length (fun gg s_ wr => ∃ (kk : Nat) (acc : ByteArray), kk ≤ l0_1.length ∧ l0_1.length - kk ≤ gg ∧ s_ = .int .i64 kk ∧ Aside0 (impl_objectText.St #[.slice A0_0 l0_0.length c0_0, .slice A0_1 l0_1.length c0_1, .slice A0_2 l0_2.length c0_2] w acc wr) ∧ Aside0 (impl_objectText.syms (l0_1.drop kk) acc = some a2))
   case atStart => exact ⟨0, acc, Nat.zero_le _, by omega, rfl, HS, HF2⟩
   case round =>
    clear HF2 HS cb1_ hlt hltz hkk hg
    obtain ⟨kk, acc, hkk, hg, rfl, HS, HA⟩ := hrel
    by_cases hlt : kk < l0_1.length
    ·have hltz : (kk : Int) < (l0_1.length : Int) := by omega
     obtain ⟨ad, eA, hcell, hcell1, hcell2, hcell3⟩ := at_T72 HR1.out (kk : Int) (by omega) (by omega)
     have hd : l0_1.drop kk = rd_T72 l0_1 kk :: l0_1.drop (kk + 1) := by
      rw [List.drop_eq_getElem_cons hlt, rd_T72, Int.toNat_natCast, List.getD_eq_getElem?_getD, List.getElem?_eq_getElem hlt]
      rfl
     have HA1 := HA.out
     rw [hd, impl_objectText.syms] at HA1
     rw [Int.toNat_natCast] at hcell hcell1 hcell2 hcell3
     replace hcell := pw_cell_below HS.out.1 hcell
     replace hcell1 := pw_cell_below HS.out.1 hcell1
     replace hcell2 := pw_cell_below HS.out.1 hcell2
     replace hcell3 := pw_cell_below HS.out.1 hcell3
     generalize rd_T72 l0_1 kk = y at hcell hcell1 hcell2 hcell3 HA1
     obtain ⟨t, ht, HA2⟩ := Option.bind_eq_some_iff.1 HA1
     unfold impl_objectText.symRow at ht
     obtain ⟨va, ea, ht⟩ := Option.bind_eq_some_iff.1 ht
     obtain ⟨vb, eb, ht⟩ := Option.bind_eq_some_iff.1 ht
     by_cases hs : acc.size + t.size ≤ 140737488355328
     ·rw [if_pos hs] at HA2
      clear hd HA HA1
      obtain ⟨y0, y1, y2, y3⟩ := y
      dsimp only at hcell hcell1 hcell2 hcell3 ea eb ht
      have EA := Aside0.mk ea
      have EB := Aside0.mk eb
      have HA4 := Aside0.mk HA2
      have ZS := Aside0.mk hs
      clear HA2 ea eb hs
      subst eA
      cases y3
      case false =>
       rw [if_neg (by decide)] at ht
       have ET := Aside0.mk ht
       clear ht
       go_wp2
       have GLT := Aside0.mk HS.out.2.2.2
       have BK := Aside0.mk (blk_new wr (.cells #[.string y0, .int .i64 y1, .int .i64 y2, .bool false] 72))
       have HSn := Aside0.mk (HS.out.step (below_alloc (Below.refl _ _) (.cells #[.string y0, .int .i64 y1, .int .i64 y2, .bool false] 72)))
       clear HS hcell hcell1 hcell2 hcell3
       have HS := HSn
       clear HSn
       generalize wr.alloc (.cells #[.string y0, .int .i64 y1, .int .i64 y2, .bool false] 72) = w2 at BK HS ⊢
       generalize wr.heap.size = gs at BK GLT ⊢
       have c3_ := (blk_cell BK.out 3).trans rfl
       try go_wp2
       clear c3_
       go_region_held3 (fun w' => w'.cell? ⟨gs, 0, none⟩ = some (.string y0) ∧ w'.cell? ⟨gs, 1, none⟩ = some (.int .i64 y1) ∧ w'.cell? ⟨gs, 2, none⟩ = some (.int .i64 y2) ∧ w'.cell? ⟨gs, 3, none⟩ = some (.bool false)) (exact impl_objectText.c4 (by (with_reducible repeat (first | refine blk_drewN ?_ _ | refine blk_drew ?_ | refine blk_alloc ?_ _)); exact BK.out)) (first | (go_at_call 60; (first | ((with_reducible refine (impl_decimal.calls y1 va _ ?hg EA.out).mono ?_); (case hg => exact HS.out.gw HG.out (by repeat (first | exact Below.refl _ _ | apply below_alloc | apply pw_below_drewN | apply below_drew))); rintro e w' ⟨rfl, hb⟩; have HSn := Aside0.mk (HS.out.step (below_step (by repeat (first | exact Below.refl _ _ | apply below_alloc | apply pw_below_drewN | apply below_drew)) hb)); have BKn := Aside0.mk (blk_below (g := gs) (o := .cells #[.string y0, .int .i64 y1, .int .i64 y2, .bool false] 72 (0, 0)) (by (with_reducible repeat (first | refine blk_drewN ?_ _ | refine blk_drew ?_ | refine blk_alloc ?_ _)); exact BK.out) hb); clear HS BK hb; have HS := HSn; have BK := BKn; clear HSn BKn) | ((with_reducible refine (impl_decimal.calls y2 vb _ ?hg EB.out).mono ?_); (case hg => exact HS.out.gw HG.out (by repeat (first | exact Below.refl _ _ | apply below_alloc | apply pw_below_drewN | apply below_drew))); rintro e w' ⟨rfl, hb⟩; have HSn := Aside0.mk (HS.out.step (below_step (by repeat (first | exact Below.refl _ _ | apply below_alloc | apply pw_below_drewN | apply below_drew)) hb)); have BKn := Aside0.mk (blk_below (g := gs) (o := .cells #[.string y0, .int .i64 y1, .int .i64 y2, .bool false] 72 (0, 0)) (by (with_reducible repeat (first | refine blk_drewN ?_ _ | refine blk_drew ?_ | refine blk_alloc ?_ _)); exact BK.out) hb); clear HS BK hb; have HS := HSn; have BK := BKn; clear HSn BKn))) | (go_at_call 59; ((with_reducible refine (impl_objectText.sp5 (e := 9) _ (⟨#[115, 121, 109, 98, 111, 108]⟩ : ByteArray) y0 va vb (⟨#[48]⟩ : ByteArray) t _ ?hr ET.out).mono ?_); (case hr => exact blk_new _ _); rintro e w' ⟨rfl, hb⟩; have HSn := Aside0.mk (HS.out.step (below_step (by repeat (first | exact Below.refl _ _ | apply below_alloc | apply pw_below_drewN | apply below_drew)) hb)); have BKn := Aside0.mk (blk_below (g := gs) (o := .cells #[.string y0, .int .i64 y1, .int .i64 y2, .bool false] 72 (0, 0)) (by (with_reducible repeat (first | refine blk_drewN ?_ _ | refine blk_drew ?_ | refine blk_alloc ?_ _)); exact BK.out) hb); clear HS BK hb; have HS := HSn; have BK := BKn; clear HSn BKn)) | (go_at_call 58; ((with_reducible refine (impl_objectText.write _ w acc t _ HS.out ZS.out).mono ?_); rintro e w' ⟨rfl, hb, hO⟩; have BKn := Aside0.mk (impl_objectText.kept hO (by (with_reducible repeat (first | refine blk_drewN ?_ _ | refine blk_drew ?_ | refine blk_alloc ?_ _)); exact BK.out) GLT.out (by decide)); clear HS hO BK; have HS := Aside0.mk hb; clear hb; have BK := BKn; clear BKn)))
       go_wp2
       go_roundg (l0_1.length - (kk + 1))
       case measure => omega
       case rel => exact ⟨kk + 1, acc ++ t, by omega, by omega, by go_num, HS, HA4⟩
      case true =>
       rw [if_pos rfl] at ht
       have ET := Aside0.mk ht
       clear ht
       go_wp2
       have GLT := Aside0.mk HS.out.2.2.2
       have BK := Aside0.mk (blk_new wr (.cells #[.string y0, .int .i64 y1, .int .i64 y2, .bool true] 72))
       have HSn := Aside0.mk (HS.out.step (below_alloc (Below.refl _ _) (.cells #[.string y0, .int .i64 y1, .int .i64 y2, .bool true] 72)))
       clear HS hcell hcell1 hcell2 hcell3
       have HS := HSn
       clear HSn
       generalize wr.alloc (.cells #[.string y0, .int .i64 y1, .int .i64 y2, .bool true] 72) = w2 at BK HS ⊢
       generalize wr.heap.size = gs at BK GLT ⊢
       have c3_ := (blk_cell BK.out 3).trans rfl
       try go_wp2
       clear c3_
       go_region_held3 (fun w' => w'.cell? ⟨gs, 0, none⟩ = some (.string y0) ∧ w'.cell? ⟨gs, 1, none⟩ = some (.int .i64 y1) ∧ w'.cell? ⟨gs, 2, none⟩ = some (.int .i64 y2) ∧ w'.cell? ⟨gs, 3, none⟩ = some (.bool true)) (exact impl_objectText.c4 (by (with_reducible repeat (first | refine blk_drewN ?_ _ | refine blk_drew ?_ | refine blk_alloc ?_ _)); exact BK.out)) (first | (go_at_call 60; (first | ((with_reducible refine (impl_decimal.calls y1 va _ ?hg EA.out).mono ?_); (case hg => exact HS.out.gw HG.out (by repeat (first | exact Below.refl _ _ | apply below_alloc | apply pw_below_drewN | apply below_drew))); rintro e w' ⟨rfl, hb⟩; have HSn := Aside0.mk (HS.out.step (below_step (by repeat (first | exact Below.refl _ _ | apply below_alloc | apply pw_below_drewN | apply below_drew)) hb)); have BKn := Aside0.mk (blk_below (g := gs) (o := .cells #[.string y0, .int .i64 y1, .int .i64 y2, .bool true] 72 (0, 0)) (by (with_reducible repeat (first | refine blk_drewN ?_ _ | refine blk_drew ?_ | refine blk_alloc ?_ _)); exact BK.out) hb); clear HS BK hb; have HS := HSn; have BK := BKn; clear HSn BKn) | ((with_reducible refine (impl_decimal.calls y2 vb _ ?hg EB.out).mono ?_); (case hg => exact HS.out.gw HG.out (by repeat (first | exact Below.refl _ _ | apply below_alloc | apply pw_below_drewN | apply below_drew))); rintro e w' ⟨rfl, hb⟩; have HSn := Aside0.mk (HS.out.step (below_step (by repeat (first | exact Below.refl _ _ | apply below_alloc | apply pw_below_drewN | apply below_drew)) hb)); have BKn := Aside0.mk (blk_below (g := gs) (o := .cells #[.string y0, .int .i64 y1, .int .i64 y2, .bool true] 72 (0, 0)) (by (with_reducible repeat (first | refine blk_drewN ?_ _ | refine blk_drew ?_ | refine blk_alloc ?_ _)); exact BK.out) hb); clear HS BK hb; have HS := HSn; have BK := BKn; clear HSn BKn))) | (go_at_call 59; ((with_reducible refine (impl_objectText.sp5 (e := 9) _ (⟨#[115, 121, 109, 98, 111, 108]⟩ : ByteArray) y0 va vb (⟨#[49]⟩ : ByteArray) t _ ?hr ET.out).mono ?_); (case hr => exact blk_new _ _); rintro e w' ⟨rfl, hb⟩; have HSn := Aside0.mk (HS.out.step (below_step (by repeat (first | exact Below.refl _ _ | apply below_alloc | apply pw_below_drewN | apply below_drew)) hb)); have BKn := Aside0.mk (blk_below (g := gs) (o := .cells #[.string y0, .int .i64 y1, .int .i64 y2, .bool true] 72 (0, 0)) (by (with_reducible repeat (first | refine blk_drewN ?_ _ | refine blk_drew ?_ | refine blk_alloc ?_ _)); exact BK.out) hb); clear HS BK hb; have HS := HSn; have BK := BKn; clear HSn BKn)) | (go_at_call 58; ((with_reducible refine (impl_objectText.write _ w acc t _ HS.out ZS.out).mono ?_); rintro e w' ⟨rfl, hb, hO⟩; have BKn := Aside0.mk (impl_objectText.kept hO (by (with_reducible repeat (first | refine blk_drewN ?_ _ | refine blk_drew ?_ | refine blk_alloc ?_ _)); exact BK.out) GLT.out (by decide)); clear HS hO BK; have HS := Aside0.mk hb; clear hb; have BK := BKn; clear BKn)))
       go_wp2
       go_roundg (l0_1.length - (kk + 1))
       case measure => omega
       case rel => exact ⟨kk + 1, acc ++ t, by omega, by omega, by go_num, HS, HA4⟩
     ·rw [if_neg hs] at HA2
      cases HA2
    ·have hltz : ¬ (kk : Int) < (l0_1.length : Int) := by omega
     have hr_ : acc = a2 := by
      have := HA.out
      rw [List.drop_eq_nil_of_le (by omega), impl_objectText.syms] at this
      exact Option.some.inj this
     subst hr_
     clear HA
     have cb2_ := (blk_cell HS.out.2.2.1 2).trans rfl
     go_wp2
     go_loopg [83] l0_2.length (fun gg s_ wr => ∃ (kk : Nat) (acc : ByteArray), kk ≤ l0_2.length ∧ l0_2.length - kk ≤ gg ∧ s_ = .int .i64 kk ∧ Aside0 (impl_objectText.St #[.slice A0_0 l0_0.length c0_0, .slice A0_1 l0_1.length c0_1, .slice A0_2 l0_2.length c0_2] w acc wr) ∧ Aside0 (impl_objectText.asss k (l0_2.drop kk) acc = some r))
     case atStart => exact ⟨0, acc, Nat.zero_le _, by omega, rfl, HS, HF3⟩
     case round =>
      clear HF3 HS cb2_ hlt hltz hkk hg
      obtain ⟨kk, acc, hkk, hg, rfl, HS, HA⟩ := hrel
      by_cases hlt : kk < l0_2.length
      ·have hltz : (kk : Int) < (l0_2.length : Int) := by omega
       obtain ⟨ad, A5, c5, eA, hcell, hl5, hi5⟩ := at_L10 HR2.out (kk : Int) (by omega) (by omega)
       have hd : l0_2.drop kk = rd_L10 l0_2 kk :: l0_2.drop (kk + 1) := by
        rw [List.drop_eq_getElem_cons hlt, rd_L10, Int.toNat_natCast, List.getD_eq_getElem?_getD, List.getElem?_eq_getElem hlt]
        rfl
       have HA1 := HA.out
       rw [hd, impl_objectText.asss] at HA1
       rw [Int.toNat_natCast] at hcell
       replace hcell := pw_cell_below HS.out.1 hcell
       have HI5 := Aside0.mk hi5
       have HL5 := Aside0.mk hl5
       clear hi5 hl5
       generalize rd_L10 l0_2 kk = y at hcell HA1 HI5 HL5
       obtain ⟨t, ht, HA2⟩ := Option.bind_eq_some_iff.1 HA1
       unfold impl_objectText.assRow at ht
       obtain ⟨va, ea, ht⟩ := Option.bind_eq_some_iff.1 ht
       by_cases hs : acc.size + t.size ≤ 140737488355328
       ·rw [if_pos hs] at HA2
        have EA := Aside0.mk ea
        have ET := Aside0.mk ht
        have HA4 := Aside0.mk HA2
        have ZS := Aside0.mk hs
        clear hd HA HA1 HA2 ea ht hs
        subst eA
        go_wp2_with (first | (go_at_call 62; ((with_reducible refine (impl_exprText.calls k A5 c5 y va _ ?hr HL5.out ?hg EA.out).mono ?_); (case hr => exact Kd.C_below HI5.out (by repeat (first | exact HS.out.1 | apply below_alloc | apply pw_below_drewN | apply below_drew1))); (case hg => exact HS.out.gw HG.out (by repeat (first | exact Below.refl _ _ | apply below_alloc | apply pw_below_drewN | apply below_drew))); rintro e w' ⟨rfl, hb⟩; have HSn := Aside0.mk (HS.out.step (below_step (by repeat (first | exact Below.refl _ _ | apply below_alloc | apply pw_below_drewN | apply below_drew)) hb)); clear HS hb; have HS := HSn; clear HSn)) | (go_at_call 59; ((with_reducible refine (impl_objectText.sp2 (e := 9) _ (⟨#[97, 115, 115, 101, 114, 116]⟩ : ByteArray) va t _ ?hr ET.out).mono ?_); (case hr => exact blk_new _ _); rintro e w' ⟨rfl, hb⟩; have HSn := Aside0.mk (HS.out.step (below_step (by repeat (first | exact Below.refl _ _ | apply below_alloc | apply pw_below_drewN | apply below_drew)) hb)); clear HS hb; have HS := HSn; clear HSn)) | (go_at_call 58; ((with_reducible refine (impl_objectText.write _ w acc t _ HS.out ZS.out).mono ?_); rintro e w' ⟨rfl, hb, hO⟩; clear HS hO ; have HS := Aside0.mk hb; clear hb)))
        go_roundg (l0_2.length - (kk + 1))
        case measure => omega
        case rel => exact ⟨kk + 1, acc ++ t, by omega, by omega, by go_num, HS, HA4⟩
       ·rw [if_neg hs] at HA2
        cases HA2
      ·have hltz : ¬ (kk : Int) < (l0_2.length : Int) := by omega
       have hr_ : acc = r := by
        have := HA.out
        rw [List.drop_eq_nil_of_le (by omega), impl_objectText.asss] at this
        exact Option.some.inj this
       subst hr_
       clear HA
       go_wp2_with (go_at_call 63; refine (Tryz.Builder_String_any_f (w.heap.size + 1) (w.heap.size + 1) acc.data.toList _ HS.out.2.1 ?hw).mono ?_; (case hw => have := HS.out.2.2.2; omega); rintro e w' ⟨rfl, _, hb⟩)
       (first | go_ret | (apply bodyPost_ret; (exact results_tmp rfl _ _ _); rfl))
       exact ⟨rfl, Below.trans HS.out.1 (hb.mono (by omega))⟩

end Go.Proofs.YtlacpadpdfccmaaGreatDoor.PFnExactObjectText
namespace Go.Proofs.YtlacpadpdfccmaaGreatDoor.PFnExactObjectText
open Go.RowKit Go.Proofs.YtlacpadpdfccmaaGreatDoor.Z Go.Proofs.YtlacpadpdfccmaaGreatDoorW.PrintWords Go.Proofs.YtlacpadpdfccmaaGreatDoorW.PrintLast Go.Proofs.YtlacpadpdfccmaaGreatDoorW.PrintMore
attribute [local go_sem] max2_int min2_int max_two min_two max_three min_three max_four min_four   -- for this text's walks alone
set_option linter.unusedVariables false
set_option linter.unusedSimpArgs false

def impl_ObjectText.f (k : Nat) (l0_0 : List (S71)) (l0_1 : List (S72)) (l0_2 : List (List (S124))) : Option (ByteArray) := (impl_ObjectOk.f k l0_0 l0_1 l0_2).bind fun t371 => (if t371 = true then ((impl_objectText.f k l0_0 l0_1 l0_2).bind fun t372 => (some t372)) else (some (⟨#[]⟩ : ByteArray)))
theorem impl_ObjectText.mono : ∀ a0 a1 a2 k, LeO (impl_ObjectText.f k a0 a1 a2) (impl_ObjectText.f (k + 1) a0 a1 a2) := by
  intro a0 a1 a2 k
  unfold impl_ObjectText.f
  repeat' with_reducible first | exact impl_ObjectOk.mono _ _ _ _ | exact impl_objectText.mono _ _ _ _ | exact LeO.refl _ | exact LeO.none _ | refine LeO.ite ?_ ?_ | refine LeO.bind ?_ (fun _ => ?_)
set_option maxHeartbeats 8000000 in
set_option maxRecDepth 100000 in
theorem impl_ObjectText.calls (k : Nat) (A0_0 : Option Addr) (c0_0 : Nat) (l0_0 : List (S71)) (A0_1 : Option Addr) (c0_1 : Nat) (l0_1 : List (S72)) (A0_2 : Option Addr) (c0_2 : Nat) (l0_2 : List (List (S124))) (r : ByteArray) (w : World) (hr0_0 : Kd.C k71 w A0_0 l0_0.length l0_0) (hc0_0 : l0_0.length ≤ c0_0) (hr0_1 : Kd.C k72 w A0_1 l0_1.length l0_1) (hc0_1 : l0_1.length ≤ c0_1) (hr0_2 : Kd.C (Kd.slice 124 k124) w A0_2 l0_2.length l0_2) (hc0_2 : l0_2.length ≤ c0_2) (hG : GW w) (h : impl_ObjectText.f k l0_0 l0_1 l0_2 = some r) :
 Calls Tryz.prog 8 #[.agg #[.slice A0_0 l0_0.length c0_0, .slice A0_1 l0_1.length c0_1, .slice A0_2 l0_2.length c0_2]] w fun e w' => e = .returned (.string r) ∧ Below w.heap.size w w' := by
 have hu33 := Tryz.underlying33
 have HR0_0 := Aside0.mk hr0_0
 have HC0_0 := Aside0.mk hc0_0
 clear hr0_0 hc0_0
 have HR0_1 := Aside0.mk hr0_1
 have HC0_1 := Aside0.mk hc0_1
 clear hr0_1 hc0_1
 have HR0_2 := Aside0.mk hr0_2
 have HC0_2 := Aside0.mk hc0_2
 clear hr0_2 hc0_2
 have HB := Aside0.mk (Below.refl w.heap.size w)
 have HG := Aside0.mk hG
 clear hG
 have H : ((impl_ObjectOk.f k l0_0 l0_1 l0_2).bind fun t371 => (if t371 = true then ((impl_objectText.f k l0_0 l0_1 l0_2).bind fun t372 => (some t372)) else (some (⟨#[]⟩ : ByteArray)))) = some r := h
 clear h
 obtain ⟨t371, A20, H⟩ := Option.bind_eq_some_iff.mp H
 have A2 := Aside0.mk A20
 clear A20
 by_cases c3 : t371 = true
 ·subst c3
  rw [if_pos rfl] at H
  obtain ⟨t372, A40, H⟩ := Option.bind_eq_some_iff.mp H
  have A4 := Aside0.mk A40
  clear A40
  obtain rfl := Option.some.inj H
  go_enter Tryz.func8, Tryz.ntmps8
  go_wp2_with (first | ((with_reducible refine gate_dst (N := 1) rfl ?_); refine zbx 1 #[.slice A0_0 l0_0.length c0_0, .slice A0_1 l0_1.length c0_1, .slice A0_2 l0_2.length c0_2] 33 ?_; intro gb370 hg w5 hbox hb; have BK370 := Aside0.mk (hbox); have GW370 := zs w hg; have GE370 := GW370; replace HB := zt w hb; clear hb hbox hg; obtain ⟨hcz6_0, hcz6_1, hcz6_2, hfz6_0, hfz6_1, hfz6_2⟩ := zF3 BK370) | ((with_reducible refine gate_callee (f := 22) rfl ?_); refine zc (some 4) Tryz.func22 #[.agg #[.slice A0_0 l0_0.length c0_0, .slice A0_1 l0_1.length c0_1, .slice A0_2 l0_2.length c0_2]] ?_; (with_reducible refine (impl_ObjectOk.calls k _ _ l0_0 _ _ l0_1 _ _ l0_2 true _ ?side1 ?side2 ?side3 ?side4 ?side5 ?side6 A2.out).mono ?_); (case side1 => repeat (first | exact (Kd.C_below HR0_0.out HB.out) | (with_reducible refine Kd.C_alloc ?_ _) | (with_reducible refine Kd.C_drewN ?_ _) | (with_reducible refine Kd.C_drew ?_))); (case side2 => exact HC0_0.out); (case side3 => repeat (first | exact (Kd.C_below HR0_1.out HB.out) | (with_reducible refine Kd.C_alloc ?_ _) | (with_reducible refine Kd.C_drewN ?_ _) | (with_reducible refine Kd.C_drew ?_))); (case side4 => exact HC0_1.out); (case side5 => repeat (first | exact (Kd.C_below HR0_2.out HB.out) | (with_reducible refine Kd.C_alloc ?_ _) | (with_reducible refine Kd.C_drewN ?_ _) | (with_reducible refine Kd.C_drew ?_))); (case side6 => exact HC0_2.out); rintro e w7 ⟨rfl, hb⟩; refine ⟨_, rfl, ?_⟩; replace BK370 := zk BK370 hb; replace HB := zt w hb; (try clear hb); (try clear hb2); (try clear hk); (try clear hi); obtain ⟨hcz8_0, hcz8_1, hcz8_2, hfz8_0, hfz8_1, hfz8_2⟩ := zF3 BK370) | ((with_reducible refine gate_callee (f := 23) rfl ?_); refine zc (some 7) Tryz.func23 #[.agg #[.slice A0_0 l0_0.length c0_0, .slice A0_1 l0_1.length c0_1, .slice A0_2 l0_2.length c0_2]] ?_; (with_reducible refine (impl_objectText.calls k _ _ l0_0 _ _ l0_1 _ _ l0_2 t372 _ ?side1 ?side2 ?side3 ?side4 ?side5 ?side6 ?side7 A4.out).mono ?_); (case side1 => repeat (first | exact (Kd.C_below HR0_0.out HB.out) | (with_reducible refine Kd.C_alloc ?_ _) | (with_reducible refine Kd.C_drewN ?_ _) | (with_reducible refine Kd.C_drew ?_))); (case side2 => exact HC0_0.out); (case side3 => repeat (first | exact (Kd.C_below HR0_1.out HB.out) | (with_reducible refine Kd.C_alloc ?_ _) | (with_reducible refine Kd.C_drewN ?_ _) | (with_reducible refine Kd.C_drew ?_))); (case side4 => exact HC0_1.out); (case side5 => repeat (first | exact (Kd.C_below HR0_2.out HB.out) | (with_reducible refine Kd.C_alloc ?_ _) | (with_reducible refine Kd.C_drewN ?_ _) | (with_reducible refine Kd.C_drew ?_))); (case side6 => exact HC0_2.out); (case side7 => exact GW.below HG.out (zb _)); rintro e w9 ⟨rfl, hb⟩; refine ⟨_, rfl, ?_⟩; replace BK370 := zk BK370 hb; replace HB := zt w hb; (try clear hb); (try clear hb2); (try clear hk); (try clear hi)))
  go_ret
  exact ⟨ze _, zb _⟩
 ·replace c3 := Bool.eq_false_iff.mpr c3
  subst c3
  rw [if_neg (show ¬ (false = true) by decide)] at H
  obtain rfl := Option.some.inj H
  go_enter Tryz.func8, Tryz.ntmps8
  go_wp2_with (first | ((with_reducible refine gate_dst (N := 1) rfl ?_); refine zbx 1 #[.slice A0_0 l0_0.length c0_0, .slice A0_1 l0_1.length c0_1, .slice A0_2 l0_2.length c0_2] 33 ?_; intro gb370 hg w10 hbox hb; have BK370 := Aside0.mk (hbox); have GW370 := zs w hg; have GE370 := GW370; replace HB := zt w hb; clear hb hbox hg; obtain ⟨hcz11_0, hcz11_1, hcz11_2, hfz11_0, hfz11_1, hfz11_2⟩ := zF3 BK370) | ((with_reducible refine gate_callee (f := 22) rfl ?_); refine zc (some 4) Tryz.func22 #[.agg #[.slice A0_0 l0_0.length c0_0, .slice A0_1 l0_1.length c0_1, .slice A0_2 l0_2.length c0_2]] ?_; (with_reducible refine (impl_ObjectOk.calls k _ _ l0_0 _ _ l0_1 _ _ l0_2 false _ ?side1 ?side2 ?side3 ?side4 ?side5 ?side6 A2.out).mono ?_); (case side1 => repeat (first | exact (Kd.C_below HR0_0.out HB.out) | (with_reducible refine Kd.C_alloc ?_ _) | (with_reducible refine Kd.C_drewN ?_ _) | (with_reducible refine Kd.C_drew ?_))); (case side2 => exact HC0_0.out); (case side3 => repeat (first | exact (Kd.C_below HR0_1.out HB.out) | (with_reducible refine Kd.C_alloc ?_ _) | (with_reducible refine Kd.C_drewN ?_ _) | (with_reducible refine Kd.C_drew ?_))); (case side4 => exact HC0_1.out); (case side5 => repeat (first | exact (Kd.C_below HR0_2.out HB.out) | (with_reducible refine Kd.C_alloc ?_ _) | (with_reducible refine Kd.C_drewN ?_ _) | (with_reducible refine Kd.C_drew ?_))); (case side6 => exact HC0_2.out); rintro e w12 ⟨rfl, hb⟩; refine ⟨_, rfl, ?_⟩; replace BK370 := zk BK370 hb; replace HB := zt w hb; (try clear hb); (try clear hb2); (try clear hk); (try clear hi)))
  go_ret
  exact ⟨ze _, zb _⟩

def laws_eqENode.f (a0_0 : Int) (a0_1 : Int) (a0_2 : ByteArray) (a1_0 : Int) (a1_1 : Int) (a1_2 : ByteArray) : Option (Bool) := if a0_0 = a1_0 then (if a0_1 = a1_1 then (if a0_2.toList = a1_2.toList then (some true) else (some false)) else (some false)) else (some false)
set_option maxHeartbeats 8000000 in
set_option maxRecDepth 100000 in
theorem laws_eqENode.calls (a0_0 : Int) (a0_1 : Int) (a0_2 : ByteArray) (a1_0 : Int) (a1_1 : Int) (a1_2 : ByteArray) (r : Bool) (w : World) (h : laws_eqENode.f a0_0 a0_1 a0_2 a1_0 a1_1 a1_2 = some r) :
 Calls Tryz.prog 107 #[.agg #[.int .i64 a0_0, .int .i64 a0_1, .string a0_2], .agg #[.int .i64 a1_0, .int .i64 a1_1, .string a1_2]] w fun e w' => e = .returned (.bool r) ∧ Below w.heap.size w w' := by
 have hu124 := Tryz.underlying124
 have HB := Aside0.mk (Below.refl w.heap.size w)
 have H : (if a0_0 = a1_0 then (if a0_1 = a1_1 then (if a0_2.toList = a1_2.toList then (some true) else (some false)) else (some false)) else (some false)) = some r := h
 clear h
 by_cases c3 : a0_0 = a1_0
 ·rw [if_pos c3] at H
  have c3b0 : (a0_0 == a1_0) = true := beq_iff_eq.mpr c3
  have c3b1 : (a0_0 != a1_0) = false := bne_eq_false_iff_eq.mpr c3
  clear c3
  by_cases c4 : a0_1 = a1_1
  ·rw [if_pos c4] at H
   have c4b0 : (a0_1 == a1_1) = true := beq_iff_eq.mpr c4
   have c4b1 : (a0_1 != a1_1) = false := bne_eq_false_iff_eq.mpr c4
   clear c4
   by_cases c5 : a0_2.toList = a1_2.toList
   ·rw [if_pos c5] at H
    have c5b0 : (a0_2.toList == a1_2.toList) = true := beq_iff_eq.mpr c5
    have c5b1 : (a0_2.toList != a1_2.toList) = false := bne_eq_false_iff_eq.mpr c5
    clear c5
    obtain rfl := Option.some.inj H
    go_enter Tryz.func107, Tryz.ntmps107
    go_wp2_with (first | ((with_reducible refine gate_dst (N := 2) rfl ?_); refine zbx 2 #[.int .i64 a0_0, .int .i64 a0_1, .string a0_2] 124 ?_; intro gb373 hg w6 hbox hb; have BK373 := Aside0.mk (hbox); have GW373 := zs w hg; have GE373 := GW373; replace HB := zt w hb; clear hb hbox hg) | ((with_reducible refine gate_dst (N := 3) rfl ?_); refine zbx 3 #[.int .i64 a1_0, .int .i64 a1_1, .string a1_2] 124 ?_; intro gb374 hg w7 hbox hb; have BK374 := Aside0.mk (hbox); have GW374 := zs w hg; have GE374 := GW374; have NB373_374 := zlt BK373 hg; have NB374_373 := zgt (zlt BK373 hg); replace BK373 := zk BK373 hb; replace HB := zt w hb; clear hb hbox hg; have hnb8 := NB373_374.out; have hnc8 := NB374_373.out; obtain ⟨hcz9_0, hcz9_1, hcz9_2, hfz9_0, hfz9_1, hfz9_2⟩ := zF3 BK373; obtain ⟨hcz10_0, hcz10_1, hcz10_2, hfz10_0, hfz10_1, hfz10_2⟩ := zF3 BK374))
    go_ret
    exact ⟨ze _, zb _⟩
   ·rw [if_neg c5] at H
    have c5b0 : (a0_2.toList == a1_2.toList) = false := beq_eq_false_iff_ne.mpr c5
    have c5b1 : (a0_2.toList != a1_2.toList) = true := bne_iff_ne.mpr c5
    obtain rfl := Option.some.inj H
    go_enter Tryz.func107, Tryz.ntmps107
    go_wp2_with (first | ((with_reducible refine gate_dst (N := 2) rfl ?_); refine zbx 2 #[.int .i64 a0_0, .int .i64 a0_1, .string a0_2] 124 ?_; intro gb373 hg w11 hbox hb; have BK373 := Aside0.mk (hbox); have GW373 := zs w hg; have GE373 := GW373; replace HB := zt w hb; clear hb hbox hg) | ((with_reducible refine gate_dst (N := 3) rfl ?_); refine zbx 3 #[.int .i64 a1_0, .int .i64 a1_1, .string a1_2] 124 ?_; intro gb374 hg w12 hbox hb; have BK374 := Aside0.mk (hbox); have GW374 := zs w hg; have GE374 := GW374; have NB373_374 := zlt BK373 hg; have NB374_373 := zgt (zlt BK373 hg); replace BK373 := zk BK373 hb; replace HB := zt w hb; clear hb hbox hg; have hnb13 := NB373_374.out; have hnc13 := NB374_373.out; obtain ⟨hcz14_0, hcz14_1, hcz14_2, hfz14_0, hfz14_1, hfz14_2⟩ := zF3 BK373; obtain ⟨hcz15_0, hcz15_1, hcz15_2, hfz15_0, hfz15_1, hfz15_2⟩ := zF3 BK374))
    go_ret
    exact ⟨ze _, zb _⟩
  ·rw [if_neg c4] at H
   have c4b0 : (a0_1 == a1_1) = false := beq_eq_false_iff_ne.mpr c4
   have c4b1 : (a0_1 != a1_1) = true := bne_iff_ne.mpr c4
   obtain rfl := Option.some.inj H
   go_enter Tryz.func107, Tryz.ntmps107
   go_wp2_with (first | ((with_reducible refine gate_dst (N := 2) rfl ?_); refine zbx 2 #[.int .i64 a0_0, .int .i64 a0_1, .string a0_2] 124 ?_; intro gb373 hg w16 hbox hb; have BK373 := Aside0.mk (hbox); have GW373 := zs w hg; have GE373 := GW373; replace HB := zt w hb; clear hb hbox hg) | ((with_reducible refine gate_dst (N := 3) rfl ?_); refine zbx 3 #[.int .i64 a1_0, .int .i64 a1_1, .string a1_2] 124 ?_; intro gb374 hg w17 hbox hb; have BK374 := Aside0.mk (hbox); have GW374 := zs w hg; have GE374 := GW374; have NB373_374 := zlt BK373 hg; have NB374_373 := zgt (zlt BK373 hg); replace BK373 := zk BK373 hb; replace HB := zt w hb; clear hb hbox hg; have hnb18 := NB373_374.out; have hnc18 := NB374_373.out; obtain ⟨hcz19_0, hcz19_1, hcz19_2, hfz19_0, hfz19_1, hfz19_2⟩ := zF3 BK373; obtain ⟨hcz20_0, hcz20_1, hcz20_2, hfz20_0, hfz20_1, hfz20_2⟩ := zF3 BK374))
   go_ret
   exact ⟨ze _, zb _⟩
 ·rw [if_neg c3] at H
  have c3b0 : (a0_0 == a1_0) = false := beq_eq_false_iff_ne.mpr c3
  have c3b1 : (a0_0 != a1_0) = true := bne_iff_ne.mpr c3
  obtain rfl := Option.some.inj H
  go_enter Tryz.func107, Tryz.ntmps107
  go_wp2_with (first | ((with_reducible refine gate_dst (N := 2) rfl ?_); refine zbx 2 #[.int .i64 a0_0, .int .i64 a0_1, .string a0_2] 124 ?_; intro gb373 hg w21 hbox hb; have BK373 := Aside0.mk (hbox); have GW373 := zs w hg; have GE373 := GW373; replace HB := zt w hb; clear hb hbox hg) | ((with_reducible refine gate_dst (N := 3) rfl ?_); refine zbx 3 #[.int .i64 a1_0, .int .i64 a1_1, .string a1_2] 124 ?_; intro gb374 hg w22 hbox hb; have BK374 := Aside0.mk (hbox); have GW374 := zs w hg; have GE374 := GW374; have NB373_374 := zlt BK373 hg; have NB374_373 := zgt (zlt BK373 hg); replace BK373 := zk BK373 hb; replace HB := zt w hb; clear hb hbox hg; have hnb23 := NB373_374.out; have hnc23 := NB374_373.out; obtain ⟨hcz24_0, hcz24_1, hcz24_2, hfz24_0, hfz24_1, hfz24_2⟩ := zF3 BK373; obtain ⟨hcz25_0, hcz25_1, hcz25_2, hfz25_0, hfz25_1, hfz25_2⟩ := zF3 BK374))
  go_ret
  exact ⟨ze _, zb _⟩

def laws_eqENodeS.l0 : Nat → List (S124) → List (S124) → Int → Option (Bool)
  | 0, _, _, _ => none
  | k + 1, x0, x1, x5 => if x5 < (x0.length : Int) then (if 0 ≤ x5 then (if x5 < (x1.length : Int) then ((laws_eqENode.f ((rd_T124 x0 x5).f0) ((rd_T124 x0 x5).f1) ((rd_T124 x0 x5).f2) ((rd_T124 x1 x5).f0) ((rd_T124 x1 x5).f1) ((rd_T124 x1 x5).f2)).bind fun t377 => (if t377 = true then (laws_eqENodeS.l0 k x0 x1 (wrap64 (x5 + 1))) else (some false))) else (none)) else (none)) else (some true)
def laws_eqENodeS.f (k : Nat) (l0 : List (S124)) (l1 : List (S124)) : Option (Bool) := if (l0.length : Int) = (l1.length : Int) then (laws_eqENodeS.l0 k l0 l1 0) else (some false)
theorem laws_eqENodeS.mono_l : ∀ k, (∀ y0 y1 y2, LeO (laws_eqENodeS.l0 k y0 y1 y2) (laws_eqENodeS.l0 (k + 1) y0 y1 y2))
  | 0 => fun _ _ _ r h => by simp [laws_eqENodeS.l0] at h
  | k + 1 => by
    have ih0 := laws_eqENodeS.mono_l k
    · intro y0 y1 y2
      unfold laws_eqENodeS.l0
      repeat' with_reducible first | exact ih0 _ _ _ | exact LeO.refl _ | exact LeO.none _ | refine LeO.ite ?_ ?_ | refine LeO.bind ?_ (fun _ => ?_)
theorem laws_eqENodeS.mono : ∀ a0 a1 k, LeO (laws_eqENodeS.f k a0 a1) (laws_eqENodeS.f (k + 1) a0 a1) := by
  intro a0 a1 k
  have ih0 := laws_eqENodeS.mono_l k
  unfold laws_eqENodeS.f
  repeat' with_reducible first | exact ih0 _ _ _ | exact LeO.refl _ | exact LeO.none _ | refine LeO.ite ?_ ?_ | refine LeO.bind ?_ (fun _ => ?_)
def laws_eqENodeS.T6 : Bool × List (List Nat × List Nat) := (true, [([], []), ([], []), ([0, 1], [0, 1]), ([2], [2]), ([], []), ([], []), ([4, 5], [4, 5]), ([6], [6]), ([3, 7], [3, 7]), ([8], [8])])
def laws_eqENodeS.B6 : List Nat := [0, 0, 3, 7, 0, 0, 48, 112, 255, 511]
theorem laws_eqENodeS.tab6 : rtab .any (opsOf Tryz.f66 6) = laws_eqENodeS.T6 := by kernel_rfl
theorem laws_eqENodeS.bits6 : waitsOk laws_eqENodeS.T6.2 laws_eqENodeS.B6 = true := by kernel_rfl
set_option maxHeartbeats 8000000 in
set_option maxRecDepth 100000 in
theorem laws_eqENodeS.calls (k : Nat) (A0 : Option Addr) (c0 : Nat) (l0 : List (S124)) (A1 : Option Addr) (c1 : Nat) (l1 : List (S124)) (r : Bool) (w : World) (hr0 : Kd.C k124 w A0 l0.length l0) (hc0 : l0.length ≤ c0) (hr1 : Kd.C k124 w A1 l1.length l1) (hc1 : l1.length ≤ c1) (h : laws_eqENodeS.f k l0 l1 = some r) :
 Calls Tryz.prog 66 #[.slice A0 l0.length c0, .slice A1 l1.length c1] w fun e w' => e = .returned (.bool r) ∧ Below w.heap.size w w' := by
 have hu124 := Tryz.underlying124
 have HR0 := Aside0.mk hr0
 have HC0 := Aside0.mk hc0
 clear hr0 hc0
 have HR1 := Aside0.mk hr1
 have HC1 := Aside0.mk hc1
 clear hr1 hc1
 have HB := Aside0.mk (Below.refl w.heap.size w)
 have H : (if (l0.length : Int) = (l1.length : Int) then (laws_eqENodeS.l0 k l0 l1 0) else (some false)) = some r := h
 clear h
 by_cases c3 : (l0.length : Int) = (l1.length : Int)
 ·rw [if_pos c3] at H
  have c3b0 : ((l0.length : Int) == (l1.length : Int)) = true := beq_iff_eq.mpr c3
  have c3b1 : ((l0.length : Int) != (l1.length : Int)) = false := bne_eq_false_iff_eq.mpr c3
  have c3b2 : (l0.length == l1.length) = true := by first | simpa using c3 | (simp at c3 ⊢; omega)
  clear c3
  have H' := Aside0.mk H
  clear H
  go_enter Tryz.func66, Tryz.ntmps66
  go_wp2
  go_loopg [5] k (fun kq v5 w' => ∃ (x5_1 : Int), v5 = .int .i64 x5_1 ∧ Aside0 (laws_eqENodeS.l0 kq l0 l1 x5_1 = some r) ∧ Aside0 (kq ≤ k) ∧ Aside0 (Below w.heap.size w w'))
  case atStart => exact ⟨(0), (zE _), H', ⟨Nat.le_refl _⟩, ⟨zb _⟩⟩
  case round =>
   clear H'
   obtain ⟨x5_1, rfl, HA, HK1, HB⟩ := hrel
   cases gk with
   | zero => exact absurd HA.out (by simp [laws_eqENodeS.l0])
   | succ k1 =>
    have H := HA.out
    clear HA
    simp only [laws_eqENodeS.l0] at H
    by_cases c4 : x5_1 < (l0.length : Int)
    ·rw [if_pos c4] at H
     have c4b0 : decide (x5_1 < (l0.length : Int)) = true := decide_eq_true c4
     clear c4
     by_cases c5 : 0 ≤ x5_1
     ·rw [if_pos c5] at H
      have c5b0 : decide (0 ≤ x5_1) = true := decide_eq_true c5
      clear c5
      by_cases c6 : x5_1 < (l1.length : Int)
      ·rw [if_pos c6] at H
       have c6b0 : decide (x5_1 < (l1.length : Int)) = true := decide_eq_true c6
       clear c6
       obtain ⟨t377, A70, H⟩ := Option.bind_eq_some_iff.mp H
       have A7 := Aside0.mk A70
       clear A70
       by_cases c8 : t377 = true
       ·subst c8
        rw [if_pos rfl] at H
        have H' := Aside0.mk H
        clear H
        try go_wp2
        have n0_ := Aside0.mk (below_drew1 HB.out)
        clear HB
        have HB := n0_
        clear n0_
        have p375 : 0 ≤ (x5_1 : Int) := of_decide_eq_true (za _)
        have q375 : x5_1 < (l0.length : Int) := of_decide_eq_true (za _)
        obtain ⟨ad375, e375, hx375_0, hx375_1, hx375_2⟩ := at_T124 HR0.out x5_1 p375 q375
        have hw375_2 := hx375_2
        have hw375_1 := hx375_1
        have hw375_0 := hx375_0
        cases e375
        replace hx375_0 := zx HB hx375_0
        replace hx375_1 := zx HB hx375_1
        replace hx375_2 := zx HB hx375_2
        replace p375 := eq_true p375
        replace q375 := eq_true q375
        have p376 : 0 ≤ (x5_1 : Int) := of_decide_eq_true (za _)
        have q376 : x5_1 < (l1.length : Int) := of_decide_eq_true (za _)
        obtain ⟨ad376, e376, hx376_0, hx376_1, hx376_2⟩ := at_T124 HR1.out x5_1 p376 q376
        have hw376_2 := hx376_2
        have hw376_1 := hx376_1
        have hw376_0 := hx376_0
        cases e376
        replace hx376_0 := zx HB hx376_0
        replace hx376_1 := zx HB hx376_1
        replace hx376_2 := zx HB hx376_2
        replace p376 := eq_true p376
        replace q376 := eq_true q376
        refine start_ (n := 10) (S := fun w' => w'.cell? (ad375.add ((x5_1).toNat * 3)) = some (.int .i64 ((rd_T124 l0 x5_1).f0)) ∧ w'.cell? ⟨(ad375.add ((x5_1).toNat * 3)).block, (ad375.add ((x5_1).toNat * 3)).off + 1, none⟩ = some (.int .i64 ((rd_T124 l0 x5_1).f1)) ∧ w'.cell? ⟨(ad375.add ((x5_1).toNat * 3)).block, (ad375.add ((x5_1).toNat * 3)).off + 2, none⟩ = some (.string ((rd_T124 l0 x5_1).f2)) ∧ w'.cell? (ad376.add ((x5_1).toNat * 3)) = some (.int .i64 ((rd_T124 l1 x5_1).f0)) ∧ w'.cell? ⟨(ad376.add ((x5_1).toNat * 3)).block, (ad376.add ((x5_1).toNat * 3)).off + 1, none⟩ = some (.int .i64 ((rd_T124 l1 x5_1).f1)) ∧ w'.cell? ⟨(ad376.add ((x5_1).toNat * 3)).block, (ad376.add ((x5_1).toNat * 3)).off + 2, none⟩ = some (.string ((rd_T124 l1 x5_1).f2))) (ds := []) (zm 10 0) (by kernel_rfl) rfl rfl ⟨(zx HB hw375_0), (zx HB hw375_1), (zx HB hw375_2), (zx HB hw376_0), (zx HB hw376_1), (zx HB hw376_2)⟩ (fun hHeld => ?_); refine with_tabW laws_eqENodeS.tab6 laws_eqENodeS.bits6 (fun HT_ HW_ => ?_)
        generalize wr.drew = w9 at HB hx375_0 hx375_1 hx375_2 hx376_0 hx376_1 hx376_2 hHeld ⊢
        refine zp 0 17 (zm 10 1) ?_
        refine zp 1 18 (zm 10 3) ?_
        refine zp 2 19 (zm 10 7) ?_
        refine zp 4 21 (zm 10 23) ?_
        refine zp 5 22 (zm 10 55) ?_
        refine zp 6 23 (zm 10 119) ?_
        refine zy 3 20 (zm 10 127) hHeld ?_
        refine zy 7 24 (zm 10 255) hHeld ?_
        refine one_ (i := 8) (N := some 25) (zm 10 511) rfl rfl (one_of HT_.out (by kernel_rfl)) (by decide) (fun K hK => ?_)
        refine zi Tryz.func107 #[.agg #[.int .i64 ((rd_T124 l0 x5_1).f0), .int .i64 ((rd_T124 l0 x5_1).f1), .string ((rd_T124 l0 x5_1).f2)], .agg #[.int .i64 ((rd_T124 l1 x5_1).f0), .int .i64 ((rd_T124 l1 x5_1).f1), .string ((rd_T124 l1 x5_1).f2)]] ?_
        with_reducible refine (laws_eqENode.calls ((rd_T124 l0 x5_1).f0) ((rd_T124 l0 x5_1).f1) ((rd_T124 l0 x5_1).f2) ((rd_T124 l1 x5_1).f0) ((rd_T124 l1 x5_1).f1) ((rd_T124 l1 x5_1).f2) true _ A7.out).mono ?_
        rintro e w10 ⟨rfl, hb⟩
        refine ⟨_, rfl, ?_⟩
        have n0_ := zt w hb
        clear HB
        have HB := n0_
        clear n0_
        (try clear hb)
        (try clear hb2)
        (try clear hk)
        (try clear hi)
        refine hK.out _ _ ⟨(zx HB hw375_0), (zx HB hw375_1), (zx HB hw375_2), (zx HB hw376_0), (zx HB hw376_1), (zx HB hw376_2)⟩ (fun hHeld => ?_)
        clear hK K
        refine zq ?_
        refine zp 9 26 (zm 10 1023) ?_
        refine done_ (done_of HT_.out (by kernel_rfl)) ?_
        try go_wp2
        go_roundg k1
        case measure => have := HK1.out; omega
        case rel => exact ⟨(wrap64 (x5_1 + 1)), (zE _), H', ⟨by have := HK1.out; omega⟩, ⟨zb _⟩⟩
       ·replace c8 := Bool.eq_false_iff.mpr c8
        subst c8
        rw [if_neg (show ¬ (false = true) by decide)] at H
        obtain rfl := Option.some.inj H
        try go_wp2
        have n0_ := Aside0.mk (below_drew1 HB.out)
        clear HB
        have HB := n0_
        clear n0_
        have p375 : 0 ≤ (x5_1 : Int) := of_decide_eq_true (za _)
        have q375 : x5_1 < (l0.length : Int) := of_decide_eq_true (za _)
        obtain ⟨ad375, e375, hx375_0, hx375_1, hx375_2⟩ := at_T124 HR0.out x5_1 p375 q375
        have hw375_2 := hx375_2
        have hw375_1 := hx375_1
        have hw375_0 := hx375_0
        cases e375
        replace hx375_0 := zx HB hx375_0
        replace hx375_1 := zx HB hx375_1
        replace hx375_2 := zx HB hx375_2
        replace p375 := eq_true p375
        replace q375 := eq_true q375
        have p376 : 0 ≤ (x5_1 : Int) := of_decide_eq_true (za _)
        have q376 : x5_1 < (l1.length : Int) := of_decide_eq_true (za _)
        obtain ⟨ad376, e376, hx376_0, hx376_1, hx376_2⟩ := at_T124 HR1.out x5_1 p376 q376
        have hw376_2 := hx376_2
        have hw376_1 := hx376_1
        have hw376_0 := hx376_0
        cases e376
        replace hx376_0 := zx HB hx376_0
        replace hx376_1 := zx HB hx376_1
        replace hx376_2 := zx HB hx376_2
        replace p376 := eq_true p376
        replace q376 := eq_true q376
        refine start_ (n := 10) (S := fun w' => w'.cell? (ad375.add ((x5_1).toNat * 3)) = some (.int .i64 ((rd_T124 l0 x5_1).f0)) ∧ w'.cell? ⟨(ad375.add ((x5_1).toNat * 3)).block, (ad375.add ((x5_1).toNat * 3)).off + 1, none⟩ = some (.int .i64 ((rd_T124 l0 x5_1).f1)) ∧ w'.cell? ⟨(ad375.add ((x5_1).toNat * 3)).block, (ad375.add ((x5_1).toNat * 3)).off + 2, none⟩ = some (.string ((rd_T124 l0 x5_1).f2)) ∧ w'.cell? (ad376.add ((x5_1).toNat * 3)) = some (.int .i64 ((rd_T124 l1 x5_1).f0)) ∧ w'.cell? ⟨(ad376.add ((x5_1).toNat * 3)).block, (ad376.add ((x5_1).toNat * 3)).off + 1, none⟩ = some (.int .i64 ((rd_T124 l1 x5_1).f1)) ∧ w'.cell? ⟨(ad376.add ((x5_1).toNat * 3)).block, (ad376.add ((x5_1).toNat * 3)).off + 2, none⟩ = some (.string ((rd_T124 l1 x5_1).f2))) (ds := []) (zm 10 0) (by kernel_rfl) rfl rfl ⟨(zx HB hw375_0), (zx HB hw375_1), (zx HB hw375_2), (zx HB hw376_0), (zx HB hw376_1), (zx HB hw376_2)⟩ (fun hHeld => ?_); refine with_tabW laws_eqENodeS.tab6 laws_eqENodeS.bits6 (fun HT_ HW_ => ?_)
        generalize wr.drew = w11 at HB hx375_0 hx375_1 hx375_2 hx376_0 hx376_1 hx376_2 hHeld ⊢
        refine zp 0 17 (zm 10 1) ?_
        refine zp 1 18 (zm 10 3) ?_
        refine zp 2 19 (zm 10 7) ?_
        refine zp 4 21 (zm 10 23) ?_
        refine zp 5 22 (zm 10 55) ?_
        refine zp 6 23 (zm 10 119) ?_
        refine zy 3 20 (zm 10 127) hHeld ?_
        refine zy 7 24 (zm 10 255) hHeld ?_
        refine one_ (i := 8) (N := some 25) (zm 10 511) rfl rfl (one_of HT_.out (by kernel_rfl)) (by decide) (fun K hK => ?_)
        refine zi Tryz.func107 #[.agg #[.int .i64 ((rd_T124 l0 x5_1).f0), .int .i64 ((rd_T124 l0 x5_1).f1), .string ((rd_T124 l0 x5_1).f2)], .agg #[.int .i64 ((rd_T124 l1 x5_1).f0), .int .i64 ((rd_T124 l1 x5_1).f1), .string ((rd_T124 l1 x5_1).f2)]] ?_
        with_reducible refine (laws_eqENode.calls ((rd_T124 l0 x5_1).f0) ((rd_T124 l0 x5_1).f1) ((rd_T124 l0 x5_1).f2) ((rd_T124 l1 x5_1).f0) ((rd_T124 l1 x5_1).f1) ((rd_T124 l1 x5_1).f2) false _ A7.out).mono ?_
        rintro e w12 ⟨rfl, hb⟩
        refine ⟨_, rfl, ?_⟩
        have n0_ := zt w hb
        clear HB
        have HB := n0_
        clear n0_
        (try clear hb)
        (try clear hb2)
        (try clear hk)
        (try clear hi)
        refine hK.out _ _ ⟨(zx HB hw375_0), (zx HB hw375_1), (zx HB hw375_2), (zx HB hw376_0), (zx HB hw376_1), (zx HB hw376_2)⟩ (fun hHeld => ?_)
        clear hK K
        refine zq ?_
        refine zp 9 26 (zm 10 1023) ?_
        refine done_ (done_of HT_.out (by kernel_rfl)) ?_
        try go_wp2
        go_ret
        exact ⟨ze _, zb _⟩
      ·rw [if_neg c6] at H
       exact absurd H (by simp)
     ·rw [if_neg c5] at H
      exact absurd H (by simp)
    ·rw [if_neg c4] at H
     have c4b0 : decide (x5_1 < (l0.length : Int)) = false := decide_eq_false c4
     clear c4
     obtain rfl := Option.some.inj H
     go_wp2
     go_ret
     exact ⟨ze _, zb _⟩
 ·rw [if_neg c3] at H
  have c3b0 : ((l0.length : Int) == (l1.length : Int)) = false := beq_eq_false_iff_ne.mpr c3
  have c3b1 : ((l0.length : Int) != (l1.length : Int)) = true := bne_iff_ne.mpr c3
  have c3b2 : (l0.length == l1.length) = false := by first | simpa using c3 | (simp at c3 ⊢; omega)
  obtain rfl := Option.some.inj H
  go_enter Tryz.func66, Tryz.ntmps66
  go_wp2
  go_ret
  exact ⟨ze _, zb _⟩

def laws_eqPatch.f (k : Nat) (a0_0 : Int) (a0_1 : Int) (l0_2 : List (S124)) (a1_0 : Int) (a1_1 : Int) (l1_2 : List (S124)) : Option (Bool) := if a0_0 = a1_0 then (if a0_1 = a1_1 then ((laws_eqENodeS.f k l0_2 l1_2).bind fun t380 => (if t380 = true then (some true) else (some false))) else (some false)) else (some false)
theorem laws_eqPatch.mono : ∀ a0 a1 a2 a3 a4 a5 k, LeO (laws_eqPatch.f k a0 a1 a2 a3 a4 a5) (laws_eqPatch.f (k + 1) a0 a1 a2 a3 a4 a5) := by
  intro a0 a1 a2 a3 a4 a5 k
  unfold laws_eqPatch.f
  repeat' with_reducible first | exact laws_eqENodeS.mono _ _ _ | exact LeO.refl _ | exact LeO.none _ | refine LeO.ite ?_ ?_ | refine LeO.bind ?_ (fun _ => ?_)
set_option maxHeartbeats 8000000 in
set_option maxRecDepth 100000 in
theorem laws_eqPatch.calls (k : Nat) (a0_0 : Int) (a0_1 : Int) (A0_2 : Option Addr) (c0_2 : Nat) (l0_2 : List (S124)) (a1_0 : Int) (a1_1 : Int) (A1_2 : Option Addr) (c1_2 : Nat) (l1_2 : List (S124)) (r : Bool) (w : World) (hr0_2 : Kd.C k124 w A0_2 l0_2.length l0_2) (hc0_2 : l0_2.length ≤ c0_2) (hr1_2 : Kd.C k124 w A1_2 l1_2.length l1_2) (hc1_2 : l1_2.length ≤ c1_2) (h : laws_eqPatch.f k a0_0 a0_1 l0_2 a1_0 a1_1 l1_2 = some r) :
 Calls Tryz.prog 128 #[.agg #[.int .i64 a0_0, .int .i64 a0_1, .slice A0_2 l0_2.length c0_2], .agg #[.int .i64 a1_0, .int .i64 a1_1, .slice A1_2 l1_2.length c1_2]] w fun e w' => e = .returned (.bool r) ∧ Below w.heap.size w w' := by
 have hu79 := Tryz.underlying79
 have HR0_2 := Aside0.mk hr0_2
 have HC0_2 := Aside0.mk hc0_2
 clear hr0_2 hc0_2
 have HR1_2 := Aside0.mk hr1_2
 have HC1_2 := Aside0.mk hc1_2
 clear hr1_2 hc1_2
 have HB := Aside0.mk (Below.refl w.heap.size w)
 have H : (if a0_0 = a1_0 then (if a0_1 = a1_1 then ((laws_eqENodeS.f k l0_2 l1_2).bind fun t380 => (if t380 = true then (some true) else (some false))) else (some false)) else (some false)) = some r := h
 clear h
 by_cases c3 : a0_0 = a1_0
 ·rw [if_pos c3] at H
  have c3b0 : (a0_0 == a1_0) = true := beq_iff_eq.mpr c3
  have c3b1 : (a0_0 != a1_0) = false := bne_eq_false_iff_eq.mpr c3
  clear c3
  by_cases c4 : a0_1 = a1_1
  ·rw [if_pos c4] at H
   have c4b0 : (a0_1 == a1_1) = true := beq_iff_eq.mpr c4
   have c4b1 : (a0_1 != a1_1) = false := bne_eq_false_iff_eq.mpr c4
   clear c4
   obtain ⟨t380, A50, H⟩ := Option.bind_eq_some_iff.mp H
   have A5 := Aside0.mk A50
   clear A50
   by_cases c6 : t380 = true
   ·subst c6
    rw [if_pos rfl] at H
    obtain rfl := Option.some.inj H
    go_enter Tryz.func128, Tryz.ntmps128
    go_wp2_with (first | ((with_reducible refine gate_dst (N := 2) rfl ?_); refine zbx 2 #[.int .i64 a0_0, .int .i64 a0_1, .slice A0_2 l0_2.length c0_2] 79 ?_; intro gb378 hg w7 hbox hb; have BK378 := Aside0.mk (hbox); have GW378 := zs w hg; have GE378 := GW378; replace HB := zt w hb; clear hb hbox hg) | ((with_reducible refine gate_dst (N := 3) rfl ?_); refine zbx 3 #[.int .i64 a1_0, .int .i64 a1_1, .slice A1_2 l1_2.length c1_2] 79 ?_; intro gb379 hg w8 hbox hb; have BK379 := Aside0.mk (hbox); have GW379 := zs w hg; have GE379 := GW379; have NB378_379 := zlt BK378 hg; have NB379_378 := zgt (zlt BK378 hg); replace BK378 := zk BK378 hb; replace HB := zt w hb; clear hb hbox hg; have hnb9 := NB378_379.out; have hnc9 := NB379_378.out; obtain ⟨hcz10_0, hcz10_1, hcz10_2, hfz10_0, hfz10_1, hfz10_2⟩ := zF3 BK378; obtain ⟨hcz11_0, hcz11_1, hcz11_2, hfz11_0, hfz11_1, hfz11_2⟩ := zF3 BK379) | ((with_reducible refine gate_callee (f := 66) rfl ?_); refine zc (some 19) Tryz.func66 #[.slice A0_2 l0_2.length c0_2, .slice A1_2 l1_2.length c1_2] ?_; (with_reducible refine (laws_eqENodeS.calls k _ _ l0_2 _ _ l1_2 true _ ?side1 ?side2 ?side3 ?side4 A5.out).mono ?_); (case side1 => repeat (first | exact (Kd.C_below HR0_2.out HB.out) | (with_reducible refine Kd.C_alloc ?_ _) | (with_reducible refine Kd.C_drewN ?_ _) | (with_reducible refine Kd.C_drew ?_))); (case side2 => exact HC0_2.out); (case side3 => repeat (first | exact (Kd.C_below HR1_2.out HB.out) | (with_reducible refine Kd.C_alloc ?_ _) | (with_reducible refine Kd.C_drewN ?_ _) | (with_reducible refine Kd.C_drew ?_))); (case side4 => exact HC1_2.out); rintro e w12 ⟨rfl, hb⟩; refine ⟨_, rfl, ?_⟩; replace BK378 := zk BK378 hb; replace BK379 := zk BK379 hb; replace HB := zt w hb; (try clear hb); (try clear hb2); (try clear hk); (try clear hi)))
    go_ret
    exact ⟨ze _, zb _⟩
   ·replace c6 := Bool.eq_false_iff.mpr c6
    subst c6
    rw [if_neg (show ¬ (false = true) by decide)] at H
    obtain rfl := Option.some.inj H
    go_enter Tryz.func128, Tryz.ntmps128
    go_wp2_with (first | ((with_reducible refine gate_dst (N := 2) rfl ?_); refine zbx 2 #[.int .i64 a0_0, .int .i64 a0_1, .slice A0_2 l0_2.length c0_2] 79 ?_; intro gb378 hg w13 hbox hb; have BK378 := Aside0.mk (hbox); have GW378 := zs w hg; have GE378 := GW378; replace HB := zt w hb; clear hb hbox hg) | ((with_reducible refine gate_dst (N := 3) rfl ?_); refine zbx 3 #[.int .i64 a1_0, .int .i64 a1_1, .slice A1_2 l1_2.length c1_2] 79 ?_; intro gb379 hg w14 hbox hb; have BK379 := Aside0.mk (hbox); have GW379 := zs w hg; have GE379 := GW379; have NB378_379 := zlt BK378 hg; have NB379_378 := zgt (zlt BK378 hg); replace BK378 := zk BK378 hb; replace HB := zt w hb; clear hb hbox hg; have hnb15 := NB378_379.out; have hnc15 := NB379_378.out; obtain ⟨hcz16_0, hcz16_1, hcz16_2, hfz16_0, hfz16_1, hfz16_2⟩ := zF3 BK378; obtain ⟨hcz17_0, hcz17_1, hcz17_2, hfz17_0, hfz17_1, hfz17_2⟩ := zF3 BK379) | ((with_reducible refine gate_callee (f := 66) rfl ?_); refine zc (some 19) Tryz.func66 #[.slice A0_2 l0_2.length c0_2, .slice A1_2 l1_2.length c1_2] ?_; (with_reducible refine (laws_eqENodeS.calls k _ _ l0_2 _ _ l1_2 false _ ?side1 ?side2 ?side3 ?side4 A5.out).mono ?_); (case side1 => repeat (first | exact (Kd.C_below HR0_2.out HB.out) | (with_reducible refine Kd.C_alloc ?_ _) | (with_reducible refine Kd.C_drewN ?_ _) | (with_reducible refine Kd.C_drew ?_))); (case side2 => exact HC0_2.out); (case side3 => repeat (first | exact (Kd.C_below HR1_2.out HB.out) | (with_reducible refine Kd.C_alloc ?_ _) | (with_reducible refine Kd.C_drewN ?_ _) | (with_reducible refine Kd.C_drew ?_))); (case side4 => exact HC1_2.out); rintro e w18 ⟨rfl, hb⟩; refine ⟨_, rfl, ?_⟩; replace BK378 := zk BK378 hb; replace BK379 := zk BK379 hb; replace HB := zt w hb; (try clear hb); (try clear hb2); (try clear hk); (try clear hi)))
    go_ret
    exact ⟨ze _, zb _⟩
  ·rw [if_neg c4] at H
   have c4b0 : (a0_1 == a1_1) = false := beq_eq_false_iff_ne.mpr c4
   have c4b1 : (a0_1 != a1_1) = true := bne_iff_ne.mpr c4
   obtain rfl := Option.some.inj H
   go_enter Tryz.func128, Tryz.ntmps128
   go_wp2_with (first | ((with_reducible refine gate_dst (N := 2) rfl ?_); refine zbx 2 #[.int .i64 a0_0, .int .i64 a0_1, .slice A0_2 l0_2.length c0_2] 79 ?_; intro gb378 hg w19 hbox hb; have BK378 := Aside0.mk (hbox); have GW378 := zs w hg; have GE378 := GW378; replace HB := zt w hb; clear hb hbox hg) | ((with_reducible refine gate_dst (N := 3) rfl ?_); refine zbx 3 #[.int .i64 a1_0, .int .i64 a1_1, .slice A1_2 l1_2.length c1_2] 79 ?_; intro gb379 hg w20 hbox hb; have BK379 := Aside0.mk (hbox); have GW379 := zs w hg; have GE379 := GW379; have NB378_379 := zlt BK378 hg; have NB379_378 := zgt (zlt BK378 hg); replace BK378 := zk BK378 hb; replace HB := zt w hb; clear hb hbox hg; have hnb21 := NB378_379.out; have hnc21 := NB379_378.out; obtain ⟨hcz22_0, hcz22_1, hcz22_2, hfz22_0, hfz22_1, hfz22_2⟩ := zF3 BK378; obtain ⟨hcz23_0, hcz23_1, hcz23_2, hfz23_0, hfz23_1, hfz23_2⟩ := zF3 BK379))
   go_ret
   exact ⟨ze _, zb _⟩
 ·rw [if_neg c3] at H
  have c3b0 : (a0_0 == a1_0) = false := beq_eq_false_iff_ne.mpr c3
  have c3b1 : (a0_0 != a1_0) = true := bne_iff_ne.mpr c3
  obtain rfl := Option.some.inj H
  go_enter Tryz.func128, Tryz.ntmps128
  go_wp2_with (first | ((with_reducible refine gate_dst (N := 2) rfl ?_); refine zbx 2 #[.int .i64 a0_0, .int .i64 a0_1, .slice A0_2 l0_2.length c0_2] 79 ?_; intro gb378 hg w24 hbox hb; have BK378 := Aside0.mk (hbox); have GW378 := zs w hg; have GE378 := GW378; replace HB := zt w hb; clear hb hbox hg) | ((with_reducible refine gate_dst (N := 3) rfl ?_); refine zbx 3 #[.int .i64 a1_0, .int .i64 a1_1, .slice A1_2 l1_2.length c1_2] 79 ?_; intro gb379 hg w25 hbox hb; have BK379 := Aside0.mk (hbox); have GW379 := zs w hg; have GE379 := GW379; have NB378_379 := zlt BK378 hg; have NB379_378 := zgt (zlt BK378 hg); replace BK378 := zk BK378 hb; replace HB := zt w hb; clear hb hbox hg; have hnb26 := NB378_379.out; have hnc26 := NB379_378.out; obtain ⟨hcz27_0, hcz27_1, hcz27_2, hfz27_0, hfz27_1, hfz27_2⟩ := zF3 BK378; obtain ⟨hcz28_0, hcz28_1, hcz28_2, hfz28_0, hfz28_1, hfz28_2⟩ := zF3 BK379))
  go_ret
  exact ⟨ze _, zb _⟩

end Go.Proofs.YtlacpadpdfccmaaGreatDoor.PFnExactObjectText
namespace Go.Proofs.YtlacpadpdfccmaaGreatDoor.PFnExactObjectText
open Go.RowKit Go.Proofs.YtlacpadpdfccmaaGreatDoor.Z Go.Proofs.YtlacpadpdfccmaaGreatDoorW.PrintWords Go.Proofs.YtlacpadpdfccmaaGreatDoorW.PrintLast Go.Proofs.YtlacpadpdfccmaaGreatDoorW.PrintMore
attribute [local go_sem] max2_int min2_int max_two min_two max_three min_three max_four min_four   -- for this text's walks alone
set_option linter.unusedVariables false
set_option linter.unusedSimpArgs false

def laws_eqPatchS.l0 : Nat → List (S79) → List (S79) → Int → Option (Bool)
  | 0, _, _, _ => none
  | k + 1, x0, x1, x5 => if x5 < (x0.length : Int) then (if 0 ≤ x5 then (if x5 < (x1.length : Int) then ((laws_eqPatch.f k ((rd_T79 x0 x5).f0) ((rd_T79 x0 x5).f1) ((rd_T79 x0 x5).f2) ((rd_T79 x1 x5).f0) ((rd_T79 x1 x5).f1) ((rd_T79 x1 x5).f2)).bind fun t383 => (if t383 = true then (laws_eqPatchS.l0 k x0 x1 (wrap64 (x5 + 1))) else (some false))) else (none)) else (none)) else (some true)
def laws_eqPatchS.f (k : Nat) (l0 : List (S79)) (l1 : List (S79)) : Option (Bool) := if (l0.length : Int) = (l1.length : Int) then (laws_eqPatchS.l0 k l0 l1 0) else (some false)
theorem laws_eqPatchS.mono_l : ∀ k, (∀ y0 y1 y2, LeO (laws_eqPatchS.l0 k y0 y1 y2) (laws_eqPatchS.l0 (k + 1) y0 y1 y2))
  | 0 => fun _ _ _ r h => by simp [laws_eqPatchS.l0] at h
  | k + 1 => by
    have ih0 := laws_eqPatchS.mono_l k
    · intro y0 y1 y2
      unfold laws_eqPatchS.l0
      repeat' with_reducible first | exact ih0 _ _ _ | exact laws_eqPatch.mono _ _ _ _ _ _ _ | exact LeO.refl _ | exact LeO.none _ | refine LeO.ite ?_ ?_ | refine LeO.bind ?_ (fun _ => ?_)
theorem laws_eqPatchS.mono : ∀ a0 a1 k, LeO (laws_eqPatchS.f k a0 a1) (laws_eqPatchS.f (k + 1) a0 a1) := by
  intro a0 a1 k
  have ih0 := laws_eqPatchS.mono_l k
  unfold laws_eqPatchS.f
  repeat' with_reducible first | exact ih0 _ _ _ | exact laws_eqPatch.mono _ _ _ _ _ _ _ | exact LeO.refl _ | exact LeO.none _ | refine LeO.ite ?_ ?_ | refine LeO.bind ?_ (fun _ => ?_)
def laws_eqPatchS.T6 : Bool × List (List Nat × List Nat) := (true, [([], []), ([], []), ([0, 1], [0, 1]), ([2], [2]), ([], []), ([], []), ([4, 5], [4, 5]), ([6], [6]), ([3, 7], [3, 7]), ([8], [8])])
def laws_eqPatchS.B6 : List Nat := [0, 0, 3, 7, 0, 0, 48, 112, 255, 511]
theorem laws_eqPatchS.tab6 : rtab .any (opsOf Tryz.f106 6) = laws_eqPatchS.T6 := by kernel_rfl
theorem laws_eqPatchS.bits6 : waitsOk laws_eqPatchS.T6.2 laws_eqPatchS.B6 = true := by kernel_rfl
set_option maxHeartbeats 8000000 in
set_option maxRecDepth 100000 in
theorem laws_eqPatchS.calls (k : Nat) (A0 : Option Addr) (c0 : Nat) (l0 : List (S79)) (A1 : Option Addr) (c1 : Nat) (l1 : List (S79)) (r : Bool) (w : World) (hr0 : Kd.C k79 w A0 l0.length l0) (hc0 : l0.length ≤ c0) (hr1 : Kd.C k79 w A1 l1.length l1) (hc1 : l1.length ≤ c1) (h : laws_eqPatchS.f k l0 l1 = some r) :
 Calls Tryz.prog 106 #[.slice A0 l0.length c0, .slice A1 l1.length c1] w fun e w' => e = .returned (.bool r) ∧ Below w.heap.size w w' := by
 have hu79 := Tryz.underlying79
 have HR0 := Aside0.mk hr0
 have HC0 := Aside0.mk hc0
 clear hr0 hc0
 have HR1 := Aside0.mk hr1
 have HC1 := Aside0.mk hc1
 clear hr1 hc1
 have HB := Aside0.mk (Below.refl w.heap.size w)
 have H : (if (l0.length : Int) = (l1.length : Int) then (laws_eqPatchS.l0 k l0 l1 0) else (some false)) = some r := h
 clear h
 by_cases c3 : (l0.length : Int) = (l1.length : Int)
 ·rw [if_pos c3] at H
  have c3b0 : ((l0.length : Int) == (l1.length : Int)) = true := beq_iff_eq.mpr c3
  have c3b1 : ((l0.length : Int) != (l1.length : Int)) = false := bne_eq_false_iff_eq.mpr c3
  have c3b2 : (l0.length == l1.length) = true := by first | simpa using c3 | (simp at c3 ⊢; omega)
  clear c3
  have H' := Aside0.mk H
  clear H
  go_enter Tryz.func106, Tryz.ntmps106
  go_wp2
  go_loopg [5] k (fun kq v5 w' => ∃ (x5_1 : Int), v5 = .int .i64 x5_1 ∧ Aside0 (laws_eqPatchS.l0 kq l0 l1 x5_1 = some r) ∧ Aside0 (kq ≤ k) ∧ Aside0 (Below w.heap.size w w'))
  case atStart => exact ⟨(0), (zE _), H', ⟨Nat.le_refl _⟩, ⟨zb _⟩⟩
  case round =>
   clear H'
   obtain ⟨x5_1, rfl, HA, HK1, HB⟩ := hrel
   cases gk with
   | zero => exact absurd HA.out (by simp [laws_eqPatchS.l0])
   | succ k1 =>
    have H := HA.out
    clear HA
    simp only [laws_eqPatchS.l0] at H
    by_cases c4 : x5_1 < (l0.length : Int)
    ·rw [if_pos c4] at H
     have c4b0 : decide (x5_1 < (l0.length : Int)) = true := decide_eq_true c4
     clear c4
     by_cases c5 : 0 ≤ x5_1
     ·rw [if_pos c5] at H
      have c5b0 : decide (0 ≤ x5_1) = true := decide_eq_true c5
      clear c5
      by_cases c6 : x5_1 < (l1.length : Int)
      ·rw [if_pos c6] at H
       have c6b0 : decide (x5_1 < (l1.length : Int)) = true := decide_eq_true c6
       clear c6
       obtain ⟨t383, A70, H⟩ := Option.bind_eq_some_iff.mp H
       have A7 := Aside0.mk A70
       clear A70
       by_cases c8 : t383 = true
       ·subst c8
        rw [if_pos rfl] at H
        have H' := Aside0.mk H
        clear H
        try go_wp2
        have n0_ := Aside0.mk (below_drew1 HB.out)
        clear HB
        have HB := n0_
        clear n0_
        have p381 : 0 ≤ (x5_1 : Int) := of_decide_eq_true (za _)
        have q381 : x5_1 < (l0.length : Int) := of_decide_eq_true (za _)
        obtain ⟨ad381, A381_2, c381_2, e381, hx381_0, hx381_1, hx381_2, hl381_2, hi381_2⟩ := at_T79 HR0.out x5_1 p381 q381
        have hw381_2 := hx381_2
        have hw381_1 := hx381_1
        have hw381_0 := hx381_0
        cases e381
        replace hx381_0 := zx HB hx381_0
        replace hx381_1 := zx HB hx381_1
        replace hx381_2 := zx HB hx381_2
        have HR381_2 := Aside0.mk hi381_2
        have HC381_2 := Aside0.mk hl381_2
        clear hi381_2 hl381_2
        replace p381 := eq_true p381
        replace q381 := eq_true q381
        have p382 : 0 ≤ (x5_1 : Int) := of_decide_eq_true (za _)
        have q382 : x5_1 < (l1.length : Int) := of_decide_eq_true (za _)
        obtain ⟨ad382, A382_2, c382_2, e382, hx382_0, hx382_1, hx382_2, hl382_2, hi382_2⟩ := at_T79 HR1.out x5_1 p382 q382
        have hw382_2 := hx382_2
        have hw382_1 := hx382_1
        have hw382_0 := hx382_0
        cases e382
        replace hx382_0 := zx HB hx382_0
        replace hx382_1 := zx HB hx382_1
        replace hx382_2 := zx HB hx382_2
        have HR382_2 := Aside0.mk hi382_2
        have HC382_2 := Aside0.mk hl382_2
        clear hi382_2 hl382_2
        replace p382 := eq_true p382
        replace q382 := eq_true q382
        refine start_ (n := 10) (S := fun w' => w'.cell? (ad381.add ((x5_1).toNat * 3)) = some (.int .i64 ((rd_T79 l0 x5_1).f0)) ∧ w'.cell? ⟨(ad381.add ((x5_1).toNat * 3)).block, (ad381.add ((x5_1).toNat * 3)).off + 1, none⟩ = some (.int .i64 ((rd_T79 l0 x5_1).f1)) ∧ w'.cell? ⟨(ad381.add ((x5_1).toNat * 3)).block, (ad381.add ((x5_1).toNat * 3)).off + 2, none⟩ = some (.slice A381_2 ((rd_T79 l0 x5_1).f2).length c381_2) ∧ w'.cell? (ad382.add ((x5_1).toNat * 3)) = some (.int .i64 ((rd_T79 l1 x5_1).f0)) ∧ w'.cell? ⟨(ad382.add ((x5_1).toNat * 3)).block, (ad382.add ((x5_1).toNat * 3)).off + 1, none⟩ = some (.int .i64 ((rd_T79 l1 x5_1).f1)) ∧ w'.cell? ⟨(ad382.add ((x5_1).toNat * 3)).block, (ad382.add ((x5_1).toNat * 3)).off + 2, none⟩ = some (.slice A382_2 ((rd_T79 l1 x5_1).f2).length c382_2)) (ds := []) (zm 10 0) (by kernel_rfl) rfl rfl ⟨(zx HB hw381_0), (zx HB hw381_1), (zx HB hw381_2), (zx HB hw382_0), (zx HB hw382_1), (zx HB hw382_2)⟩ (fun hHeld => ?_); refine with_tabW laws_eqPatchS.tab6 laws_eqPatchS.bits6 (fun HT_ HW_ => ?_)
        generalize wr.drew = w9 at HB HR381_2 HR382_2 hx381_0 hx381_1 hx381_2 hx382_0 hx382_1 hx382_2 hHeld ⊢
        refine zp 0 17 (zm 10 1) ?_
        refine zp 1 18 (zm 10 3) ?_
        refine zp 2 19 (zm 10 7) ?_
        refine zp 4 21 (zm 10 23) ?_
        refine zp 5 22 (zm 10 55) ?_
        refine zp 6 23 (zm 10 119) ?_
        refine zy 3 20 (zm 10 127) hHeld ?_
        refine zy 7 24 (zm 10 255) hHeld ?_
        refine one_ (i := 8) (N := some 25) (zm 10 511) rfl rfl (one_of HT_.out (by kernel_rfl)) (by decide) (fun K hK => ?_)
        refine zi Tryz.func128 #[.agg #[.int .i64 ((rd_T79 l0 x5_1).f0), .int .i64 ((rd_T79 l0 x5_1).f1), .slice A381_2 ((rd_T79 l0 x5_1).f2).length c381_2], .agg #[.int .i64 ((rd_T79 l1 x5_1).f0), .int .i64 ((rd_T79 l1 x5_1).f1), .slice A382_2 ((rd_T79 l1 x5_1).f2).length c382_2]] ?_
        with_reducible refine (laws_eqPatch.calls k1 ((rd_T79 l0 x5_1).f0) ((rd_T79 l0 x5_1).f1) _ _ ((rd_T79 l0 x5_1).f2) ((rd_T79 l1 x5_1).f0) ((rd_T79 l1 x5_1).f1) _ _ ((rd_T79 l1 x5_1).f2) true _ ?side1 ?side2 ?side3 ?side4 A7.out).mono ?_
        (case side1 => repeat (first | exact (Kd.C_below HR381_2.out HB.out) | (with_reducible refine Kd.C_alloc ?_ _) | (with_reducible refine Kd.C_drewN ?_ _) | (with_reducible refine Kd.C_drew ?_)))
        (case side2 => exact HC381_2.out)
        (case side3 => repeat (first | exact (Kd.C_below HR382_2.out HB.out) | (with_reducible refine Kd.C_alloc ?_ _) | (with_reducible refine Kd.C_drewN ?_ _) | (with_reducible refine Kd.C_drew ?_)))
        (case side4 => exact HC382_2.out)
        rintro e w10 ⟨rfl, hb⟩
        refine ⟨_, rfl, ?_⟩
        have n0_ := zt w hb
        clear HB
        have HB := n0_
        clear n0_
        (try clear hb)
        (try clear hb2)
        (try clear hk)
        (try clear hi)
        refine hK.out _ _ ⟨(zx HB hw381_0), (zx HB hw381_1), (zx HB hw381_2), (zx HB hw382_0), (zx HB hw382_1), (zx HB hw382_2)⟩ (fun hHeld => ?_)
        clear hK K
        refine zq ?_
        refine zp 9 26 (zm 10 1023) ?_
        refine done_ (done_of HT_.out (by kernel_rfl)) ?_
        try go_wp2
        go_roundg k1
        case measure => have := HK1.out; omega
        case rel => exact ⟨(wrap64 (x5_1 + 1)), (zE _), H', ⟨by have := HK1.out; omega⟩, ⟨zb _⟩⟩
       ·replace c8 := Bool.eq_false_iff.mpr c8
        subst c8
        rw [if_neg (show ¬ (false = true) by decide)] at H
        obtain rfl := Option.some.inj H
        try go_wp2
        have n0_ := Aside0.mk (below_drew1 HB.out)
        clear HB
        have HB := n0_
        clear n0_
        have p381 : 0 ≤ (x5_1 : Int) := of_decide_eq_true (za _)
        have q381 : x5_1 < (l0.length : Int) := of_decide_eq_true (za _)
        obtain ⟨ad381, A381_2, c381_2, e381, hx381_0, hx381_1, hx381_2, hl381_2, hi381_2⟩ := at_T79 HR0.out x5_1 p381 q381
        have hw381_2 := hx381_2
        have hw381_1 := hx381_1
        have hw381_0 := hx381_0
        cases e381
        replace hx381_0 := zx HB hx381_0
        replace hx381_1 := zx HB hx381_1
        replace hx381_2 := zx HB hx381_2
        have HR381_2 := Aside0.mk hi381_2
        have HC381_2 := Aside0.mk hl381_2
        clear hi381_2 hl381_2
        replace p381 := eq_true p381
        replace q381 := eq_true q381
        have p382 : 0 ≤ (x5_1 : Int) := of_decide_eq_true (za _)
        have q382 : x5_1 < (l1.length : Int) := of_decide_eq_true (za _)
        obtain ⟨ad382, A382_2, c382_2, e382, hx382_0, hx382_1, hx382_2, hl382_2, hi382_2⟩ := at_T79 HR1.out x5_1 p382 q382
        have hw382_2 := hx382_2
        have hw382_1 := hx382_1
        have hw382_0 := hx382_0
        cases e382
        replace hx382_0 := zx HB hx382_0
        replace hx382_1 := zx HB hx382_1
        replace hx382_2 := zx HB hx382_2
        have HR382_2 := Aside0.mk hi382_2
        have HC382_2 := Aside0.mk hl382_2
        clear hi382_2 hl382_2
        replace p382 := eq_true p382
        replace q382 := eq_true q382
        refine start_ (n := 10) (S := fun w' => w'.cell? (ad381.add ((x5_1).toNat * 3)) = some (.int .i64 ((rd_T79 l0 x5_1).f0)) ∧ w'.cell? ⟨(ad381.add ((x5_1).toNat * 3)).block, (ad381.add ((x5_1).toNat * 3)).off + 1, none⟩ = some (.int .i64 ((rd_T79 l0 x5_1).f1)) ∧ w'.cell? ⟨(ad381.add ((x5_1).toNat * 3)).block, (ad381.add ((x5_1).toNat * 3)).off + 2, none⟩ = some (.slice A381_2 ((rd_T79 l0 x5_1).f2).length c381_2) ∧ w'.cell? (ad382.add ((x5_1).toNat * 3)) = some (.int .i64 ((rd_T79 l1 x5_1).f0)) ∧ w'.cell? ⟨(ad382.add ((x5_1).toNat * 3)).block, (ad382.add ((x5_1).toNat * 3)).off + 1, none⟩ = some (.int .i64 ((rd_T79 l1 x5_1).f1)) ∧ w'.cell? ⟨(ad382.add ((x5_1).toNat * 3)).block, (ad382.add ((x5_1).toNat * 3)).off + 2, none⟩ = some (.slice A382_2 ((rd_T79 l1 x5_1).f2).length c382_2)) (ds := []) (zm 10 0) (by kernel_rfl) rfl rfl ⟨(zx HB hw381_0), (zx HB hw381_1), (zx HB hw381_2), (zx HB hw382_0), (zx HB hw382_1), (zx HB hw382_2)⟩ (fun hHeld => ?_); refine with_tabW laws_eqPatchS.tab6 laws_eqPatchS.bits6 (fun HT_ HW_ => ?_)
        generalize wr.drew = w11 at HB HR381_2 HR382_2 hx381_0 hx381_1 hx381_2 hx382_0 hx382_1 hx382_2 hHeld ⊢
        refine zp 0 17 (zm 10 1) ?_
        refine zp 1 18 (zm 10 3) ?_
        refine zp 2 19 (zm 10 7) ?_
        refine zp 4 21 (zm 10 23) ?_
        refine zp 5 22 (zm 10 55) ?_
        refine zp 6 23 (zm 10 119) ?_
        refine zy 3 20 (zm 10 127) hHeld ?_
        refine zy 7 24 (zm 10 255) hHeld ?_
        refine one_ (i := 8) (N := some 25) (zm 10 511) rfl rfl (one_of HT_.out (by kernel_rfl)) (by decide) (fun K hK => ?_)
        refine zi Tryz.func128 #[.agg #[.int .i64 ((rd_T79 l0 x5_1).f0), .int .i64 ((rd_T79 l0 x5_1).f1), .slice A381_2 ((rd_T79 l0 x5_1).f2).length c381_2], .agg #[.int .i64 ((rd_T79 l1 x5_1).f0), .int .i64 ((rd_T79 l1 x5_1).f1), .slice A382_2 ((rd_T79 l1 x5_1).f2).length c382_2]] ?_
        with_reducible refine (laws_eqPatch.calls k1 ((rd_T79 l0 x5_1).f0) ((rd_T79 l0 x5_1).f1) _ _ ((rd_T79 l0 x5_1).f2) ((rd_T79 l1 x5_1).f0) ((rd_T79 l1 x5_1).f1) _ _ ((rd_T79 l1 x5_1).f2) false _ ?side1 ?side2 ?side3 ?side4 A7.out).mono ?_
        (case side1 => repeat (first | exact (Kd.C_below HR381_2.out HB.out) | (with_reducible refine Kd.C_alloc ?_ _) | (with_reducible refine Kd.C_drewN ?_ _) | (with_reducible refine Kd.C_drew ?_)))
        (case side2 => exact HC381_2.out)
        (case side3 => repeat (first | exact (Kd.C_below HR382_2.out HB.out) | (with_reducible refine Kd.C_alloc ?_ _) | (with_reducible refine Kd.C_drewN ?_ _) | (with_reducible refine Kd.C_drew ?_)))
        (case side4 => exact HC382_2.out)
        rintro e w12 ⟨rfl, hb⟩
        refine ⟨_, rfl, ?_⟩
        have n0_ := zt w hb
        clear HB
        have HB := n0_
        clear n0_
        (try clear hb)
        (try clear hb2)
        (try clear hk)
        (try clear hi)
        refine hK.out _ _ ⟨(zx HB hw381_0), (zx HB hw381_1), (zx HB hw381_2), (zx HB hw382_0), (zx HB hw382_1), (zx HB hw382_2)⟩ (fun hHeld => ?_)
        clear hK K
        refine zq ?_
        refine zp 9 26 (zm 10 1023) ?_
        refine done_ (done_of HT_.out (by kernel_rfl)) ?_
        try go_wp2
        go_ret
        exact ⟨ze _, zb _⟩
      ·rw [if_neg c6] at H
       exact absurd H (by simp)
     ·rw [if_neg c5] at H
      exact absurd H (by simp)
    ·rw [if_neg c4] at H
     have c4b0 : decide (x5_1 < (l0.length : Int)) = false := decide_eq_false c4
     clear c4
     obtain rfl := Option.some.inj H
     go_wp2
     go_ret
     exact ⟨ze _, zb _⟩
 ·rw [if_neg c3] at H
  have c3b0 : ((l0.length : Int) == (l1.length : Int)) = false := beq_eq_false_iff_ne.mpr c3
  have c3b1 : ((l0.length : Int) != (l1.length : Int)) = true := bne_iff_ne.mpr c3
  have c3b2 : (l0.length == l1.length) = false := by first | simpa using c3 | (simp at c3 ⊢; omega)
  obtain rfl := Option.some.inj H
  go_enter Tryz.func106, Tryz.ntmps106
  go_wp2
  go_ret
  exact ⟨ze _, zb _⟩

def laws_eqSection.f (k : Nat) (a0_0 : ByteArray) (a0_1 : Int) (a0_2 : Int) (a0_3 : Int) (a0_4 : ByteArray) (l0_5 : List (S79)) (a1_0 : ByteArray) (a1_1 : Int) (a1_2 : Int) (a1_3 : Int) (a1_4 : ByteArray) (l1_5 : List (S79)) : Option (Bool) := if a0_0.toList = a1_0.toList then (if a0_1 = a1_1 then (if a0_2 = a1_2 then (if a0_3 = a1_3 then (if a0_4.toList = a1_4.toList then ((laws_eqPatchS.f k l0_5 l1_5).bind fun t386 => (if t386 = true then (some true) else (some false))) else (some false)) else (some false)) else (some false)) else (some false)) else (some false)
theorem laws_eqSection.mono : ∀ a0 a1 a2 a3 a4 a5 a6 a7 a8 a9 a10 a11 k, LeO (laws_eqSection.f k a0 a1 a2 a3 a4 a5 a6 a7 a8 a9 a10 a11) (laws_eqSection.f (k + 1) a0 a1 a2 a3 a4 a5 a6 a7 a8 a9 a10 a11) := by
  intro a0 a1 a2 a3 a4 a5 a6 a7 a8 a9 a10 a11 k
  unfold laws_eqSection.f
  repeat' with_reducible first | exact laws_eqPatchS.mono _ _ _ | exact LeO.refl _ | exact LeO.none _ | refine LeO.ite ?_ ?_ | refine LeO.bind ?_ (fun _ => ?_)
set_option maxHeartbeats 8000000 in
set_option maxRecDepth 100000 in
theorem laws_eqSection.calls (k : Nat) (a0_0 : ByteArray) (a0_1 : Int) (a0_2 : Int) (a0_3 : Int) (a0_4 : ByteArray) (A0_5 : Option Addr) (c0_5 : Nat) (l0_5 : List (S79)) (a1_0 : ByteArray) (a1_1 : Int) (a1_2 : Int) (a1_3 : Int) (a1_4 : ByteArray) (A1_5 : Option Addr) (c1_5 : Nat) (l1_5 : List (S79)) (r : Bool) (w : World) (hr0_5 : Kd.C k79 w A0_5 l0_5.length l0_5) (hc0_5 : l0_5.length ≤ c0_5) (hr1_5 : Kd.C k79 w A1_5 l1_5.length l1_5) (hc1_5 : l1_5.length ≤ c1_5) (h : laws_eqSection.f k a0_0 a0_1 a0_2 a0_3 a0_4 l0_5 a1_0 a1_1 a1_2 a1_3 a1_4 l1_5 = some r) :
 Calls Tryz.prog 64 #[.agg #[.string a0_0, .int .i64 a0_1, .int .i64 a0_2, .int .i64 a0_3, .string a0_4, .slice A0_5 l0_5.length c0_5], .agg #[.string a1_0, .int .i64 a1_1, .int .i64 a1_2, .int .i64 a1_3, .string a1_4, .slice A1_5 l1_5.length c1_5]] w fun e w' => e = .returned (.bool r) ∧ Below w.heap.size w w' := by
 have hu71 := Tryz.underlying71
 have HR0_5 := Aside0.mk hr0_5
 have HC0_5 := Aside0.mk hc0_5
 clear hr0_5 hc0_5
 have HR1_5 := Aside0.mk hr1_5
 have HC1_5 := Aside0.mk hc1_5
 clear hr1_5 hc1_5
 have HB := Aside0.mk (Below.refl w.heap.size w)
 have H : (if a0_0.toList = a1_0.toList then (if a0_1 = a1_1 then (if a0_2 = a1_2 then (if a0_3 = a1_3 then (if a0_4.toList = a1_4.toList then ((laws_eqPatchS.f k l0_5 l1_5).bind fun t386 => (if t386 = true then (some true) else (some false))) else (some false)) else (some false)) else (some false)) else (some false)) else (some false)) = some r := h
 clear h
 by_cases c3 : a0_0.toList = a1_0.toList
 ·rw [if_pos c3] at H
  have c3b0 : (a0_0.toList == a1_0.toList) = true := beq_iff_eq.mpr c3
  have c3b1 : (a0_0.toList != a1_0.toList) = false := bne_eq_false_iff_eq.mpr c3
  clear c3
  by_cases c4 : a0_1 = a1_1
  ·rw [if_pos c4] at H
   have c4b0 : (a0_1 == a1_1) = true := beq_iff_eq.mpr c4
   have c4b1 : (a0_1 != a1_1) = false := bne_eq_false_iff_eq.mpr c4
   clear c4
   by_cases c5 : a0_2 = a1_2
   ·rw [if_pos c5] at H
    have c5b0 : (a0_2 == a1_2) = true := beq_iff_eq.mpr c5
    have c5b1 : (a0_2 != a1_2) = false := bne_eq_false_iff_eq.mpr c5
    clear c5
    by_cases c6 : a0_3 = a1_3
    ·rw [if_pos c6] at H
     have c6b0 : (a0_3 == a1_3) = true := beq_iff_eq.mpr c6
     have c6b1 : (a0_3 != a1_3) = false := bne_eq_false_iff_eq.mpr c6
     clear c6
     by_cases c7 : a0_4.toList = a1_4.toList
     ·rw [if_pos c7] at H
      have c7b0 : (a0_4.toList == a1_4.toList) = true := beq_iff_eq.mpr c7
      have c7b1 : (a0_4.toList != a1_4.toList) = false := bne_eq_false_iff_eq.mpr c7
      clear c7
      obtain ⟨t386, A80, H⟩ := Option.bind_eq_some_iff.mp H
      have A8 := Aside0.mk A80
      clear A80
      by_cases c9 : t386 = true
      ·subst c9
       rw [if_pos rfl] at H
       obtain rfl := Option.some.inj H
       go_enter Tryz.func64, Tryz.ntmps64
       go_wp2_with (first | ((with_reducible refine gate_dst (N := 2) rfl ?_); refine zbx 2 #[.string a0_0, .int .i64 a0_1, .int .i64 a0_2, .int .i64 a0_3, .string a0_4, .slice A0_5 l0_5.length c0_5] 71 ?_; intro gb384 hg w10 hbox hb; have BK384 := Aside0.mk (hbox); have GW384 := zs w hg; have GE384 := GW384; replace HB := zt w hb; clear hb hbox hg) | ((with_reducible refine gate_dst (N := 3) rfl ?_); refine zbx 3 #[.string a1_0, .int .i64 a1_1, .int .i64 a1_2, .int .i64 a1_3, .string a1_4, .slice A1_5 l1_5.length c1_5] 71 ?_; intro gb385 hg w11 hbox hb; have BK385 := Aside0.mk (hbox); have GW385 := zs w hg; have GE385 := GW385; have NB384_385 := zlt BK384 hg; have NB385_384 := zgt (zlt BK384 hg); replace BK384 := zk BK384 hb; replace HB := zt w hb; clear hb hbox hg; have hnb12 := NB384_385.out; have hnc12 := NB385_384.out; have hcz13_0 := zc0 BK384; have hcz13_1 := zc1 BK384; have hcz13_2 := zc2 BK384; have hcz13_3 := zc3 BK384; have hcz13_4 := zc4 BK384; have hcz13_5 := zc5 BK384; have hfz13_0 := blk_frozen BK384.out 0; have hfz13_1 := blk_frozen BK384.out 1; have hfz13_2 := blk_frozen BK384.out 2; have hfz13_3 := blk_frozen BK384.out 3; have hfz13_4 := blk_frozen BK384.out 4; have hfz13_5 := blk_frozen BK384.out 5; have hcz14_0 := zc0 BK385; have hcz14_1 := zc1 BK385; have hcz14_2 := zc2 BK385; have hcz14_3 := zc3 BK385; have hcz14_4 := zc4 BK385; have hcz14_5 := zc5 BK385; have hfz14_0 := blk_frozen BK385.out 0; have hfz14_1 := blk_frozen BK385.out 1; have hfz14_2 := blk_frozen BK385.out 2; have hfz14_3 := blk_frozen BK385.out 3; have hfz14_4 := blk_frozen BK385.out 4; have hfz14_5 := blk_frozen BK385.out 5) | ((with_reducible refine gate_callee (f := 106) rfl ?_); refine zc (some 34) Tryz.func106 #[.slice A0_5 l0_5.length c0_5, .slice A1_5 l1_5.length c1_5] ?_; (with_reducible refine (laws_eqPatchS.calls k _ _ l0_5 _ _ l1_5 true _ ?side1 ?side2 ?side3 ?side4 A8.out).mono ?_); (case side1 => repeat (first | exact (Kd.C_below HR0_5.out HB.out) | (with_reducible refine Kd.C_alloc ?_ _) | (with_reducible refine Kd.C_drewN ?_ _) | (with_reducible refine Kd.C_drew ?_))); (case side2 => exact HC0_5.out); (case side3 => repeat (first | exact (Kd.C_below HR1_5.out HB.out) | (with_reducible refine Kd.C_alloc ?_ _) | (with_reducible refine Kd.C_drewN ?_ _) | (with_reducible refine Kd.C_drew ?_))); (case side4 => exact HC1_5.out); rintro e w15 ⟨rfl, hb⟩; refine ⟨_, rfl, ?_⟩; replace BK384 := zk BK384 hb; replace BK385 := zk BK385 hb; replace HB := zt w hb; (try clear hb); (try clear hb2); (try clear hk); (try clear hi)))
       go_ret
       exact ⟨ze _, zb _⟩
      ·replace c9 := Bool.eq_false_iff.mpr c9
       subst c9
       rw [if_neg (show ¬ (false = true) by decide)] at H
       obtain rfl := Option.some.inj H
       go_enter Tryz.func64, Tryz.ntmps64
       go_wp2_with (first | ((with_reducible refine gate_dst (N := 2) rfl ?_); refine zbx 2 #[.string a0_0, .int .i64 a0_1, .int .i64 a0_2, .int .i64 a0_3, .string a0_4, .slice A0_5 l0_5.length c0_5] 71 ?_; intro gb384 hg w16 hbox hb; have BK384 := Aside0.mk (hbox); have GW384 := zs w hg; have GE384 := GW384; replace HB := zt w hb; clear hb hbox hg) | ((with_reducible refine gate_dst (N := 3) rfl ?_); refine zbx 3 #[.string a1_0, .int .i64 a1_1, .int .i64 a1_2, .int .i64 a1_3, .string a1_4, .slice A1_5 l1_5.length c1_5] 71 ?_; intro gb385 hg w17 hbox hb; have BK385 := Aside0.mk (hbox); have GW385 := zs w hg; have GE385 := GW385; have NB384_385 := zlt BK384 hg; have NB385_384 := zgt (zlt BK384 hg); replace BK384 := zk BK384 hb; replace HB := zt w hb; clear hb hbox hg; have hnb18 := NB384_385.out; have hnc18 := NB385_384.out; have hcz19_0 := zc0 BK384; have hcz19_1 := zc1 BK384; have hcz19_2 := zc2 BK384; have hcz19_3 := zc3 BK384; have hcz19_4 := zc4 BK384; have hcz19_5 := zc5 BK384; have hfz19_0 := blk_frozen BK384.out 0; have hfz19_1 := blk_frozen BK384.out 1; have hfz19_2 := blk_frozen BK384.out 2; have hfz19_3 := blk_frozen BK384.out 3; have hfz19_4 := blk_frozen BK384.out 4; have hfz19_5 := blk_frozen BK384.out 5; have hcz20_0 := zc0 BK385; have hcz20_1 := zc1 BK385; have hcz20_2 := zc2 BK385; have hcz20_3 := zc3 BK385; have hcz20_4 := zc4 BK385; have hcz20_5 := zc5 BK385; have hfz20_0 := blk_frozen BK385.out 0; have hfz20_1 := blk_frozen BK385.out 1; have hfz20_2 := blk_frozen BK385.out 2; have hfz20_3 := blk_frozen BK385.out 3; have hfz20_4 := blk_frozen BK385.out 4; have hfz20_5 := blk_frozen BK385.out 5) | ((with_reducible refine gate_callee (f := 106) rfl ?_); refine zc (some 34) Tryz.func106 #[.slice A0_5 l0_5.length c0_5, .slice A1_5 l1_5.length c1_5] ?_; (with_reducible refine (laws_eqPatchS.calls k _ _ l0_5 _ _ l1_5 false _ ?side1 ?side2 ?side3 ?side4 A8.out).mono ?_); (case side1 => repeat (first | exact (Kd.C_below HR0_5.out HB.out) | (with_reducible refine Kd.C_alloc ?_ _) | (with_reducible refine Kd.C_drewN ?_ _) | (with_reducible refine Kd.C_drew ?_))); (case side2 => exact HC0_5.out); (case side3 => repeat (first | exact (Kd.C_below HR1_5.out HB.out) | (with_reducible refine Kd.C_alloc ?_ _) | (with_reducible refine Kd.C_drewN ?_ _) | (with_reducible refine Kd.C_drew ?_))); (case side4 => exact HC1_5.out); rintro e w21 ⟨rfl, hb⟩; refine ⟨_, rfl, ?_⟩; replace BK384 := zk BK384 hb; replace BK385 := zk BK385 hb; replace HB := zt w hb; (try clear hb); (try clear hb2); (try clear hk); (try clear hi)))
       go_ret
       exact ⟨ze _, zb _⟩
     ·rw [if_neg c7] at H
      have c7b0 : (a0_4.toList == a1_4.toList) = false := beq_eq_false_iff_ne.mpr c7
      have c7b1 : (a0_4.toList != a1_4.toList) = true := bne_iff_ne.mpr c7
      obtain rfl := Option.some.inj H
      go_enter Tryz.func64, Tryz.ntmps64
      go_wp2_with (first | ((with_reducible refine gate_dst (N := 2) rfl ?_); refine zbx 2 #[.string a0_0, .int .i64 a0_1, .int .i64 a0_2, .int .i64 a0_3, .string a0_4, .slice A0_5 l0_5.length c0_5] 71 ?_; intro gb384 hg w22 hbox hb; have BK384 := Aside0.mk (hbox); have GW384 := zs w hg; have GE384 := GW384; replace HB := zt w hb; clear hb hbox hg) | ((with_reducible refine gate_dst (N := 3) rfl ?_); refine zbx 3 #[.string a1_0, .int .i64 a1_1, .int .i64 a1_2, .int .i64 a1_3, .string a1_4, .slice A1_5 l1_5.length c1_5] 71 ?_; intro gb385 hg w23 hbox hb; have BK385 := Aside0.mk (hbox); have GW385 := zs w hg; have GE385 := GW385; have NB384_385 := zlt BK384 hg; have NB385_384 := zgt (zlt BK384 hg); replace BK384 := zk BK384 hb; replace HB := zt w hb; clear hb hbox hg; have hnb24 := NB384_385.out; have hnc24 := NB385_384.out; have hcz25_0 := zc0 BK384; have hcz25_1 := zc1 BK384; have hcz25_2 := zc2 BK384; have hcz25_3 := zc3 BK384; have hcz25_4 := zc4 BK384; have hcz25_5 := zc5 BK384; have hfz25_0 := blk_frozen BK384.out 0; have hfz25_1 := blk_frozen BK384.out 1; have hfz25_2 := blk_frozen BK384.out 2; have hfz25_3 := blk_frozen BK384.out 3; have hfz25_4 := blk_frozen BK384.out 4; have hfz25_5 := blk_frozen BK384.out 5; have hcz26_0 := zc0 BK385; have hcz26_1 := zc1 BK385; have hcz26_2 := zc2 BK385; have hcz26_3 := zc3 BK385; have hcz26_4 := zc4 BK385; have hcz26_5 := zc5 BK385; have hfz26_0 := blk_frozen BK385.out 0; have hfz26_1 := blk_frozen BK385.out 1; have hfz26_2 := blk_frozen BK385.out 2; have hfz26_3 := blk_frozen BK385.out 3; have hfz26_4 := blk_frozen BK385.out 4; have hfz26_5 := blk_frozen BK385.out 5))
      go_ret
      exact ⟨ze _, zb _⟩
    ·rw [if_neg c6] at H
     have c6b0 : (a0_3 == a1_3) = false := beq_eq_false_iff_ne.mpr c6
     have c6b1 : (a0_3 != a1_3) = true := bne_iff_ne.mpr c6
     obtain rfl := Option.some.inj H
     go_enter Tryz.func64, Tryz.ntmps64
     go_wp2_with (first | ((with_reducible refine gate_dst (N := 2) rfl ?_); refine zbx 2 #[.string a0_0, .int .i64 a0_1, .int .i64 a0_2, .int .i64 a0_3, .string a0_4, .slice A0_5 l0_5.length c0_5] 71 ?_; intro gb384 hg w27 hbox hb; have BK384 := Aside0.mk (hbox); have GW384 := zs w hg; have GE384 := GW384; replace HB := zt w hb; clear hb hbox hg) | ((with_reducible refine gate_dst (N := 3) rfl ?_); refine zbx 3 #[.string a1_0, .int .i64 a1_1, .int .i64 a1_2, .int .i64 a1_3, .string a1_4, .slice A1_5 l1_5.length c1_5] 71 ?_; intro gb385 hg w28 hbox hb; have BK385 := Aside0.mk (hbox); have GW385 := zs w hg; have GE385 := GW385; have NB384_385 := zlt BK384 hg; have NB385_384 := zgt (zlt BK384 hg); replace BK384 := zk BK384 hb; replace HB := zt w hb; clear hb hbox hg; have hnb29 := NB384_385.out; have hnc29 := NB385_384.out; have hcz30_0 := zc0 BK384; have hcz30_1 := zc1 BK384; have hcz30_2 := zc2 BK384; have hcz30_3 := zc3 BK384; have hcz30_4 := zc4 BK384; have hcz30_5 := zc5 BK384; have hfz30_0 := blk_frozen BK384.out 0; have hfz30_1 := blk_frozen BK384.out 1; have hfz30_2 := blk_frozen BK384.out 2; have hfz30_3 := blk_frozen BK384.out 3; have hfz30_4 := blk_frozen BK384.out 4; have hfz30_5 := blk_frozen BK384.out 5; have hcz31_0 := zc0 BK385; have hcz31_1 := zc1 BK385; have hcz31_2 := zc2 BK385; have hcz31_3 := zc3 BK385; have hcz31_4 := zc4 BK385; have hcz31_5 := zc5 BK385; have hfz31_0 := blk_frozen BK385.out 0; have hfz31_1 := blk_frozen BK385.out 1; have hfz31_2 := blk_frozen BK385.out 2; have hfz31_3 := blk_frozen BK385.out 3; have hfz31_4 := blk_frozen BK385.out 4; have hfz31_5 := blk_frozen BK385.out 5))
     go_ret
     exact ⟨ze _, zb _⟩
   ·rw [if_neg c5] at H
    have c5b0 : (a0_2 == a1_2) = false := beq_eq_false_iff_ne.mpr c5
    have c5b1 : (a0_2 != a1_2) = true := bne_iff_ne.mpr c5
    obtain rfl := Option.some.inj H
    go_enter Tryz.func64, Tryz.ntmps64
    go_wp2_with (first | ((with_reducible refine gate_dst (N := 2) rfl ?_); refine zbx 2 #[.string a0_0, .int .i64 a0_1, .int .i64 a0_2, .int .i64 a0_3, .string a0_4, .slice A0_5 l0_5.length c0_5] 71 ?_; intro gb384 hg w32 hbox hb; have BK384 := Aside0.mk (hbox); have GW384 := zs w hg; have GE384 := GW384; replace HB := zt w hb; clear hb hbox hg) | ((with_reducible refine gate_dst (N := 3) rfl ?_); refine zbx 3 #[.string a1_0, .int .i64 a1_1, .int .i64 a1_2, .int .i64 a1_3, .string a1_4, .slice A1_5 l1_5.length c1_5] 71 ?_; intro gb385 hg w33 hbox hb; have BK385 := Aside0.mk (hbox); have GW385 := zs w hg; have GE385 := GW385; have NB384_385 := zlt BK384 hg; have NB385_384 := zgt (zlt BK384 hg); replace BK384 := zk BK384 hb; replace HB := zt w hb; clear hb hbox hg; have hnb34 := NB384_385.out; have hnc34 := NB385_384.out; have hcz35_0 := zc0 BK384; have hcz35_1 := zc1 BK384; have hcz35_2 := zc2 BK384; have hcz35_3 := zc3 BK384; have hcz35_4 := zc4 BK384; have hcz35_5 := zc5 BK384; have hfz35_0 := blk_frozen BK384.out 0; have hfz35_1 := blk_frozen BK384.out 1; have hfz35_2 := blk_frozen BK384.out 2; have hfz35_3 := blk_frozen BK384.out 3; have hfz35_4 := blk_frozen BK384.out 4; have hfz35_5 := blk_frozen BK384.out 5; have hcz36_0 := zc0 BK385; have hcz36_1 := zc1 BK385; have hcz36_2 := zc2 BK385; have hcz36_3 := zc3 BK385; have hcz36_4 := zc4 BK385; have hcz36_5 := zc5 BK385; have hfz36_0 := blk_frozen BK385.out 0; have hfz36_1 := blk_frozen BK385.out 1; have hfz36_2 := blk_frozen BK385.out 2; have hfz36_3 := blk_frozen BK385.out 3; have hfz36_4 := blk_frozen BK385.out 4; have hfz36_5 := blk_frozen BK385.out 5))
    go_ret
    exact ⟨ze _, zb _⟩
  ·rw [if_neg c4] at H
   have c4b0 : (a0_1 == a1_1) = false := beq_eq_false_iff_ne.mpr c4
   have c4b1 : (a0_1 != a1_1) = true := bne_iff_ne.mpr c4
   obtain rfl := Option.some.inj H
   go_enter Tryz.func64, Tryz.ntmps64
   go_wp2_with (first | ((with_reducible refine gate_dst (N := 2) rfl ?_); refine zbx 2 #[.string a0_0, .int .i64 a0_1, .int .i64 a0_2, .int .i64 a0_3, .string a0_4, .slice A0_5 l0_5.length c0_5] 71 ?_; intro gb384 hg w37 hbox hb; have BK384 := Aside0.mk (hbox); have GW384 := zs w hg; have GE384 := GW384; replace HB := zt w hb; clear hb hbox hg) | ((with_reducible refine gate_dst (N := 3) rfl ?_); refine zbx 3 #[.string a1_0, .int .i64 a1_1, .int .i64 a1_2, .int .i64 a1_3, .string a1_4, .slice A1_5 l1_5.length c1_5] 71 ?_; intro gb385 hg w38 hbox hb; have BK385 := Aside0.mk (hbox); have GW385 := zs w hg; have GE385 := GW385; have NB384_385 := zlt BK384 hg; have NB385_384 := zgt (zlt BK384 hg); replace BK384 := zk BK384 hb; replace HB := zt w hb; clear hb hbox hg; have hnb39 := NB384_385.out; have hnc39 := NB385_384.out; have hcz40_0 := zc0 BK384; have hcz40_1 := zc1 BK384; have hcz40_2 := zc2 BK384; have hcz40_3 := zc3 BK384; have hcz40_4 := zc4 BK384; have hcz40_5 := zc5 BK384; have hfz40_0 := blk_frozen BK384.out 0; have hfz40_1 := blk_frozen BK384.out 1; have hfz40_2 := blk_frozen BK384.out 2; have hfz40_3 := blk_frozen BK384.out 3; have hfz40_4 := blk_frozen BK384.out 4; have hfz40_5 := blk_frozen BK384.out 5; have hcz41_0 := zc0 BK385; have hcz41_1 := zc1 BK385; have hcz41_2 := zc2 BK385; have hcz41_3 := zc3 BK385; have hcz41_4 := zc4 BK385; have hcz41_5 := zc5 BK385; have hfz41_0 := blk_frozen BK385.out 0; have hfz41_1 := blk_frozen BK385.out 1; have hfz41_2 := blk_frozen BK385.out 2; have hfz41_3 := blk_frozen BK385.out 3; have hfz41_4 := blk_frozen BK385.out 4; have hfz41_5 := blk_frozen BK385.out 5))
   go_ret
   exact ⟨ze _, zb _⟩
 ·rw [if_neg c3] at H
  have c3b0 : (a0_0.toList == a1_0.toList) = false := beq_eq_false_iff_ne.mpr c3
  have c3b1 : (a0_0.toList != a1_0.toList) = true := bne_iff_ne.mpr c3
  obtain rfl := Option.some.inj H
  go_enter Tryz.func64, Tryz.ntmps64
  go_wp2_with (first | ((with_reducible refine gate_dst (N := 2) rfl ?_); refine zbx 2 #[.string a0_0, .int .i64 a0_1, .int .i64 a0_2, .int .i64 a0_3, .string a0_4, .slice A0_5 l0_5.length c0_5] 71 ?_; intro gb384 hg w42 hbox hb; have BK384 := Aside0.mk (hbox); have GW384 := zs w hg; have GE384 := GW384; replace HB := zt w hb; clear hb hbox hg) | ((with_reducible refine gate_dst (N := 3) rfl ?_); refine zbx 3 #[.string a1_0, .int .i64 a1_1, .int .i64 a1_2, .int .i64 a1_3, .string a1_4, .slice A1_5 l1_5.length c1_5] 71 ?_; intro gb385 hg w43 hbox hb; have BK385 := Aside0.mk (hbox); have GW385 := zs w hg; have GE385 := GW385; have NB384_385 := zlt BK384 hg; have NB385_384 := zgt (zlt BK384 hg); replace BK384 := zk BK384 hb; replace HB := zt w hb; clear hb hbox hg; have hnb44 := NB384_385.out; have hnc44 := NB385_384.out; have hcz45_0 := zc0 BK384; have hcz45_1 := zc1 BK384; have hcz45_2 := zc2 BK384; have hcz45_3 := zc3 BK384; have hcz45_4 := zc4 BK384; have hcz45_5 := zc5 BK384; have hfz45_0 := blk_frozen BK384.out 0; have hfz45_1 := blk_frozen BK384.out 1; have hfz45_2 := blk_frozen BK384.out 2; have hfz45_3 := blk_frozen BK384.out 3; have hfz45_4 := blk_frozen BK384.out 4; have hfz45_5 := blk_frozen BK384.out 5; have hcz46_0 := zc0 BK385; have hcz46_1 := zc1 BK385; have hcz46_2 := zc2 BK385; have hcz46_3 := zc3 BK385; have hcz46_4 := zc4 BK385; have hcz46_5 := zc5 BK385; have hfz46_0 := blk_frozen BK385.out 0; have hfz46_1 := blk_frozen BK385.out 1; have hfz46_2 := blk_frozen BK385.out 2; have hfz46_3 := blk_frozen BK385.out 3; have hfz46_4 := blk_frozen BK385.out 4; have hfz46_5 := blk_frozen BK385.out 5))
  go_ret
  exact ⟨ze _, zb _⟩

end Go.Proofs.YtlacpadpdfccmaaGreatDoor.PFnExactObjectText
namespace Go.Proofs.YtlacpadpdfccmaaGreatDoor.PFnExactObjectText
open Go.RowKit Go.Proofs.YtlacpadpdfccmaaGreatDoor.Z Go.Proofs.YtlacpadpdfccmaaGreatDoorW.PrintWords Go.Proofs.YtlacpadpdfccmaaGreatDoorW.PrintLast Go.Proofs.YtlacpadpdfccmaaGreatDoorW.PrintMore
attribute [local go_sem] max2_int min2_int max_two min_two max_three min_three max_four min_four   -- for this text's walks alone
set_option linter.unusedVariables false
set_option linter.unusedSimpArgs false

def laws_eqSectionS.l0 : Nat → List (S71) → List (S71) → Int → Option (Bool)
  | 0, _, _, _ => none
  | k + 1, x0, x1, x5 => if x5 < (x0.length : Int) then (if 0 ≤ x5 then (if x5 < (x1.length : Int) then ((laws_eqSection.f k ((rd_T71 x0 x5).f0) ((rd_T71 x0 x5).f1) ((rd_T71 x0 x5).f2) ((rd_T71 x0 x5).f3) ((rd_T71 x0 x5).f4) ((rd_T71 x0 x5).f5) ((rd_T71 x1 x5).f0) ((rd_T71 x1 x5).f1) ((rd_T71 x1 x5).f2) ((rd_T71 x1 x5).f3) ((rd_T71 x1 x5).f4) ((rd_T71 x1 x5).f5)).bind fun t389 => (if t389 = true then (laws_eqSectionS.l0 k x0 x1 (wrap64 (x5 + 1))) else (some false))) else (none)) else (none)) else (some true)
def laws_eqSectionS.f (k : Nat) (l0 : List (S71)) (l1 : List (S71)) : Option (Bool) := if (l0.length : Int) = (l1.length : Int) then (laws_eqSectionS.l0 k l0 l1 0) else (some false)
theorem laws_eqSectionS.mono_l : ∀ k, (∀ y0 y1 y2, LeO (laws_eqSectionS.l0 k y0 y1 y2) (laws_eqSectionS.l0 (k + 1) y0 y1 y2))
  | 0 => fun _ _ _ r h => by simp [laws_eqSectionS.l0] at h
  | k + 1 => by
    have ih0 := laws_eqSectionS.mono_l k
    · intro y0 y1 y2
      unfold laws_eqSectionS.l0
      repeat' with_reducible first | exact ih0 _ _ _ | exact laws_eqSection.mono _ _ _ _ _ _ _ _ _ _ _ _ _ | exact LeO.refl _ | exact LeO.none _ | refine LeO.ite ?_ ?_ | refine LeO.bind ?_ (fun _ => ?_)
theorem laws_eqSectionS.mono : ∀ a0 a1 k, LeO (laws_eqSectionS.f k a0 a1) (laws_eqSectionS.f (k + 1) a0 a1) := by
  intro a0 a1 k
  have ih0 := laws_eqSectionS.mono_l k
  unfold laws_eqSectionS.f
  repeat' with_reducible first | exact ih0 _ _ _ | exact laws_eqSection.mono _ _ _ _ _ _ _ _ _ _ _ _ _ | exact LeO.refl _ | exact LeO.none _ | refine LeO.ite ?_ ?_ | refine LeO.bind ?_ (fun _ => ?_)
def laws_eqSectionS.T6 : Bool × List (List Nat × List Nat) := (true, [([], []), ([], []), ([0, 1], [0, 1]), ([2], [2]), ([], []), ([], []), ([4, 5], [4, 5]), ([6], [6]), ([3, 7], [3, 7]), ([8], [8])])
def laws_eqSectionS.B6 : List Nat := [0, 0, 3, 7, 0, 0, 48, 112, 255, 511]
theorem laws_eqSectionS.tab6 : rtab .any (opsOf Tryz.f24 6) = laws_eqSectionS.T6 := by kernel_rfl
theorem laws_eqSectionS.bits6 : waitsOk laws_eqSectionS.T6.2 laws_eqSectionS.B6 = true := by kernel_rfl
set_option maxHeartbeats 8000000 in
set_option maxRecDepth 100000 in
theorem laws_eqSectionS.calls (k : Nat) (A0 : Option Addr) (c0 : Nat) (l0 : List (S71)) (A1 : Option Addr) (c1 : Nat) (l1 : List (S71)) (r : Bool) (w : World) (hr0 : Kd.C k71 w A0 l0.length l0) (hc0 : l0.length ≤ c0) (hr1 : Kd.C k71 w A1 l1.length l1) (hc1 : l1.length ≤ c1) (h : laws_eqSectionS.f k l0 l1 = some r) :
 Calls Tryz.prog 24 #[.slice A0 l0.length c0, .slice A1 l1.length c1] w fun e w' => e = .returned (.bool r) ∧ Below w.heap.size w w' := by
 have hu71 := Tryz.underlying71
 have HR0 := Aside0.mk hr0
 have HC0 := Aside0.mk hc0
 clear hr0 hc0
 have HR1 := Aside0.mk hr1
 have HC1 := Aside0.mk hc1
 clear hr1 hc1
 have HB := Aside0.mk (Below.refl w.heap.size w)
 have H : (if (l0.length : Int) = (l1.length : Int) then (laws_eqSectionS.l0 k l0 l1 0) else (some false)) = some r := h
 clear h
 by_cases c3 : (l0.length : Int) = (l1.length : Int)
 ·rw [if_pos c3] at H
  have c3b0 : ((l0.length : Int) == (l1.length : Int)) = true := beq_iff_eq.mpr c3
  have c3b1 : ((l0.length : Int) != (l1.length : Int)) = false := bne_eq_false_iff_eq.mpr c3
  have c3b2 : (l0.length == l1.length) = true := by first | simpa using c3 | (simp at c3 ⊢; omega)
  clear c3
  have H' := Aside0.mk H
  clear H
  go_enter Tryz.func24, Tryz.ntmps24
  go_wp2
  go_loopg [5] k (fun kq v5 w' => ∃ (x5_1 : Int), v5 = .int .i64 x5_1 ∧ Aside0 (laws_eqSectionS.l0 kq l0 l1 x5_1 = some r) ∧ Aside0 (kq ≤ k) ∧ Aside0 (Below w.heap.size w w'))
  case atStart => exact ⟨(0), (zE _), H', ⟨Nat.le_refl _⟩, ⟨zb _⟩⟩
  case round =>
   clear H'
   obtain ⟨x5_1, rfl, HA, HK1, HB⟩ := hrel
   cases gk with
   | zero => exact absurd HA.out (by simp [laws_eqSectionS.l0])
   | succ k1 =>
    have H := HA.out
    clear HA
    simp only [laws_eqSectionS.l0] at H
    by_cases c4 : x5_1 < (l0.length : Int)
    ·rw [if_pos c4] at H
     have c4b0 : decide (x5_1 < (l0.length : Int)) = true := decide_eq_true c4
     clear c4
     by_cases c5 : 0 ≤ x5_1
     ·rw [if_pos c5] at H
      have c5b0 : decide (0 ≤ x5_1) = true := decide_eq_true c5
      clear c5
      by_cases c6 : x5_1 < (l1.length : Int)
      ·rw [if_pos c6] at H
       have c6b0 : decide (x5_1 < (l1.length : Int)) = true := decide_eq_true c6
       clear c6
       obtain ⟨t389, A70, H⟩ := Option.bind_eq_some_iff.mp H
       have A7 := Aside0.mk A70
       clear A70
       by_cases c8 : t389 = true
       ·subst c8
        rw [if_pos rfl] at H
        have H' := Aside0.mk H
        clear H
        try go_wp2
        have n0_ := Aside0.mk (below_drew1 HB.out)
        clear HB
        have HB := n0_
        clear n0_
        have p387 : 0 ≤ (x5_1 : Int) := of_decide_eq_true (za _)
        have q387 : x5_1 < (l0.length : Int) := of_decide_eq_true (za _)
        obtain ⟨ad387, A387_5, c387_5, e387, hx387_0, hx387_1, hx387_2, hx387_3, hx387_4, hx387_5, hl387_5, hi387_5⟩ := at_T71 HR0.out x5_1 p387 q387
        have hw387_5 := hx387_5
        have hw387_4 := hx387_4
        have hw387_3 := hx387_3
        have hw387_2 := hx387_2
        have hw387_1 := hx387_1
        have hw387_0 := hx387_0
        cases e387
        replace hx387_0 := zx HB hx387_0
        replace hx387_1 := zx HB hx387_1
        replace hx387_2 := zx HB hx387_2
        replace hx387_3 := zx HB hx387_3
        replace hx387_4 := zx HB hx387_4
        replace hx387_5 := zx HB hx387_5
        have HR387_5 := Aside0.mk hi387_5
        have HC387_5 := Aside0.mk hl387_5
        clear hi387_5 hl387_5
        replace p387 := eq_true p387
        replace q387 := eq_true q387
        have p388 : 0 ≤ (x5_1 : Int) := of_decide_eq_true (za _)
        have q388 : x5_1 < (l1.length : Int) := of_decide_eq_true (za _)
        obtain ⟨ad388, A388_5, c388_5, e388, hx388_0, hx388_1, hx388_2, hx388_3, hx388_4, hx388_5, hl388_5, hi388_5⟩ := at_T71 HR1.out x5_1 p388 q388
        have hw388_5 := hx388_5
        have hw388_4 := hx388_4
        have hw388_3 := hx388_3
        have hw388_2 := hx388_2
        have hw388_1 := hx388_1
        have hw388_0 := hx388_0
        cases e388
        replace hx388_0 := zx HB hx388_0
        replace hx388_1 := zx HB hx388_1
        replace hx388_2 := zx HB hx388_2
        replace hx388_3 := zx HB hx388_3
        replace hx388_4 := zx HB hx388_4
        replace hx388_5 := zx HB hx388_5
        have HR388_5 := Aside0.mk hi388_5
        have HC388_5 := Aside0.mk hl388_5
        clear hi388_5 hl388_5
        replace p388 := eq_true p388
        replace q388 := eq_true q388
        refine start_ (n := 10) (S := fun w' => w'.cell? (ad387.add ((x5_1).toNat * 6)) = some (.string ((rd_T71 l0 x5_1).f0)) ∧ w'.cell? ⟨(ad387.add ((x5_1).toNat * 6)).block, (ad387.add ((x5_1).toNat * 6)).off + 1, none⟩ = some (.int .i64 ((rd_T71 l0 x5_1).f1)) ∧ w'.cell? ⟨(ad387.add ((x5_1).toNat * 6)).block, (ad387.add ((x5_1).toNat * 6)).off + 2, none⟩ = some (.int .i64 ((rd_T71 l0 x5_1).f2)) ∧ w'.cell? ⟨(ad387.add ((x5_1).toNat * 6)).block, (ad387.add ((x5_1).toNat * 6)).off + 3, none⟩ = some (.int .i64 ((rd_T71 l0 x5_1).f3)) ∧ w'.cell? ⟨(ad387.add ((x5_1).toNat * 6)).block, (ad387.add ((x5_1).toNat * 6)).off + 4, none⟩ = some (.string ((rd_T71 l0 x5_1).f4)) ∧ w'.cell? ⟨(ad387.add ((x5_1).toNat * 6)).block, (ad387.add ((x5_1).toNat * 6)).off + 5, none⟩ = some (.slice A387_5 ((rd_T71 l0 x5_1).f5).length c387_5) ∧ w'.cell? (ad388.add ((x5_1).toNat * 6)) = some (.string ((rd_T71 l1 x5_1).f0)) ∧ w'.cell? ⟨(ad388.add ((x5_1).toNat * 6)).block, (ad388.add ((x5_1).toNat * 6)).off + 1, none⟩ = some (.int .i64 ((rd_T71 l1 x5_1).f1)) ∧ w'.cell? ⟨(ad388.add ((x5_1).toNat * 6)).block, (ad388.add ((x5_1).toNat * 6)).off + 2, none⟩ = some (.int .i64 ((rd_T71 l1 x5_1).f2)) ∧ w'.cell? ⟨(ad388.add ((x5_1).toNat * 6)).block, (ad388.add ((x5_1).toNat * 6)).off + 3, none⟩ = some (.int .i64 ((rd_T71 l1 x5_1).f3)) ∧ w'.cell? ⟨(ad388.add ((x5_1).toNat * 6)).block, (ad388.add ((x5_1).toNat * 6)).off + 4, none⟩ = some (.string ((rd_T71 l1 x5_1).f4)) ∧ w'.cell? ⟨(ad388.add ((x5_1).toNat * 6)).block, (ad388.add ((x5_1).toNat * 6)).off + 5, none⟩ = some (.slice A388_5 ((rd_T71 l1 x5_1).f5).length c388_5)) (ds := []) (zm 10 0) (by kernel_rfl) rfl rfl ⟨(zx HB hw387_0), (zx HB hw387_1), (zx HB hw387_2), (zx HB hw387_3), (zx HB hw387_4), (zx HB hw387_5), (zx HB hw388_0), (zx HB hw388_1), (zx HB hw388_2), (zx HB hw388_3), (zx HB hw388_4), (zx HB hw388_5)⟩ (fun hHeld => ?_); refine with_tabW laws_eqSectionS.tab6 laws_eqSectionS.bits6 (fun HT_ HW_ => ?_)
        generalize wr.drew = w9 at HB HR387_5 HR388_5 hx387_0 hx387_1 hx387_2 hx387_3 hx387_4 hx387_5 hx388_0 hx388_1 hx388_2 hx388_3 hx388_4 hx388_5 hHeld ⊢
        refine zp 0 17 (zm 10 1) ?_
        refine zp 1 18 (zm 10 3) ?_
        refine zp 2 19 (zm 10 7) ?_
        refine zp 4 21 (zm 10 23) ?_
        refine zp 5 22 (zm 10 55) ?_
        refine zp 6 23 (zm 10 119) ?_
        refine zy 3 20 (zm 10 127) hHeld ?_
        refine zy 7 24 (zm 10 255) hHeld ?_
        refine one_ (i := 8) (N := some 25) (zm 10 511) rfl rfl (one_of HT_.out (by kernel_rfl)) (by decide) (fun K hK => ?_)
        refine zi Tryz.func64 #[.agg #[.string ((rd_T71 l0 x5_1).f0), .int .i64 ((rd_T71 l0 x5_1).f1), .int .i64 ((rd_T71 l0 x5_1).f2), .int .i64 ((rd_T71 l0 x5_1).f3), .string ((rd_T71 l0 x5_1).f4), .slice A387_5 ((rd_T71 l0 x5_1).f5).length c387_5], .agg #[.string ((rd_T71 l1 x5_1).f0), .int .i64 ((rd_T71 l1 x5_1).f1), .int .i64 ((rd_T71 l1 x5_1).f2), .int .i64 ((rd_T71 l1 x5_1).f3), .string ((rd_T71 l1 x5_1).f4), .slice A388_5 ((rd_T71 l1 x5_1).f5).length c388_5]] ?_
        with_reducible refine (laws_eqSection.calls k1 ((rd_T71 l0 x5_1).f0) ((rd_T71 l0 x5_1).f1) ((rd_T71 l0 x5_1).f2) ((rd_T71 l0 x5_1).f3) ((rd_T71 l0 x5_1).f4) _ _ ((rd_T71 l0 x5_1).f5) ((rd_T71 l1 x5_1).f0) ((rd_T71 l1 x5_1).f1) ((rd_T71 l1 x5_1).f2) ((rd_T71 l1 x5_1).f3) ((rd_T71 l1 x5_1).f4) _ _ ((rd_T71 l1 x5_1).f5) true _ ?side1 ?side2 ?side3 ?side4 A7.out).mono ?_
        (case side1 => repeat (first | exact (Kd.C_below HR387_5.out HB.out) | (with_reducible refine Kd.C_alloc ?_ _) | (with_reducible refine Kd.C_drewN ?_ _) | (with_reducible refine Kd.C_drew ?_)))
        (case side2 => exact HC387_5.out)
        (case side3 => repeat (first | exact (Kd.C_below HR388_5.out HB.out) | (with_reducible refine Kd.C_alloc ?_ _) | (with_reducible refine Kd.C_drewN ?_ _) | (with_reducible refine Kd.C_drew ?_)))
        (case side4 => exact HC388_5.out)
        rintro e w10 ⟨rfl, hb⟩
        refine ⟨_, rfl, ?_⟩
        have n0_ := zt w hb
        clear HB
        have HB := n0_
        clear n0_
        (try clear hb)
        (try clear hb2)
        (try clear hk)
        (try clear hi)
        refine hK.out _ _ ⟨(zx HB hw387_0), (zx HB hw387_1), (zx HB hw387_2), (zx HB hw387_3), (zx HB hw387_4), (zx HB hw387_5), (zx HB hw388_0), (zx HB hw388_1), (zx HB hw388_2), (zx HB hw388_3), (zx HB hw388_4), (zx HB hw388_5)⟩ (fun hHeld => ?_)
        clear hK K
        refine zq ?_
        refine zp 9 26 (zm 10 1023) ?_
        refine done_ (done_of HT_.out (by kernel_rfl)) ?_
        try go_wp2
        go_roundg k1
        case measure => have := HK1.out; omega
        case rel => exact ⟨(wrap64 (x5_1 + 1)), (zE _), H', ⟨by have := HK1.out; omega⟩, ⟨zb _⟩⟩
       ·replace c8 := Bool.eq_false_iff.mpr c8
        subst c8
        rw [if_neg (show ¬ (false = true) by decide)] at H
        obtain rfl := Option.some.inj H
        try go_wp2
        have n0_ := Aside0.mk (below_drew1 HB.out)
        clear HB
        have HB := n0_
        clear n0_
        have p387 : 0 ≤ (x5_1 : Int) := of_decide_eq_true (za _)
        have q387 : x5_1 < (l0.length : Int) := of_decide_eq_true (za _)
        obtain ⟨ad387, A387_5, c387_5, e387, hx387_0, hx387_1, hx387_2, hx387_3, hx387_4, hx387_5, hl387_5, hi387_5⟩ := at_T71 HR0.out x5_1 p387 q387
        have hw387_5 := hx387_5
        have hw387_4 := hx387_4
        have hw387_3 := hx387_3
        have hw387_2 := hx387_2
        have hw387_1 := hx387_1
        have hw387_0 := hx387_0
        cases e387
        replace hx387_0 := zx HB hx387_0
        replace hx387_1 := zx HB hx387_1
        replace hx387_2 := zx HB hx387_2
        replace hx387_3 := zx HB hx387_3
        replace hx387_4 := zx HB hx387_4
        replace hx387_5 := zx HB hx387_5
        have HR387_5 := Aside0.mk hi387_5
        have HC387_5 := Aside0.mk hl387_5
        clear hi387_5 hl387_5
        replace p387 := eq_true p387
        replace q387 := eq_true q387
        have p388 : 0 ≤ (x5_1 : Int) := of_decide_eq_true (za _)
        have q388 : x5_1 < (l1.length : Int) := of_decide_eq_true (za _)
        obtain ⟨ad388, A388_5, c388_5, e388, hx388_0, hx388_1, hx388_2, hx388_3, hx388_4, hx388_5, hl388_5, hi388_5⟩ := at_T71 HR1.out x5_1 p388 q388
        have hw388_5 := hx388_5
        have hw388_4 := hx388_4
        have hw388_3 := hx388_3
        have hw388_2 := hx388_2
        have hw388_1 := hx388_1
        have hw388_0 := hx388_0
        cases e388
        replace hx388_0 := zx HB hx388_0
        replace hx388_1 := zx HB hx388_1
        replace hx388_2 := zx HB hx388_2
        replace hx388_3 := zx HB hx388_3
        replace hx388_4 := zx HB hx388_4
        replace hx388_5 := zx HB hx388_5
        have HR388_5 := Aside0.mk hi388_5
        have HC388_5 := Aside0.mk hl388_5
        clear hi388_5 hl388_5
        replace p388 := eq_true p388
        replace q388 := eq_true q388
        refine start_ (n := 10) (S := fun w' => w'.cell? (ad387.add ((x5_1).toNat * 6)) = some (.string ((rd_T71 l0 x5_1).f0)) ∧ w'.cell? ⟨(ad387.add ((x5_1).toNat * 6)).block, (ad387.add ((x5_1).toNat * 6)).off + 1, none⟩ = some (.int .i64 ((rd_T71 l0 x5_1).f1)) ∧ w'.cell? ⟨(ad387.add ((x5_1).toNat * 6)).block, (ad387.add ((x5_1).toNat * 6)).off + 2, none⟩ = some (.int .i64 ((rd_T71 l0 x5_1).f2)) ∧ w'.cell? ⟨(ad387.add ((x5_1).toNat * 6)).block, (ad387.add ((x5_1).toNat * 6)).off + 3, none⟩ = some (.int .i64 ((rd_T71 l0 x5_1).f3)) ∧ w'.cell? ⟨(ad387.add ((x5_1).toNat * 6)).block, (ad387.add ((x5_1).toNat * 6)).off + 4, none⟩ = some (.string ((rd_T71 l0 x5_1).f4)) ∧ w'.cell? ⟨(ad387.add ((x5_1).toNat * 6)).block, (ad387.add ((x5_1).toNat * 6)).off + 5, none⟩ = some (.slice A387_5 ((rd_T71 l0 x5_1).f5).length c387_5) ∧ w'.cell? (ad388.add ((x5_1).toNat * 6)) = some (.string ((rd_T71 l1 x5_1).f0)) ∧ w'.cell? ⟨(ad388.add ((x5_1).toNat * 6)).block, (ad388.add ((x5_1).toNat * 6)).off + 1, none⟩ = some (.int .i64 ((rd_T71 l1 x5_1).f1)) ∧ w'.cell? ⟨(ad388.add ((x5_1).toNat * 6)).block, (ad388.add ((x5_1).toNat * 6)).off + 2, none⟩ = some (.int .i64 ((rd_T71 l1 x5_1).f2)) ∧ w'.cell? ⟨(ad388.add ((x5_1).toNat * 6)).block, (ad388.add ((x5_1).toNat * 6)).off + 3, none⟩ = some (.int .i64 ((rd_T71 l1 x5_1).f3)) ∧ w'.cell? ⟨(ad388.add ((x5_1).toNat * 6)).block, (ad388.add ((x5_1).toNat * 6)).off + 4, none⟩ = some (.string ((rd_T71 l1 x5_1).f4)) ∧ w'.cell? ⟨(ad388.add ((x5_1).toNat * 6)).block, (ad388.add ((x5_1).toNat * 6)).off + 5, none⟩ = some (.slice A388_5 ((rd_T71 l1 x5_1).f5).length c388_5)) (ds := []) (zm 10 0) (by kernel_rfl) rfl rfl ⟨(zx HB hw387_0), (zx HB hw387_1), (zx HB hw387_2), (zx HB hw387_3), (zx HB hw387_4), (zx HB hw387_5), (zx HB hw388_0), (zx HB hw388_1), (zx HB hw388_2), (zx HB hw388_3), (zx HB hw388_4), (zx HB hw388_5)⟩ (fun hHeld => ?_); refine with_tabW laws_eqSectionS.tab6 laws_eqSectionS.bits6 (fun HT_ HW_ => ?_)
        generalize wr.drew = w11 at HB HR387_5 HR388_5 hx387_0 hx387_1 hx387_2 hx387_3 hx387_4 hx387_5 hx388_0 hx388_1 hx388_2 hx388_3 hx388_4 hx388_5 hHeld ⊢
        refine zp 0 17 (zm 10 1) ?_
        refine zp 1 18 (zm 10 3) ?_
        refine zp 2 19 (zm 10 7) ?_
        refine zp 4 21 (zm 10 23) ?_
        refine zp 5 22 (zm 10 55) ?_
        refine zp 6 23 (zm 10 119) ?_
        refine zy 3 20 (zm 10 127) hHeld ?_
        refine zy 7 24 (zm 10 255) hHeld ?_
        refine one_ (i := 8) (N := some 25) (zm 10 511) rfl rfl (one_of HT_.out (by kernel_rfl)) (by decide) (fun K hK => ?_)
        refine zi Tryz.func64 #[.agg #[.string ((rd_T71 l0 x5_1).f0), .int .i64 ((rd_T71 l0 x5_1).f1), .int .i64 ((rd_T71 l0 x5_1).f2), .int .i64 ((rd_T71 l0 x5_1).f3), .string ((rd_T71 l0 x5_1).f4), .slice A387_5 ((rd_T71 l0 x5_1).f5).length c387_5], .agg #[.string ((rd_T71 l1 x5_1).f0), .int .i64 ((rd_T71 l1 x5_1).f1), .int .i64 ((rd_T71 l1 x5_1).f2), .int .i64 ((rd_T71 l1 x5_1).f3), .string ((rd_T71 l1 x5_1).f4), .slice A388_5 ((rd_T71 l1 x5_1).f5).length c388_5]] ?_
        with_reducible refine (laws_eqSection.calls k1 ((rd_T71 l0 x5_1).f0) ((rd_T71 l0 x5_1).f1) ((rd_T71 l0 x5_1).f2) ((rd_T71 l0 x5_1).f3) ((rd_T71 l0 x5_1).f4) _ _ ((rd_T71 l0 x5_1).f5) ((rd_T71 l1 x5_1).f0) ((rd_T71 l1 x5_1).f1) ((rd_T71 l1 x5_1).f2) ((rd_T71 l1 x5_1).f3) ((rd_T71 l1 x5_1).f4) _ _ ((rd_T71 l1 x5_1).f5) false _ ?side1 ?side2 ?side3 ?side4 A7.out).mono ?_
        (case side1 => repeat (first | exact (Kd.C_below HR387_5.out HB.out) | (with_reducible refine Kd.C_alloc ?_ _) | (with_reducible refine Kd.C_drewN ?_ _) | (with_reducible refine Kd.C_drew ?_)))
        (case side2 => exact HC387_5.out)
        (case side3 => repeat (first | exact (Kd.C_below HR388_5.out HB.out) | (with_reducible refine Kd.C_alloc ?_ _) | (with_reducible refine Kd.C_drewN ?_ _) | (with_reducible refine Kd.C_drew ?_)))
        (case side4 => exact HC388_5.out)
        rintro e w12 ⟨rfl, hb⟩
        refine ⟨_, rfl, ?_⟩
        have n0_ := zt w hb
        clear HB
        have HB := n0_
        clear n0_
        (try clear hb)
        (try clear hb2)
        (try clear hk)
        (try clear hi)
        refine hK.out _ _ ⟨(zx HB hw387_0), (zx HB hw387_1), (zx HB hw387_2), (zx HB hw387_3), (zx HB hw387_4), (zx HB hw387_5), (zx HB hw388_0), (zx HB hw388_1), (zx HB hw388_2), (zx HB hw388_3), (zx HB hw388_4), (zx HB hw388_5)⟩ (fun hHeld => ?_)
        clear hK K
        refine zq ?_
        refine zp 9 26 (zm 10 1023) ?_
        refine done_ (done_of HT_.out (by kernel_rfl)) ?_
        try go_wp2
        go_ret
        exact ⟨ze _, zb _⟩
      ·rw [if_neg c6] at H
       exact absurd H (by simp)
     ·rw [if_neg c5] at H
      exact absurd H (by simp)
    ·rw [if_neg c4] at H
     have c4b0 : decide (x5_1 < (l0.length : Int)) = false := decide_eq_false c4
     clear c4
     obtain rfl := Option.some.inj H
     go_wp2
     go_ret
     exact ⟨ze _, zb _⟩
 ·rw [if_neg c3] at H
  have c3b0 : ((l0.length : Int) == (l1.length : Int)) = false := beq_eq_false_iff_ne.mpr c3
  have c3b1 : ((l0.length : Int) != (l1.length : Int)) = true := bne_iff_ne.mpr c3
  have c3b2 : (l0.length == l1.length) = false := by first | simpa using c3 | (simp at c3 ⊢; omega)
  obtain rfl := Option.some.inj H
  go_enter Tryz.func24, Tryz.ntmps24
  go_wp2
  go_ret
  exact ⟨ze _, zb _⟩

def laws_eqOSym.f (a0_0 : ByteArray) (a0_1 : Int) (a0_2 : Int) (a0_3 : Bool) (a1_0 : ByteArray) (a1_1 : Int) (a1_2 : Int) (a1_3 : Bool) : Option (Bool) := if a0_0.toList = a1_0.toList then (if a0_1 = a1_1 then (if a0_2 = a1_2 then (if (a0_3 != a1_3) = true then (some false) else (some true)) else (some false)) else (some false)) else (some false)
set_option maxHeartbeats 8000000 in
set_option maxRecDepth 100000 in
theorem laws_eqOSym.calls (a0_0 : ByteArray) (a0_1 : Int) (a0_2 : Int) (a0_3 : Bool) (a1_0 : ByteArray) (a1_1 : Int) (a1_2 : Int) (a1_3 : Bool) (r : Bool) (w : World) (h : laws_eqOSym.f a0_0 a0_1 a0_2 a0_3 a1_0 a1_1 a1_2 a1_3 = some r) :
 Calls Tryz.prog 65 #[.agg #[.string a0_0, .int .i64 a0_1, .int .i64 a0_2, .bool a0_3], .agg #[.string a1_0, .int .i64 a1_1, .int .i64 a1_2, .bool a1_3]] w fun e w' => e = .returned (.bool r) ∧ Below w.heap.size w w' := by
 have hu72 := Tryz.underlying72
 have HB := Aside0.mk (Below.refl w.heap.size w)
 have H : (if a0_0.toList = a1_0.toList then (if a0_1 = a1_1 then (if a0_2 = a1_2 then (if (a0_3 != a1_3) = true then (some false) else (some true)) else (some false)) else (some false)) else (some false)) = some r := h
 clear h
 by_cases c3 : a0_0.toList = a1_0.toList
 ·rw [if_pos c3] at H
  have c3b0 : (a0_0.toList == a1_0.toList) = true := beq_iff_eq.mpr c3
  have c3b1 : (a0_0.toList != a1_0.toList) = false := bne_eq_false_iff_eq.mpr c3
  clear c3
  by_cases c4 : a0_1 = a1_1
  ·rw [if_pos c4] at H
   have c4b0 : (a0_1 == a1_1) = true := beq_iff_eq.mpr c4
   have c4b1 : (a0_1 != a1_1) = false := bne_eq_false_iff_eq.mpr c4
   clear c4
   by_cases c5 : a0_2 = a1_2
   ·rw [if_pos c5] at H
    have c5b0 : (a0_2 == a1_2) = true := beq_iff_eq.mpr c5
    have c5b1 : (a0_2 != a1_2) = false := bne_eq_false_iff_eq.mpr c5
    clear c5
    by_cases c6 : (a0_3 != a1_3) = true
    ·rw [if_pos c6] at H
     have c6b0 : (a0_3 != a1_3) = true := c6
     (try (have c6b1 : decide (a0_3 = a1_3) = false := by simpa using c6))
     (try (have c6b2 : (a0_3 == a1_3) = false := by simpa using c6))
     (try (have c6b3 : ¬ (a0_3 = a1_3) := by simpa using c6))
     clear c6
     obtain rfl := Option.some.inj H
     go_enter Tryz.func65, Tryz.ntmps65
     go_wp2_with (first | ((with_reducible refine gate_dst (N := 2) rfl ?_); refine zbx 2 #[.string a0_0, .int .i64 a0_1, .int .i64 a0_2, .bool a0_3] 72 ?_; intro gb390 hg w7 hbox hb; have BK390 := Aside0.mk (hbox); have GW390 := zs w hg; have GE390 := GW390; replace HB := zt w hb; clear hb hbox hg) | ((with_reducible refine gate_dst (N := 3) rfl ?_); refine zbx 3 #[.string a1_0, .int .i64 a1_1, .int .i64 a1_2, .bool a1_3] 72 ?_; intro gb391 hg w8 hbox hb; have BK391 := Aside0.mk (hbox); have GW391 := zs w hg; have GE391 := GW391; have NB390_391 := zlt BK390 hg; have NB391_390 := zgt (zlt BK390 hg); replace BK390 := zk BK390 hb; replace HB := zt w hb; clear hb hbox hg; have hnb9 := NB390_391.out; have hnc9 := NB391_390.out; have hcz10_0 := zc0 BK390; have hcz10_1 := zc1 BK390; have hcz10_2 := zc2 BK390; have hcz10_3 := zc3 BK390; have hfz10_0 := blk_frozen BK390.out 0; have hfz10_1 := blk_frozen BK390.out 1; have hfz10_2 := blk_frozen BK390.out 2; have hfz10_3 := blk_frozen BK390.out 3; have hcz11_0 := zc0 BK391; have hcz11_1 := zc1 BK391; have hcz11_2 := zc2 BK391; have hcz11_3 := zc3 BK391; have hfz11_0 := blk_frozen BK391.out 0; have hfz11_1 := blk_frozen BK391.out 1; have hfz11_2 := blk_frozen BK391.out 2; have hfz11_3 := blk_frozen BK391.out 3))
     go_ret
     exact ⟨ze _, zb _⟩
    ·rw [if_neg c6] at H
     have c6b0 : (a0_3 != a1_3) = false := by simpa using c6
     (try (have c6b1 : decide (a0_3 = a1_3) = true := by simpa using c6))
     (try (have c6b2 : (a0_3 == a1_3) = true := by simpa using c6))
     clear c6
     obtain rfl := Option.some.inj H
     go_enter Tryz.func65, Tryz.ntmps65
     go_wp2_with (first | ((with_reducible refine gate_dst (N := 2) rfl ?_); refine zbx 2 #[.string a0_0, .int .i64 a0_1, .int .i64 a0_2, .bool a0_3] 72 ?_; intro gb390 hg w12 hbox hb; have BK390 := Aside0.mk (hbox); have GW390 := zs w hg; have GE390 := GW390; replace HB := zt w hb; clear hb hbox hg) | ((with_reducible refine gate_dst (N := 3) rfl ?_); refine zbx 3 #[.string a1_0, .int .i64 a1_1, .int .i64 a1_2, .bool a1_3] 72 ?_; intro gb391 hg w13 hbox hb; have BK391 := Aside0.mk (hbox); have GW391 := zs w hg; have GE391 := GW391; have NB390_391 := zlt BK390 hg; have NB391_390 := zgt (zlt BK390 hg); replace BK390 := zk BK390 hb; replace HB := zt w hb; clear hb hbox hg; have hnb14 := NB390_391.out; have hnc14 := NB391_390.out; have hcz15_0 := zc0 BK390; have hcz15_1 := zc1 BK390; have hcz15_2 := zc2 BK390; have hcz15_3 := zc3 BK390; have hfz15_0 := blk_frozen BK390.out 0; have hfz15_1 := blk_frozen BK390.out 1; have hfz15_2 := blk_frozen BK390.out 2; have hfz15_3 := blk_frozen BK390.out 3; have hcz16_0 := zc0 BK391; have hcz16_1 := zc1 BK391; have hcz16_2 := zc2 BK391; have hcz16_3 := zc3 BK391; have hfz16_0 := blk_frozen BK391.out 0; have hfz16_1 := blk_frozen BK391.out 1; have hfz16_2 := blk_frozen BK391.out 2; have hfz16_3 := blk_frozen BK391.out 3))
     go_ret
     exact ⟨ze _, zb _⟩
   ·rw [if_neg c5] at H
    have c5b0 : (a0_2 == a1_2) = false := beq_eq_false_iff_ne.mpr c5
    have c5b1 : (a0_2 != a1_2) = true := bne_iff_ne.mpr c5
    obtain rfl := Option.some.inj H
    go_enter Tryz.func65, Tryz.ntmps65
    go_wp2_with (first | ((with_reducible refine gate_dst (N := 2) rfl ?_); refine zbx 2 #[.string a0_0, .int .i64 a0_1, .int .i64 a0_2, .bool a0_3] 72 ?_; intro gb390 hg w17 hbox hb; have BK390 := Aside0.mk (hbox); have GW390 := zs w hg; have GE390 := GW390; replace HB := zt w hb; clear hb hbox hg) | ((with_reducible refine gate_dst (N := 3) rfl ?_); refine zbx 3 #[.string a1_0, .int .i64 a1_1, .int .i64 a1_2, .bool a1_3] 72 ?_; intro gb391 hg w18 hbox hb; have BK391 := Aside0.mk (hbox); have GW391 := zs w hg; have GE391 := GW391; have NB390_391 := zlt BK390 hg; have NB391_390 := zgt (zlt BK390 hg); replace BK390 := zk BK390 hb; replace HB := zt w hb; clear hb hbox hg; have hnb19 := NB390_391.out; have hnc19 := NB391_390.out; have hcz20_0 := zc0 BK390; have hcz20_1 := zc1 BK390; have hcz20_2 := zc2 BK390; have hcz20_3 := zc3 BK390; have hfz20_0 := blk_frozen BK390.out 0; have hfz20_1 := blk_frozen BK390.out 1; have hfz20_2 := blk_frozen BK390.out 2; have hfz20_3 := blk_frozen BK390.out 3; have hcz21_0 := zc0 BK391; have hcz21_1 := zc1 BK391; have hcz21_2 := zc2 BK391; have hcz21_3 := zc3 BK391; have hfz21_0 := blk_frozen BK391.out 0; have hfz21_1 := blk_frozen BK391.out 1; have hfz21_2 := blk_frozen BK391.out 2; have hfz21_3 := blk_frozen BK391.out 3))
    go_ret
    exact ⟨ze _, zb _⟩
  ·rw [if_neg c4] at H
   have c4b0 : (a0_1 == a1_1) = false := beq_eq_false_iff_ne.mpr c4
   have c4b1 : (a0_1 != a1_1) = true := bne_iff_ne.mpr c4
   obtain rfl := Option.some.inj H
   go_enter Tryz.func65, Tryz.ntmps65
   go_wp2_with (first | ((with_reducible refine gate_dst (N := 2) rfl ?_); refine zbx 2 #[.string a0_0, .int .i64 a0_1, .int .i64 a0_2, .bool a0_3] 72 ?_; intro gb390 hg w22 hbox hb; have BK390 := Aside0.mk (hbox); have GW390 := zs w hg; have GE390 := GW390; replace HB := zt w hb; clear hb hbox hg) | ((with_reducible refine gate_dst (N := 3) rfl ?_); refine zbx 3 #[.string a1_0, .int .i64 a1_1, .int .i64 a1_2, .bool a1_3] 72 ?_; intro gb391 hg w23 hbox hb; have BK391 := Aside0.mk (hbox); have GW391 := zs w hg; have GE391 := GW391; have NB390_391 := zlt BK390 hg; have NB391_390 := zgt (zlt BK390 hg); replace BK390 := zk BK390 hb; replace HB := zt w hb; clear hb hbox hg; have hnb24 := NB390_391.out; have hnc24 := NB391_390.out; have hcz25_0 := zc0 BK390; have hcz25_1 := zc1 BK390; have hcz25_2 := zc2 BK390; have hcz25_3 := zc3 BK390; have hfz25_0 := blk_frozen BK390.out 0; have hfz25_1 := blk_frozen BK390.out 1; have hfz25_2 := blk_frozen BK390.out 2; have hfz25_3 := blk_frozen BK390.out 3; have hcz26_0 := zc0 BK391; have hcz26_1 := zc1 BK391; have hcz26_2 := zc2 BK391; have hcz26_3 := zc3 BK391; have hfz26_0 := blk_frozen BK391.out 0; have hfz26_1 := blk_frozen BK391.out 1; have hfz26_2 := blk_frozen BK391.out 2; have hfz26_3 := blk_frozen BK391.out 3))
   go_ret
   exact ⟨ze _, zb _⟩
 ·rw [if_neg c3] at H
  have c3b0 : (a0_0.toList == a1_0.toList) = false := beq_eq_false_iff_ne.mpr c3
  have c3b1 : (a0_0.toList != a1_0.toList) = true := bne_iff_ne.mpr c3
  obtain rfl := Option.some.inj H
  go_enter Tryz.func65, Tryz.ntmps65
  go_wp2_with (first | ((with_reducible refine gate_dst (N := 2) rfl ?_); refine zbx 2 #[.string a0_0, .int .i64 a0_1, .int .i64 a0_2, .bool a0_3] 72 ?_; intro gb390 hg w27 hbox hb; have BK390 := Aside0.mk (hbox); have GW390 := zs w hg; have GE390 := GW390; replace HB := zt w hb; clear hb hbox hg) | ((with_reducible refine gate_dst (N := 3) rfl ?_); refine zbx 3 #[.string a1_0, .int .i64 a1_1, .int .i64 a1_2, .bool a1_3] 72 ?_; intro gb391 hg w28 hbox hb; have BK391 := Aside0.mk (hbox); have GW391 := zs w hg; have GE391 := GW391; have NB390_391 := zlt BK390 hg; have NB391_390 := zgt (zlt BK390 hg); replace BK390 := zk BK390 hb; replace HB := zt w hb; clear hb hbox hg; have hnb29 := NB390_391.out; have hnc29 := NB391_390.out; have hcz30_0 := zc0 BK390; have hcz30_1 := zc1 BK390; have hcz30_2 := zc2 BK390; have hcz30_3 := zc3 BK390; have hfz30_0 := blk_frozen BK390.out 0; have hfz30_1 := blk_frozen BK390.out 1; have hfz30_2 := blk_frozen BK390.out 2; have hfz30_3 := blk_frozen BK390.out 3; have hcz31_0 := zc0 BK391; have hcz31_1 := zc1 BK391; have hcz31_2 := zc2 BK391; have hcz31_3 := zc3 BK391; have hfz31_0 := blk_frozen BK391.out 0; have hfz31_1 := blk_frozen BK391.out 1; have hfz31_2 := blk_frozen BK391.out 2; have hfz31_3 := blk_frozen BK391.out 3))
  go_ret
  exact ⟨ze _, zb _⟩

end Go.Proofs.YtlacpadpdfccmaaGreatDoor.PFnExactObjectText
namespace Go.Proofs.YtlacpadpdfccmaaGreatDoor.PFnExactObjectText
open Go.RowKit Go.Proofs.YtlacpadpdfccmaaGreatDoor.Z Go.Proofs.YtlacpadpdfccmaaGreatDoorW.PrintWords Go.Proofs.YtlacpadpdfccmaaGreatDoorW.PrintLast Go.Proofs.YtlacpadpdfccmaaGreatDoorW.PrintMore
attribute [local go_sem] max2_int min2_int max_two min_two max_three min_three max_four min_four   -- for this text's walks alone
set_option linter.unusedVariables false
set_option linter.unusedSimpArgs false

def laws_eqOSymS.l0 : Nat → List (S72) → List (S72) → Int → Option (Bool)
  | 0, _, _, _ => none
  | k + 1, x0, x1, x5 => if x5 < (x0.length : Int) then (if 0 ≤ x5 then (if x5 < (x1.length : Int) then ((laws_eqOSym.f ((rd_T72 x0 x5).f0) ((rd_T72 x0 x5).f1) ((rd_T72 x0 x5).f2) ((rd_T72 x0 x5).f3) ((rd_T72 x1 x5).f0) ((rd_T72 x1 x5).f1) ((rd_T72 x1 x5).f2) ((rd_T72 x1 x5).f3)).bind fun t394 => (if t394 = true then (laws_eqOSymS.l0 k x0 x1 (wrap64 (x5 + 1))) else (some false))) else (none)) else (none)) else (some true)
def laws_eqOSymS.f (k : Nat) (l0 : List (S72)) (l1 : List (S72)) : Option (Bool) := if (l0.length : Int) = (l1.length : Int) then (laws_eqOSymS.l0 k l0 l1 0) else (some false)
theorem laws_eqOSymS.mono_l : ∀ k, (∀ y0 y1 y2, LeO (laws_eqOSymS.l0 k y0 y1 y2) (laws_eqOSymS.l0 (k + 1) y0 y1 y2))
  | 0 => fun _ _ _ r h => by simp [laws_eqOSymS.l0] at h
  | k + 1 => by
    have ih0 := laws_eqOSymS.mono_l k
    · intro y0 y1 y2
      unfold laws_eqOSymS.l0
      repeat' with_reducible first | exact ih0 _ _ _ | exact LeO.refl _ | exact LeO.none _ | refine LeO.ite ?_ ?_ | refine LeO.bind ?_ (fun _ => ?_)
theorem laws_eqOSymS.mono : ∀ a0 a1 k, LeO (laws_eqOSymS.f k a0 a1) (laws_eqOSymS.f (k + 1) a0 a1) := by
  intro a0 a1 k
  have ih0 := laws_eqOSymS.mono_l k
  unfold laws_eqOSymS.f
  repeat' with_reducible first | exact ih0 _ _ _ | exact LeO.refl _ | exact LeO.none _ | refine LeO.ite ?_ ?_ | refine LeO.bind ?_ (fun _ => ?_)
def laws_eqOSymS.T6 : Bool × List (List Nat × List Nat) := (true, [([], []), ([], []), ([0, 1], [0, 1]), ([2], [2]), ([], []), ([], []), ([4, 5], [4, 5]), ([6], [6]), ([3, 7], [3, 7]), ([8], [8])])
def laws_eqOSymS.B6 : List Nat := [0, 0, 3, 7, 0, 0, 48, 112, 255, 511]
theorem laws_eqOSymS.tab6 : rtab .any (opsOf Tryz.f25 6) = laws_eqOSymS.T6 := by kernel_rfl
theorem laws_eqOSymS.bits6 : waitsOk laws_eqOSymS.T6.2 laws_eqOSymS.B6 = true := by kernel_rfl
set_option maxHeartbeats 8000000 in
set_option maxRecDepth 100000 in
theorem laws_eqOSymS.calls (k : Nat) (A0 : Option Addr) (c0 : Nat) (l0 : List (S72)) (A1 : Option Addr) (c1 : Nat) (l1 : List (S72)) (r : Bool) (w : World) (hr0 : Kd.C k72 w A0 l0.length l0) (hc0 : l0.length ≤ c0) (hr1 : Kd.C k72 w A1 l1.length l1) (hc1 : l1.length ≤ c1) (h : laws_eqOSymS.f k l0 l1 = some r) :
 Calls Tryz.prog 25 #[.slice A0 l0.length c0, .slice A1 l1.length c1] w fun e w' => e = .returned (.bool r) ∧ Below w.heap.size w w' := by
 have hu72 := Tryz.underlying72
 have HR0 := Aside0.mk hr0
 have HC0 := Aside0.mk hc0
 clear hr0 hc0
 have HR1 := Aside0.mk hr1
 have HC1 := Aside0.mk hc1
 clear hr1 hc1
 have HB := Aside0.mk (Below.refl w.heap.size w)
 have H : (if (l0.length : Int) = (l1.length : Int) then (laws_eqOSymS.l0 k l0 l1 0) else (some false)) = some r := h
 clear h
 by_cases c3 : (l0.length : Int) = (l1.length : Int)
 ·rw [if_pos c3] at H
  have c3b0 : ((l0.length : Int) == (l1.length : Int)) = true := beq_iff_eq.mpr c3
  have c3b1 : ((l0.length : Int) != (l1.length : Int)) = false := bne_eq_false_iff_eq.mpr c3
  have c3b2 : (l0.length == l1.length) = true := by first | simpa using c3 | (simp at c3 ⊢; omega)
  clear c3
  have H' := Aside0.mk H
  clear H
  go_enter Tryz.func25, Tryz.ntmps25
  go_wp2
  go_loopg [5] k (fun kq v5 w' => ∃ (x5_1 : Int), v5 = .int .i64 x5_1 ∧ Aside0 (laws_eqOSymS.l0 kq l0 l1 x5_1 = some r) ∧ Aside0 (kq ≤ k) ∧ Aside0 (Below w.heap.size w w'))
  case atStart => exact ⟨(0), (zE _), H', ⟨Nat.le_refl _⟩, ⟨zb _⟩⟩
  case round =>
   clear H'
   obtain ⟨x5_1, rfl, HA, HK1, HB⟩ := hrel
   cases gk with
   | zero => exact absurd HA.out (by simp [laws_eqOSymS.l0])
   | succ k1 =>
    have H := HA.out
    clear HA
    simp only [laws_eqOSymS.l0] at H
    by_cases c4 : x5_1 < (l0.length : Int)
    ·rw [if_pos c4] at H
     have c4b0 : decide (x5_1 < (l0.length : Int)) = true := decide_eq_true c4
     clear c4
     by_cases c5 : 0 ≤ x5_1
     ·rw [if_pos c5] at H
      have c5b0 : decide (0 ≤ x5_1) = true := decide_eq_true c5
      clear c5
      by_cases c6 : x5_1 < (l1.length : Int)
      ·rw [if_pos c6] at H
       have c6b0 : decide (x5_1 < (l1.length : Int)) = true := decide_eq_true c6
       clear c6
       obtain ⟨t394, A70, H⟩ := Option.bind_eq_some_iff.mp H
       have A7 := Aside0.mk A70
       clear A70
       by_cases c8 : t394 = true
       ·subst c8
        rw [if_pos rfl] at H
        have H' := Aside0.mk H
        clear H
        try go_wp2
        have n0_ := Aside0.mk (below_drew1 HB.out)
        clear HB
        have HB := n0_
        clear n0_
        have p392 : 0 ≤ (x5_1 : Int) := of_decide_eq_true (za _)
        have q392 : x5_1 < (l0.length : Int) := of_decide_eq_true (za _)
        obtain ⟨ad392, e392, hx392_0, hx392_1, hx392_2, hx392_3⟩ := at_T72 HR0.out x5_1 p392 q392
        have hw392_3 := hx392_3
        have hw392_2 := hx392_2
        have hw392_1 := hx392_1
        have hw392_0 := hx392_0
        cases e392
        replace hx392_0 := zx HB hx392_0
        replace hx392_1 := zx HB hx392_1
        replace hx392_2 := zx HB hx392_2
        replace hx392_3 := zx HB hx392_3
        replace p392 := eq_true p392
        replace q392 := eq_true q392
        have p393 : 0 ≤ (x5_1 : Int) := of_decide_eq_true (za _)
        have q393 : x5_1 < (l1.length : Int) := of_decide_eq_true (za _)
        obtain ⟨ad393, e393, hx393_0, hx393_1, hx393_2, hx393_3⟩ := at_T72 HR1.out x5_1 p393 q393
        have hw393_3 := hx393_3
        have hw393_2 := hx393_2
        have hw393_1 := hx393_1
        have hw393_0 := hx393_0
        cases e393
        replace hx393_0 := zx HB hx393_0
        replace hx393_1 := zx HB hx393_1
        replace hx393_2 := zx HB hx393_2
        replace hx393_3 := zx HB hx393_3
        replace p393 := eq_true p393
        replace q393 := eq_true q393
        refine start_ (n := 10) (S := fun w' => w'.cell? (ad392.add ((x5_1).toNat * 4)) = some (.string ((rd_T72 l0 x5_1).f0)) ∧ w'.cell? ⟨(ad392.add ((x5_1).toNat * 4)).block, (ad392.add ((x5_1).toNat * 4)).off + 1, none⟩ = some (.int .i64 ((rd_T72 l0 x5_1).f1)) ∧ w'.cell? ⟨(ad392.add ((x5_1).toNat * 4)).block, (ad392.add ((x5_1).toNat * 4)).off + 2, none⟩ = some (.int .i64 ((rd_T72 l0 x5_1).f2)) ∧ w'.cell? ⟨(ad392.add ((x5_1).toNat * 4)).block, (ad392.add ((x5_1).toNat * 4)).off + 3, none⟩ = some (.bool ((rd_T72 l0 x5_1).f3)) ∧ w'.cell? (ad393.add ((x5_1).toNat * 4)) = some (.string ((rd_T72 l1 x5_1).f0)) ∧ w'.cell? ⟨(ad393.add ((x5_1).toNat * 4)).block, (ad393.add ((x5_1).toNat * 4)).off + 1, none⟩ = some (.int .i64 ((rd_T72 l1 x5_1).f1)) ∧ w'.cell? ⟨(ad393.add ((x5_1).toNat * 4)).block, (ad393.add ((x5_1).toNat * 4)).off + 2, none⟩ = some (.int .i64 ((rd_T72 l1 x5_1).f2)) ∧ w'.cell? ⟨(ad393.add ((x5_1).toNat * 4)).block, (ad393.add ((x5_1).toNat * 4)).off + 3, none⟩ = some (.bool ((rd_T72 l1 x5_1).f3))) (ds := []) (zm 10 0) (by kernel_rfl) rfl rfl ⟨(zx HB hw392_0), (zx HB hw392_1), (zx HB hw392_2), (zx HB hw392_3), (zx HB hw393_0), (zx HB hw393_1), (zx HB hw393_2), (zx HB hw393_3)⟩ (fun hHeld => ?_); refine with_tabW laws_eqOSymS.tab6 laws_eqOSymS.bits6 (fun HT_ HW_ => ?_)
        generalize wr.drew = w9 at HB hx392_0 hx392_1 hx392_2 hx392_3 hx393_0 hx393_1 hx393_2 hx393_3 hHeld ⊢
        refine zp 0 17 (zm 10 1) ?_
        refine zp 1 18 (zm 10 3) ?_
        refine zp 2 19 (zm 10 7) ?_
        refine zp 4 21 (zm 10 23) ?_
        refine zp 5 22 (zm 10 55) ?_
        refine zp 6 23 (zm 10 119) ?_
        refine zy 3 20 (zm 10 127) hHeld ?_
        refine zy 7 24 (zm 10 255) hHeld ?_
        refine one_ (i := 8) (N := some 25) (zm 10 511) rfl rfl (one_of HT_.out (by kernel_rfl)) (by decide) (fun K hK => ?_)
        refine zi Tryz.func65 #[.agg #[.string ((rd_T72 l0 x5_1).f0), .int .i64 ((rd_T72 l0 x5_1).f1), .int .i64 ((rd_T72 l0 x5_1).f2), .bool ((rd_T72 l0 x5_1).f3)], .agg #[.string ((rd_T72 l1 x5_1).f0), .int .i64 ((rd_T72 l1 x5_1).f1), .int .i64 ((rd_T72 l1 x5_1).f2), .bool ((rd_T72 l1 x5_1).f3)]] ?_
        with_reducible refine (laws_eqOSym.calls ((rd_T72 l0 x5_1).f0) ((rd_T72 l0 x5_1).f1) ((rd_T72 l0 x5_1).f2) ((rd_T72 l0 x5_1).f3) ((rd_T72 l1 x5_1).f0) ((rd_T72 l1 x5_1).f1) ((rd_T72 l1 x5_1).f2) ((rd_T72 l1 x5_1).f3) true _ A7.out).mono ?_
        rintro e w10 ⟨rfl, hb⟩
        refine ⟨_, rfl, ?_⟩
        have n0_ := zt w hb
        clear HB
        have HB := n0_
        clear n0_
        (try clear hb)
        (try clear hb2)
        (try clear hk)
        (try clear hi)
        refine hK.out _ _ ⟨(zx HB hw392_0), (zx HB hw392_1), (zx HB hw392_2), (zx HB hw392_3), (zx HB hw393_0), (zx HB hw393_1), (zx HB hw393_2), (zx HB hw393_3)⟩ (fun hHeld => ?_)
        clear hK K
        refine zq ?_
        refine zp 9 26 (zm 10 1023) ?_
        refine done_ (done_of HT_.out (by kernel_rfl)) ?_
        try go_wp2
        go_roundg k1
        case measure => have := HK1.out; omega
        case rel => exact ⟨(wrap64 (x5_1 + 1)), (zE _), H', ⟨by have := HK1.out; omega⟩, ⟨zb _⟩⟩
       ·replace c8 := Bool.eq_false_iff.mpr c8
        subst c8
        rw [if_neg (show ¬ (false = true) by decide)] at H
        obtain rfl := Option.some.inj H
        try go_wp2
        have n0_ := Aside0.mk (below_drew1 HB.out)
        clear HB
        have HB := n0_
        clear n0_
        have p392 : 0 ≤ (x5_1 : Int) := of_decide_eq_true (za _)
        have q392 : x5_1 < (l0.length : Int) := of_decide_eq_true (za _)
        obtain ⟨ad392, e392, hx392_0, hx392_1, hx392_2, hx392_3⟩ := at_T72 HR0.out x5_1 p392 q392
        have hw392_3 := hx392_3
        have hw392_2 := hx392_2
        have hw392_1 := hx392_1
        have hw392_0 := hx392_0
        cases e392
        replace hx392_0 := zx HB hx392_0
        replace hx392_1 := zx HB hx392_1
        replace hx392_2 := zx HB hx392_2
        replace hx392_3 := zx HB hx392_3
        replace p392 := eq_true p392
        replace q392 := eq_true q392
        have p393 : 0 ≤ (x5_1 : Int) := of_decide_eq_true (za _)
        have q393 : x5_1 < (l1.length : Int) := of_decide_eq_true (za _)
        obtain ⟨ad393, e393, hx393_0, hx393_1, hx393_2, hx393_3⟩ := at_T72 HR1.out x5_1 p393 q393
        have hw393_3 := hx393_3
        have hw393_2 := hx393_2
        have hw393_1 := hx393_1
        have hw393_0 := hx393_0
        cases e393
        replace hx393_0 := zx HB hx393_0
        replace hx393_1 := zx HB hx393_1
        replace hx393_2 := zx HB hx393_2
        replace hx393_3 := zx HB hx393_3
        replace p393 := eq_true p393
        replace q393 := eq_true q393
        refine start_ (n := 10) (S := fun w' => w'.cell? (ad392.add ((x5_1).toNat * 4)) = some (.string ((rd_T72 l0 x5_1).f0)) ∧ w'.cell? ⟨(ad392.add ((x5_1).toNat * 4)).block, (ad392.add ((x5_1).toNat * 4)).off + 1, none⟩ = some (.int .i64 ((rd_T72 l0 x5_1).f1)) ∧ w'.cell? ⟨(ad392.add ((x5_1).toNat * 4)).block, (ad392.add ((x5_1).toNat * 4)).off + 2, none⟩ = some (.int .i64 ((rd_T72 l0 x5_1).f2)) ∧ w'.cell? ⟨(ad392.add ((x5_1).toNat * 4)).block, (ad392.add ((x5_1).toNat * 4)).off + 3, none⟩ = some (.bool ((rd_T72 l0 x5_1).f3)) ∧ w'.cell? (ad393.add ((x5_1).toNat * 4)) = some (.string ((rd_T72 l1 x5_1).f0)) ∧ w'.cell? ⟨(ad393.add ((x5_1).toNat * 4)).block, (ad393.add ((x5_1).toNat * 4)).off + 1, none⟩ = some (.int .i64 ((rd_T72 l1 x5_1).f1)) ∧ w'.cell? ⟨(ad393.add ((x5_1).toNat * 4)).block, (ad393.add ((x5_1).toNat * 4)).off + 2, none⟩ = some (.int .i64 ((rd_T72 l1 x5_1).f2)) ∧ w'.cell? ⟨(ad393.add ((x5_1).toNat * 4)).block, (ad393.add ((x5_1).toNat * 4)).off + 3, none⟩ = some (.bool ((rd_T72 l1 x5_1).f3))) (ds := []) (zm 10 0) (by kernel_rfl) rfl rfl ⟨(zx HB hw392_0), (zx HB hw392_1), (zx HB hw392_2), (zx HB hw392_3), (zx HB hw393_0), (zx HB hw393_1), (zx HB hw393_2), (zx HB hw393_3)⟩ (fun hHeld => ?_); refine with_tabW laws_eqOSymS.tab6 laws_eqOSymS.bits6 (fun HT_ HW_ => ?_)
        generalize wr.drew = w11 at HB hx392_0 hx392_1 hx392_2 hx392_3 hx393_0 hx393_1 hx393_2 hx393_3 hHeld ⊢
        refine zp 0 17 (zm 10 1) ?_
        refine zp 1 18 (zm 10 3) ?_
        refine zp 2 19 (zm 10 7) ?_
        refine zp 4 21 (zm 10 23) ?_
        refine zp 5 22 (zm 10 55) ?_
        refine zp 6 23 (zm 10 119) ?_
        refine zy 3 20 (zm 10 127) hHeld ?_
        refine zy 7 24 (zm 10 255) hHeld ?_
        refine one_ (i := 8) (N := some 25) (zm 10 511) rfl rfl (one_of HT_.out (by kernel_rfl)) (by decide) (fun K hK => ?_)
        refine zi Tryz.func65 #[.agg #[.string ((rd_T72 l0 x5_1).f0), .int .i64 ((rd_T72 l0 x5_1).f1), .int .i64 ((rd_T72 l0 x5_1).f2), .bool ((rd_T72 l0 x5_1).f3)], .agg #[.string ((rd_T72 l1 x5_1).f0), .int .i64 ((rd_T72 l1 x5_1).f1), .int .i64 ((rd_T72 l1 x5_1).f2), .bool ((rd_T72 l1 x5_1).f3)]] ?_
        with_reducible refine (laws_eqOSym.calls ((rd_T72 l0 x5_1).f0) ((rd_T72 l0 x5_1).f1) ((rd_T72 l0 x5_1).f2) ((rd_T72 l0 x5_1).f3) ((rd_T72 l1 x5_1).f0) ((rd_T72 l1 x5_1).f1) ((rd_T72 l1 x5_1).f2) ((rd_T72 l1 x5_1).f3) false _ A7.out).mono ?_
        rintro e w12 ⟨rfl, hb⟩
        refine ⟨_, rfl, ?_⟩
        have n0_ := zt w hb
        clear HB
        have HB := n0_
        clear n0_
        (try clear hb)
        (try clear hb2)
        (try clear hk)
        (try clear hi)
        refine hK.out _ _ ⟨(zx HB hw392_0), (zx HB hw392_1), (zx HB hw392_2), (zx HB hw392_3), (zx HB hw393_0), (zx HB hw393_1), (zx HB hw393_2), (zx HB hw393_3)⟩ (fun hHeld => ?_)
        clear hK K
        refine zq ?_
        refine zp 9 26 (zm 10 1023) ?_
        refine done_ (done_of HT_.out (by kernel_rfl)) ?_
        try go_wp2
        go_ret
        exact ⟨ze _, zb _⟩
      ·rw [if_neg c6] at H
       exact absurd H (by simp)
     ·rw [if_neg c5] at H
      exact absurd H (by simp)
    ·rw [if_neg c4] at H
     have c4b0 : decide (x5_1 < (l0.length : Int)) = false := decide_eq_false c4
     clear c4
     obtain rfl := Option.some.inj H
     go_wp2
     go_ret
     exact ⟨ze _, zb _⟩
 ·rw [if_neg c3] at H
  have c3b0 : ((l0.length : Int) == (l1.length : Int)) = false := beq_eq_false_iff_ne.mpr c3
  have c3b1 : ((l0.length : Int) != (l1.length : Int)) = true := bne_iff_ne.mpr c3
  have c3b2 : (l0.length == l1.length) = false := by first | simpa using c3 | (simp at c3 ⊢; omega)
  obtain rfl := Option.some.inj H
  go_enter Tryz.func25, Tryz.ntmps25
  go_wp2
  go_ret
  exact ⟨ze _, zb _⟩

def laws_eqENodeSS.l0 : Nat → List (List (S124)) → List (List (S124)) → Int → Option (Bool)
  | 0, _, _, _ => none
  | k + 1, x0, x1, x5 => if x5 < (x0.length : Int) then (if 0 ≤ x5 then (if x5 < (x1.length : Int) then ((laws_eqENodeS.f k (rd_L10 x0 x5) (rd_L10 x1 x5)).bind fun t397 => (if t397 = true then (laws_eqENodeSS.l0 k x0 x1 (wrap64 (x5 + 1))) else (some false))) else (none)) else (none)) else (some true)
def laws_eqENodeSS.f (k : Nat) (l0 : List (List (S124))) (l1 : List (List (S124))) : Option (Bool) := if (l0.length : Int) = (l1.length : Int) then (laws_eqENodeSS.l0 k l0 l1 0) else (some false)
theorem laws_eqENodeSS.mono_l : ∀ k, (∀ y0 y1 y2, LeO (laws_eqENodeSS.l0 k y0 y1 y2) (laws_eqENodeSS.l0 (k + 1) y0 y1 y2))
  | 0 => fun _ _ _ r h => by simp [laws_eqENodeSS.l0] at h
  | k + 1 => by
    have ih0 := laws_eqENodeSS.mono_l k
    · intro y0 y1 y2
      unfold laws_eqENodeSS.l0
      repeat' with_reducible first | exact ih0 _ _ _ | exact laws_eqENodeS.mono _ _ _ | exact LeO.refl _ | exact LeO.none _ | refine LeO.ite ?_ ?_ | refine LeO.bind ?_ (fun _ => ?_)
theorem laws_eqENodeSS.mono : ∀ a0 a1 k, LeO (laws_eqENodeSS.f k a0 a1) (laws_eqENodeSS.f (k + 1) a0 a1) := by
  intro a0 a1 k
  have ih0 := laws_eqENodeSS.mono_l k
  unfold laws_eqENodeSS.f
  repeat' with_reducible first | exact ih0 _ _ _ | exact laws_eqENodeS.mono _ _ _ | exact LeO.refl _ | exact LeO.none _ | refine LeO.ite ?_ ?_ | refine LeO.bind ?_ (fun _ => ?_)
def laws_eqENodeSS.T6 : Bool × List (List Nat × List Nat) := (true, [([], []), ([], []), ([0, 1], [0, 1]), ([2], [2]), ([], []), ([], []), ([4, 5], [4, 5]), ([6], [6]), ([3, 7], [3, 7]), ([8], [8])])
def laws_eqENodeSS.B6 : List Nat := [0, 0, 3, 7, 0, 0, 48, 112, 255, 511]
theorem laws_eqENodeSS.tab6 : rtab .any (opsOf Tryz.f26 6) = laws_eqENodeSS.T6 := by kernel_rfl
theorem laws_eqENodeSS.bits6 : waitsOk laws_eqENodeSS.T6.2 laws_eqENodeSS.B6 = true := by kernel_rfl
set_option maxHeartbeats 8000000 in
set_option maxRecDepth 100000 in
theorem laws_eqENodeSS.calls (k : Nat) (A0 : Option Addr) (c0 : Nat) (l0 : List (List (S124))) (A1 : Option Addr) (c1 : Nat) (l1 : List (List (S124))) (r : Bool) (w : World) (hr0 : Kd.C (Kd.slice 124 k124) w A0 l0.length l0) (hc0 : l0.length ≤ c0) (hr1 : Kd.C (Kd.slice 124 k124) w A1 l1.length l1) (hc1 : l1.length ≤ c1) (h : laws_eqENodeSS.f k l0 l1 = some r) :
 Calls Tryz.prog 26 #[.slice A0 l0.length c0, .slice A1 l1.length c1] w fun e w' => e = .returned (.bool r) ∧ Below w.heap.size w w' := by
 have HR0 := Aside0.mk hr0
 have HC0 := Aside0.mk hc0
 clear hr0 hc0
 have HR1 := Aside0.mk hr1
 have HC1 := Aside0.mk hc1
 clear hr1 hc1
 have HB := Aside0.mk (Below.refl w.heap.size w)
 have H : (if (l0.length : Int) = (l1.length : Int) then (laws_eqENodeSS.l0 k l0 l1 0) else (some false)) = some r := h
 clear h
 by_cases c3 : (l0.length : Int) = (l1.length : Int)
 ·rw [if_pos c3] at H
  have c3b0 : ((l0.length : Int) == (l1.length : Int)) = true := beq_iff_eq.mpr c3
  have c3b1 : ((l0.length : Int) != (l1.length : Int)) = false := bne_eq_false_iff_eq.mpr c3
  have c3b2 : (l0.length == l1.length) = true := by first | simpa using c3 | (simp at c3 ⊢; omega)
  clear c3
  have H' := Aside0.mk H
  clear H
  go_enter Tryz.func26, Tryz.ntmps26
  go_wp2
  go_loopg [5] k (fun kq v5 w' => ∃ (x5_1 : Int), v5 = .int .i64 x5_1 ∧ Aside0 (laws_eqENodeSS.l0 kq l0 l1 x5_1 = some r) ∧ Aside0 (kq ≤ k) ∧ Aside0 (Below w.heap.size w w'))
  case atStart => exact ⟨(0), (zE _), H', ⟨Nat.le_refl _⟩, ⟨zb _⟩⟩
  case round =>
   clear H'
   obtain ⟨x5_1, rfl, HA, HK1, HB⟩ := hrel
   cases gk with
   | zero => exact absurd HA.out (by simp [laws_eqENodeSS.l0])
   | succ k1 =>
    have H := HA.out
    clear HA
    simp only [laws_eqENodeSS.l0] at H
    by_cases c4 : x5_1 < (l0.length : Int)
    ·rw [if_pos c4] at H
     have c4b0 : decide (x5_1 < (l0.length : Int)) = true := decide_eq_true c4
     clear c4
     by_cases c5 : 0 ≤ x5_1
     ·rw [if_pos c5] at H
      have c5b0 : decide (0 ≤ x5_1) = true := decide_eq_true c5
      clear c5
      by_cases c6 : x5_1 < (l1.length : Int)
      ·rw [if_pos c6] at H
       have c6b0 : decide (x5_1 < (l1.length : Int)) = true := decide_eq_true c6
       clear c6
       obtain ⟨t397, A70, H⟩ := Option.bind_eq_some_iff.mp H
       have A7 := Aside0.mk A70
       clear A70
       by_cases c8 : t397 = true
       ·subst c8
        rw [if_pos rfl] at H
        have H' := Aside0.mk H
        clear H
        try go_wp2
        have n0_ := Aside0.mk (below_drew1 HB.out)
        clear HB
        have HB := n0_
        clear n0_
        have p395 : 0 ≤ (x5_1 : Int) := of_decide_eq_true (za _)
        have q395 : x5_1 < (l0.length : Int) := of_decide_eq_true (za _)
        obtain ⟨ad395, A395_0, c395_0, e395, hx395_0, hl395_0, hi395_0⟩ := at_L10 HR0.out x5_1 p395 q395
        have hw395_0 := hx395_0
        cases e395
        replace hx395_0 := zx HB hx395_0
        have HR395_0 := Aside0.mk hi395_0
        have HC395_0 := Aside0.mk hl395_0
        clear hi395_0 hl395_0
        replace p395 := eq_true p395
        replace q395 := eq_true q395
        have p396 : 0 ≤ (x5_1 : Int) := of_decide_eq_true (za _)
        have q396 : x5_1 < (l1.length : Int) := of_decide_eq_true (za _)
        obtain ⟨ad396, A396_0, c396_0, e396, hx396_0, hl396_0, hi396_0⟩ := at_L10 HR1.out x5_1 p396 q396
        have hw396_0 := hx396_0
        cases e396
        replace hx396_0 := zx HB hx396_0
        have HR396_0 := Aside0.mk hi396_0
        have HC396_0 := Aside0.mk hl396_0
        clear hi396_0 hl396_0
        replace p396 := eq_true p396
        replace q396 := eq_true q396
        refine start_ (n := 10) (S := fun w' => w'.cell? (ad395.add (x5_1).toNat) = some (.slice A395_0 (rd_L10 l0 x5_1).length c395_0) ∧ w'.cell? (ad396.add (x5_1).toNat) = some (.slice A396_0 (rd_L10 l1 x5_1).length c396_0)) (ds := []) (zm 10 0) (by kernel_rfl) rfl rfl ⟨(zx HB hw395_0), (zx HB hw396_0)⟩ (fun hHeld => ?_); refine with_tabW laws_eqENodeSS.tab6 laws_eqENodeSS.bits6 (fun HT_ HW_ => ?_)
        generalize wr.drew = w9 at HB HR395_0 HR396_0 hx395_0 hx396_0 hHeld ⊢
        refine zp 0 17 (zm 10 1) ?_
        refine zp 1 18 (zm 10 3) ?_
        refine zp 2 19 (zm 10 7) ?_
        refine zp 4 21 (zm 10 23) ?_
        refine zp 5 22 (zm 10 55) ?_
        refine zp 6 23 (zm 10 119) ?_
        refine zy 3 20 (zm 10 127) hHeld ?_
        refine zy 7 24 (zm 10 255) hHeld ?_
        refine one_ (i := 8) (N := some 25) (zm 10 511) rfl rfl (one_of HT_.out (by kernel_rfl)) (by decide) (fun K hK => ?_)
        refine zi Tryz.func66 #[.slice A395_0 (rd_L10 l0 x5_1).length c395_0, .slice A396_0 (rd_L10 l1 x5_1).length c396_0] ?_
        with_reducible refine (laws_eqENodeS.calls k1 _ _ (rd_L10 l0 x5_1) _ _ (rd_L10 l1 x5_1) true _ ?side1 ?side2 ?side3 ?side4 A7.out).mono ?_
        (case side1 => repeat (first | exact (Kd.C_below HR395_0.out HB.out) | (with_reducible refine Kd.C_alloc ?_ _) | (with_reducible refine Kd.C_drewN ?_ _) | (with_reducible refine Kd.C_drew ?_)))
        (case side2 => exact HC395_0.out)
        (case side3 => repeat (first | exact (Kd.C_below HR396_0.out HB.out) | (with_reducible refine Kd.C_alloc ?_ _) | (with_reducible refine Kd.C_drewN ?_ _) | (with_reducible refine Kd.C_drew ?_)))
        (case side4 => exact HC396_0.out)
        rintro e w10 ⟨rfl, hb⟩
        refine ⟨_, rfl, ?_⟩
        have n0_ := zt w hb
        clear HB
        have HB := n0_
        clear n0_
        (try clear hb)
        (try clear hb2)
        (try clear hk)
        (try clear hi)
        refine hK.out _ _ ⟨(zx HB hw395_0), (zx HB hw396_0)⟩ (fun hHeld => ?_)
        clear hK K
        refine zq ?_
        refine zp 9 26 (zm 10 1023) ?_
        refine done_ (done_of HT_.out (by kernel_rfl)) ?_
        try go_wp2
        go_roundg k1
        case measure => have := HK1.out; omega
        case rel => exact ⟨(wrap64 (x5_1 + 1)), (zE _), H', ⟨by have := HK1.out; omega⟩, ⟨zb _⟩⟩
       ·replace c8 := Bool.eq_false_iff.mpr c8
        subst c8
        rw [if_neg (show ¬ (false = true) by decide)] at H
        obtain rfl := Option.some.inj H
        try go_wp2
        have n0_ := Aside0.mk (below_drew1 HB.out)
        clear HB
        have HB := n0_
        clear n0_
        have p395 : 0 ≤ (x5_1 : Int) := of_decide_eq_true (za _)
        have q395 : x5_1 < (l0.length : Int) := of_decide_eq_true (za _)
        obtain ⟨ad395, A395_0, c395_0, e395, hx395_0, hl395_0, hi395_0⟩ := at_L10 HR0.out x5_1 p395 q395
        have hw395_0 := hx395_0
        cases e395
        replace hx395_0 := zx HB hx395_0
        have HR395_0 := Aside0.mk hi395_0
        have HC395_0 := Aside0.mk hl395_0
        clear hi395_0 hl395_0
        replace p395 := eq_true p395
        replace q395 := eq_true q395
        have p396 : 0 ≤ (x5_1 : Int) := of_decide_eq_true (za _)
        have q396 : x5_1 < (l1.length : Int) := of_decide_eq_true (za _)
        obtain ⟨ad396, A396_0, c396_0, e396, hx396_0, hl396_0, hi396_0⟩ := at_L10 HR1.out x5_1 p396 q396
        have hw396_0 := hx396_0
        cases e396
        replace hx396_0 := zx HB hx396_0
        have HR396_0 := Aside0.mk hi396_0
        have HC396_0 := Aside0.mk hl396_0
        clear hi396_0 hl396_0
        replace p396 := eq_true p396
        replace q396 := eq_true q396
        refine start_ (n := 10) (S := fun w' => w'.cell? (ad395.add (x5_1).toNat) = some (.slice A395_0 (rd_L10 l0 x5_1).length c395_0) ∧ w'.cell? (ad396.add (x5_1).toNat) = some (.slice A396_0 (rd_L10 l1 x5_1).length c396_0)) (ds := []) (zm 10 0) (by kernel_rfl) rfl rfl ⟨(zx HB hw395_0), (zx HB hw396_0)⟩ (fun hHeld => ?_); refine with_tabW laws_eqENodeSS.tab6 laws_eqENodeSS.bits6 (fun HT_ HW_ => ?_)
        generalize wr.drew = w11 at HB HR395_0 HR396_0 hx395_0 hx396_0 hHeld ⊢
        refine zp 0 17 (zm 10 1) ?_
        refine zp 1 18 (zm 10 3) ?_
        refine zp 2 19 (zm 10 7) ?_
        refine zp 4 21 (zm 10 23) ?_
        refine zp 5 22 (zm 10 55) ?_
        refine zp 6 23 (zm 10 119) ?_
        refine zy 3 20 (zm 10 127) hHeld ?_
        refine zy 7 24 (zm 10 255) hHeld ?_
        refine one_ (i := 8) (N := some 25) (zm 10 511) rfl rfl (one_of HT_.out (by kernel_rfl)) (by decide) (fun K hK => ?_)
        refine zi Tryz.func66 #[.slice A395_0 (rd_L10 l0 x5_1).length c395_0, .slice A396_0 (rd_L10 l1 x5_1).length c396_0] ?_
        with_reducible refine (laws_eqENodeS.calls k1 _ _ (rd_L10 l0 x5_1) _ _ (rd_L10 l1 x5_1) false _ ?side1 ?side2 ?side3 ?side4 A7.out).mono ?_
        (case side1 => repeat (first | exact (Kd.C_below HR395_0.out HB.out) | (with_reducible refine Kd.C_alloc ?_ _) | (with_reducible refine Kd.C_drewN ?_ _) | (with_reducible refine Kd.C_drew ?_)))
        (case side2 => exact HC395_0.out)
        (case side3 => repeat (first | exact (Kd.C_below HR396_0.out HB.out) | (with_reducible refine Kd.C_alloc ?_ _) | (with_reducible refine Kd.C_drewN ?_ _) | (with_reducible refine Kd.C_drew ?_)))
        (case side4 => exact HC396_0.out)
        rintro e w12 ⟨rfl, hb⟩
        refine ⟨_, rfl, ?_⟩
        have n0_ := zt w hb
        clear HB
        have HB := n0_
        clear n0_
        (try clear hb)
        (try clear hb2)
        (try clear hk)
        (try clear hi)
        refine hK.out _ _ ⟨(zx HB hw395_0), (zx HB hw396_0)⟩ (fun hHeld => ?_)
        clear hK K
        refine zq ?_
        refine zp 9 26 (zm 10 1023) ?_
        refine done_ (done_of HT_.out (by kernel_rfl)) ?_
        try go_wp2
        go_ret
        exact ⟨ze _, zb _⟩
      ·rw [if_neg c6] at H
       exact absurd H (by simp)
     ·rw [if_neg c5] at H
      exact absurd H (by simp)
    ·rw [if_neg c4] at H
     have c4b0 : decide (x5_1 < (l0.length : Int)) = false := decide_eq_false c4
     clear c4
     obtain rfl := Option.some.inj H
     go_wp2
     go_ret
     exact ⟨ze _, zb _⟩
 ·rw [if_neg c3] at H
  have c3b0 : ((l0.length : Int) == (l1.length : Int)) = false := beq_eq_false_iff_ne.mpr c3
  have c3b1 : ((l0.length : Int) != (l1.length : Int)) = true := bne_iff_ne.mpr c3
  have c3b2 : (l0.length == l1.length) = false := by first | simpa using c3 | (simp at c3 ⊢; omega)
  obtain rfl := Option.some.inj H
  go_enter Tryz.func26, Tryz.ntmps26
  go_wp2
  go_ret
  exact ⟨ze _, zb _⟩

end Go.Proofs.YtlacpadpdfccmaaGreatDoor.PFnExactObjectText
