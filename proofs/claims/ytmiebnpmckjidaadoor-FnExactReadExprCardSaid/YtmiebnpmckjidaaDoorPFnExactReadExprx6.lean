/- What the Go functions that the law FnExactReadExpr reaches compute, function by function, and that Go comes to just that. -/
import Derived.Test.YtmiebnpmckjidaaDoorPFnExactReadExprx0
import Derived.Test.YtmiebnpmckjidaaDoorAidZ
import Derived.Test.YtmiebnpmckjidaaDoorPFnExactReadExprx3
import Derived.Test.YtmiebnpmckjidaaDoorPFnExactReadExprx4
import Derived.Test.YtmiebnpmckjidaaDoorPFnExactReadExprx5
namespace Go.Proofs.YtmiebnpmckjidaaDoor.PFnExactReadExpr
open Go.RowKit Go.Proofs.YtmiebnpmckjidaaDoor.Z Go.Proofs.YtmiebnpmckjidaaDoorW.PrintWords Go.Proofs.YtmiebnpmckjidaaDoorW.PrintLast Go.Proofs.YtmiebnpmckjidaaDoorW.PrintMore
attribute [local go_sem] max2_int min2_int max_two min_two max_three min_three max_four min_four   -- for this text's walks alone
set_option linter.unusedVariables false
set_option linter.unusedSimpArgs false

/-! ### impl_exprText: function 79 -/
def impl_exprText.l0 : Nat → List ByteArray → List (S77) → Int → Int → Option (ByteArray)
  | 0, _, _, _, _ => none
  | k + 1, x3, x7, x8, x9 => if x9 < x8 then (if 0 ≤ x9 then (if x9 < (x7.length : Int) then (if ((rd_T77 x7 x9).f0) = 1 then ((impl_decimal.f ((rd_T77 x7 x9).f1)).bind fun t190 => (if x3.length < 8796093022208 then (impl_exprText.l0 k (x3 ++ [t190]) x7 x8 (wrap64 (x9 + 1))) else (none))) else (if ((rd_T77 x7 x9).f0) = 2 then (if x3.length < 8796093022208 then (impl_exprText.l0 k (x3 ++ [(rd_T77 x7 x9).f2]) x7 x8 (wrap64 (x9 + 1))) else (none)) else (if ((rd_T77 x7 x9).f0) = 3 then (if 1 + ((rd_T77 x7 x9).f2).size ≤ 9223372036854775807 then (if x3.length < 8796093022208 then (impl_exprText.l0 k (x3 ++ [(⟨#[35]⟩ : ByteArray) ++ ((rd_T77 x7 x9).f2)]) x7 x8 (wrap64 (x9 + 1))) else (none)) else (none)) else ((impl_opWords.f).bind fun t200 => (if 0 ≤ (wrap64 (((rd_T77 x7 x9).f0) - 4)) then (if (wrap64 (((rd_T77 x7 x9).f0) - 4)) < (t200.length : Int) then (if x3.length < 8796093022208 then (impl_exprText.l0 k (x3 ++ [rdOf ByteArray.empty t200 (wrap64 (((rd_T77 x7 x9).f0) - 4))]) x7 x8 (wrap64 (x9 + 1))) else (none)) else (none)) else (none)))))) else (none)) else (none)) else ((strings_Join.f x3 (⟨#[32]⟩ : ByteArray)).bind fun t187 => (some t187))
def impl_exprText.f (k : Nat) (l0 : List (S77)) : Option (ByteArray) := impl_exprText.l0 k (([] : List ByteArray)) l0 (l0.length : Int) 0
theorem impl_exprText.mono_l : ∀ k, (∀ y0 y1 y2 y3, LeO (impl_exprText.l0 k y0 y1 y2 y3) (impl_exprText.l0 (k + 1) y0 y1 y2 y3))
  | 0 => fun _ _ _ _ r h => by simp [impl_exprText.l0] at h
  | k + 1 => by
    have ih0 := impl_exprText.mono_l k
    · intro y0 y1 y2 y3
      unfold impl_exprText.l0
      repeat' first
      | (with_reducible exact ih0 _ _ _ _)
      | (with_reducible exact LeO.refl _)
      | (with_reducible exact LeO.none _)
      | (with_reducible refine LeO.ite ?_ ?_)
      | (with_reducible refine LeO.bind ?_ (fun _ => ?_))
      | exact ih0 _ _ _ _
      | exact LeO.none _
      | refine LeO.ite ?_ ?_
      | refine LeO.bind ?_ (fun _ => ?_)
theorem impl_exprText.mono : ∀ a0 k, LeO (impl_exprText.f k a0) (impl_exprText.f (k + 1) a0) := by
  intro a0 k
  have ih0 := impl_exprText.mono_l k
  unfold impl_exprText.f
  repeat' first
      | (with_reducible exact ih0 _ _ _ _)
      | (with_reducible exact LeO.refl _)
      | (with_reducible exact LeO.none _)
      | (with_reducible refine LeO.ite ?_ ?_)
      | (with_reducible refine LeO.bind ?_ (fun _ => ?_))
      | exact ih0 _ _ _ _
      | exact LeO.none _
      | refine LeO.ite ?_ ?_
      | refine LeO.bind ?_ (fun _ => ?_)
def impl_exprText.T6 : Bool × List (List Nat × List Nat) := (true, [([], []), ([], []), ([], []), ([2], [2]), ([3], [3]), ([1, 4], [1, 4]), ([5], [5]), ([6], [6]), ([0, 7, 1], [0, 7]), ([8, 8, 0, 1, 2, 3, 4, 5, 6, 7, 8], [0, 8])])
def impl_exprText.B6 : List Nat := [0, 0, 0, 4, 12, 30, 62, 126, 255, 511]
theorem impl_exprText.tab6 : rtab .any (opsOf Tryd.f79 6) = impl_exprText.T6 := by kernel_rfl
theorem impl_exprText.bits6 : waitsOk impl_exprText.T6.2 impl_exprText.B6 = true := by kernel_rfl
set_option maxHeartbeats 8000000 in
set_option maxRecDepth 100000 in
theorem impl_exprText.calls (k : Nat) (A0 : Option Addr) (c0 : Nat) (l0 : List (S77)) (r : ByteArray) (w : World) (hr0 : Kd.C k77 w A0 l0.length l0) (hc0 : l0.length ≤ c0) (hG : GW w) (h : impl_exprText.f k l0 = some r) :
 Calls Tryd.prog 79 #[.slice A0 l0.length c0] w fun e w' => e = .returned (.string r) ∧ Below w.heap.size w w' := by
 have hu77 := Tryd.underlying77
 have HR0 := Aside0.mk hr0
 have HC0 := Aside0.mk hc0
 clear hr0 hc0
 have HB := Aside0.mk (Below.refl w.heap.size w)
 have HG := Aside0.mk hG
 clear hG
 have H : (impl_exprText.l0 k (([] : List ByteArray)) l0 (l0.length : Int) 0) = some r := h
 clear h
 obtain ⟨y184, hy184⟩ : ∃ y_ : List ByteArray, y_ = (([] : List ByteArray)) := ⟨_, rfl⟩
 replace H : (impl_exprText.l0 k y184 l0 (l0.length : Int) 0) = some r := by first | (rw [hy184]; with_reducible exact H) | (have H2_ := (Option.bind_some _ _).symm.trans H; rw [hy184]; with_reducible exact H2_) | (have H2_ := (Option.bind_some _ _).symm.trans H; with_reducible exact H2_) | with_reducible exact H | (rw [hy184]; exact H) | exact H
 have Ny184 := Aside0.mk hy184
 clear hy184
 have H' := Aside0.mk H
 clear H
 go_enter Tryd.func79, Tryd.ntmps79
 go_wp2_with (first | ((with_reducible refine gate_dst (N := 6) rfl ?_); refine Kd.R_lit Kd.string _ 9 ?hg (N := 6) ?hd (xs := ([] : List ByteArray)) (inner := []) (ok := fun _ => True) (okp := fun _ => True) ?hr ?hp (fun _ hk => hk) trivial (Below.refl _ _) (Nat.le_refl _) (by simp) ?_; (case hd => rfl); (case hg => rfl); (case hr => first | (go_simp; done) | (go_simp; rfl)); (case hp => exact (Reps.none _ _)); intro v185 w2 ho3 hb hg_ hnew_; clear hg_ hnew_; (first | rw [← Ny184.out] at ho3 | (simp only [Int.reduceToNat] at ho3; rw [← Ny184.out] at ho3)); have HO186 := Aside0.mk (Kd.R_lower ho3 (below_size (zb _))); replace HB := zt w hb; clear hb ho3))
 go_loopg [3, 9] k (fun kq v3 v9 w' => ∃ (x3_1 : List ByteArray) (x9_1 : Int), v9 = .int .i64 x9_1 ∧ Aside0 (impl_exprText.l0 kq x3_1 l0 (l0.length : Int) x9_1 = some r) ∧ Aside0 (kq ≤ k) ∧ Aside0 (Kd.R Kd.string 9 w' w.heap.size (fun _ => True) v3 x3_1) ∧ Aside0 (Below w.heap.size w w'))
 case atStart => exact ⟨(y184), (0), (zE _), H', ⟨Nat.le_refl _⟩, ⟨by (with_reducible repeat (first | apply Kd.R_alloc | apply Kd.R_drewN | apply Kd.R_drew)); exact HO186.out⟩, ⟨zb _⟩⟩
 case round =>
  clear H'
  try clear p2
  obtain ⟨x3_1, x9_1, rfl, HA, HK1, HO_3, HB⟩ := hrel
  cases gk with
  | zero => exact absurd HA.out (by simp [impl_exprText.l0])
  | succ k1 =>
   have H := HA.out
   clear HA
   simp only [impl_exprText.l0] at H
   by_cases c4 : x9_1 < (l0.length : Int)
   ·rw [if_pos c4] at H
    have c4b0 : decide (x9_1 < (l0.length : Int)) = true := decide_eq_true c4
    clear c4
    by_cases c5 : 0 ≤ x9_1
    ·rw [if_pos c5] at H
     have c5b0 : decide (0 ≤ x9_1) = true := decide_eq_true c5
     clear c5
     by_cases c6 : x9_1 < (l0.length : Int)
     ·rw [if_pos c6] at H
      have c6b0 : decide (x9_1 < (l0.length : Int)) = true := decide_eq_true c6
      clear c6
      by_cases c7 : ((rd_T77 l0 x9_1).f0) = 1
      ·rw [if_pos c7] at H
       have c7b0 : (((rd_T77 l0 x9_1).f0) == 1) = true := beq_iff_eq.mpr c7
       have c7b1 : (((rd_T77 l0 x9_1).f0) != 1) = false := bne_eq_false_iff_eq.mpr c7
       clear c7
       obtain ⟨t190, A80, H⟩ := Option.bind_eq_some_iff.mp H
       have A8 := Aside0.mk A80
       clear A80
       by_cases c9 : x3_1.length < 8796093022208
       ·rw [if_pos c9] at H
        have LMc9 := Aside0.mk c9
        clear c9
        obtain ⟨y191, hy191⟩ : ∃ y_ : List ByteArray, y_ = (x3_1 ++ [t190]) := ⟨_, rfl⟩
        replace H : (impl_exprText.l0 k1 y191 l0 (l0.length : Int) (wrap64 (x9_1 + 1))) = some r := by first | (rw [hy191]; with_reducible exact H) | (have H2_ := (Option.bind_some _ _).symm.trans H; rw [hy191]; with_reducible exact H2_) | (have H2_ := (Option.bind_some _ _).symm.trans H; with_reducible exact H2_) | with_reducible exact H | (rw [hy191]; exact H) | exact H
        have Ny191 := Aside0.mk hy191
        clear hy191
        have H' := Aside0.mk H
        clear H
        have p188 : 0 ≤ (x9_1 : Int) := of_decide_eq_true (za _)
        have q188 : x9_1 < (l0.length : Int) := of_decide_eq_true (za _)
        obtain ⟨ad188, e188, hx188_0, hx188_1, hx188_2⟩ := at_T77 HR0.out x9_1 p188 q188
        cases e188
        replace hx188_0 := (HB.out.cell (World.block_lt_of_cell? w _ hx188_0)).trans hx188_0
        replace hx188_1 := (HB.out.cell (World.block_lt_of_cell? w _ hx188_1)).trans hx188_1
        replace hx188_2 := (HB.out.cell (World.block_lt_of_cell? w _ hx188_2)).trans hx188_2
        replace p188 := eq_true p188
        replace q188 := eq_true q188
        go_wp2_with (first | ((with_reducible refine gate_dst (N := 5) rfl ?_); refine zbx 5 #[.int .i64 0, .int .i64 0, .string (⟨#[]⟩ : ByteArray)] 77 ?_; intro gb189 hg w10 hbox hb; have BK189 := Aside0.mk (hbox); have GW189 := zs w hg; have GE189 := GW189; replace HO_3 := Aside0.mk (Kd.R_below (by (with_reducible repeat (first | apply Kd.R_alloc | apply Kd.R_drewN | apply Kd.R_drew)); exact HO_3.out) hb); replace HB := zt w hb; clear hb hbox hg; have hcz11_0 := zc0 BK189; have hcz11_1 := zc1 BK189; have hcz11_2 := zc2 BK189; have hfz11_0 := blk_frozen BK189.out 0; have hfz11_1 := blk_frozen BK189.out 1; have hfz11_2 := blk_frozen BK189.out 2) | ((with_reducible refine gate_callee (f := 108) rfl ?_); refine zc (some 29) Tryd.func108 #[.int .i64 ((rd_T77 l0 x9_1).f1)] ?_; (with_reducible refine (impl_decimal.calls ((rd_T77 l0 x9_1).f1) t190 _ ?side1 A8.out).mono ?_); (case side1 => exact GW.below HG.out (zb _)); rintro e w12 ⟨rfl, hb⟩; refine ⟨_, rfl, ?_⟩; replace HO_3 := Aside0.mk (Kd.R_below (by (with_reducible repeat (first | apply Kd.R_alloc | apply Kd.R_drewN | apply Kd.R_drew)); exact (Kd.R_mono (Kd.R_far (p := ⟨gb189, 2, none⟩) (Kd.R_far (p := ⟨gb189, 1, none⟩) (Kd.R_far (p := ⟨gb189, 0, none⟩) (Kd.R_types HO_3.out BK189.out (by decide)) (fun _ hk => hk.2) (.int .i64 ((rd_T77 l0 x9_1).f0))) (fun _ hk => hk.2) (.int .i64 ((rd_T77 l0 x9_1).f1))) (fun _ hk => hk.2) (.string ((rd_T77 l0 x9_1).f2))) (fun _ h_ => h_.1))) hb); replace BK189 := zkw (g := gb189) (o := .cells #[.int .i64 ((rd_T77 l0 x9_1).f0), .int .i64 ((rd_T77 l0 x9_1).f1), .string ((rd_T77 l0 x9_1).f2)] 77 (0, 0)) hb; replace HB := zt w hb; (try clear hb); (try clear hb2); (try clear hk); (try clear hi)) | ((with_reducible refine gate_builtin (b := .append) (xs := #[.tmp 26, .tmp 30]) rfl ?_); at_builtin; refine Kd.R_append Kd.string (w0 := w) w.heap.size rfl (.tmp 26) (.tmp 30) 66 9 (.string ⟨#[]⟩) 16 rfl Tryd.underlying66 info9 rfl (by decide) (by omega) u3 x3_1 t190 [.string t190] (fun _ => True) (fun _ => False) rfl rfl ?aP (fun _ hk => hk.elim) ?aF ?aO ?aB ?aS ?aL ?_; (case aP => exact rfl); (case aB => exact (zb _)); (case aF => exact (fun _ _ => trivial)); (case aO => exact (by (with_reducible repeat (first | apply Kd.R_alloc | apply Kd.R_drewN | apply Kd.R_drew)); exact HO_3.out)); (case aS => exact (below_size (zb _))); (case aL => have := LMc9.out; omega); intro v192 w13 ho hb hg hat; rw [← Ny191.out] at ho; have HO193 := Aside0.mk (ho); replace BK189 := Aside0.mk (blk_grown (g := gb189) (o := .cells #[.int .i64 ((rd_T77 l0 x9_1).f0), .int .i64 ((rd_T77 l0 x9_1).f1), .string ((rd_T77 l0 x9_1).f2)] 77 (0, 0)) (zr BK189) hg (Kd.R_ne HO_3.out BK189.out (by decide))); replace HB := Aside0.mk (hb); clear HO_3; clear ho hb hg hat))
        go_roundg k1
        case measure => have := HK1.out; omega
        case rel => exact ⟨(y191), (wrap64 (x9_1 + 1)), (zE _), H', ⟨by have := HK1.out; omega⟩, ⟨by (with_reducible repeat (first | apply Kd.R_alloc | apply Kd.R_drewN | apply Kd.R_drew)); exact HO193.out⟩, ⟨zb _⟩⟩
       ·rw [if_neg c9] at H
        exact absurd H (by simp)
      ·rw [if_neg c7] at H
       have c7b0 : (((rd_T77 l0 x9_1).f0) == 1) = false := beq_eq_false_iff_ne.mpr c7
       have c7b1 : (((rd_T77 l0 x9_1).f0) != 1) = true := bne_iff_ne.mpr c7
       by_cases c14 : ((rd_T77 l0 x9_1).f0) = 2
       ·rw [if_pos c14] at H
        have c14b0 : (((rd_T77 l0 x9_1).f0) == 2) = true := beq_iff_eq.mpr c14
        have c14b1 : (((rd_T77 l0 x9_1).f0) != 2) = false := bne_eq_false_iff_eq.mpr c14
        clear c14
        by_cases c15 : x3_1.length < 8796093022208
        ·rw [if_pos c15] at H
         have LMc15 := Aside0.mk c15
         clear c15
         obtain ⟨y194, hy194⟩ : ∃ y_ : List ByteArray, y_ = (x3_1 ++ [(rd_T77 l0 x9_1).f2]) := ⟨_, rfl⟩
         replace H : (impl_exprText.l0 k1 y194 l0 (l0.length : Int) (wrap64 (x9_1 + 1))) = some r := by first | (rw [hy194]; with_reducible exact H) | (have H2_ := (Option.bind_some _ _).symm.trans H; rw [hy194]; with_reducible exact H2_) | (have H2_ := (Option.bind_some _ _).symm.trans H; with_reducible exact H2_) | with_reducible exact H | (rw [hy194]; exact H) | exact H
         have Ny194 := Aside0.mk hy194
         clear hy194
         have H' := Aside0.mk H
         clear H
         have p188 : 0 ≤ (x9_1 : Int) := of_decide_eq_true (za _)
         have q188 : x9_1 < (l0.length : Int) := of_decide_eq_true (za _)
         obtain ⟨ad188, e188, hx188_0, hx188_1, hx188_2⟩ := at_T77 HR0.out x9_1 p188 q188
         cases e188
         replace hx188_0 := (HB.out.cell (World.block_lt_of_cell? w _ hx188_0)).trans hx188_0
         replace hx188_1 := (HB.out.cell (World.block_lt_of_cell? w _ hx188_1)).trans hx188_1
         replace hx188_2 := (HB.out.cell (World.block_lt_of_cell? w _ hx188_2)).trans hx188_2
         replace p188 := eq_true p188
         replace q188 := eq_true q188
         go_wp2_with (first | ((with_reducible refine gate_dst (N := 5) rfl ?_); refine zbx 5 #[.int .i64 0, .int .i64 0, .string (⟨#[]⟩ : ByteArray)] 77 ?_; intro gb189 hg w16 hbox hb; have BK189 := Aside0.mk (hbox); have GW189 := zs w hg; have GE189 := GW189; replace HO_3 := Aside0.mk (Kd.R_below (by (with_reducible repeat (first | apply Kd.R_alloc | apply Kd.R_drewN | apply Kd.R_drew)); exact HO_3.out) hb); replace HB := zt w hb; clear hb hbox hg; have hcz17_0 := zc0 BK189; have hcz17_1 := zc1 BK189; have hcz17_2 := zc2 BK189; have hfz17_0 := blk_frozen BK189.out 0; have hfz17_1 := blk_frozen BK189.out 1; have hfz17_2 := blk_frozen BK189.out 2) | ((with_reducible refine gate_builtin (b := .append) (xs := #[.tmp 34, .tmp 37]) rfl ?_); at_builtin; refine Kd.R_append Kd.string (w0 := w) w.heap.size rfl (.tmp 34) (.tmp 37) 66 9 (.string ⟨#[]⟩) 16 rfl Tryd.underlying66 info9 rfl (by decide) (by omega) u3 x3_1 ((rd_T77 l0 x9_1).f2) [.string ((rd_T77 l0 x9_1).f2)] (fun _ => True) (fun _ => False) rfl (by first | (go_simp; done) | (go_simp; rfl)) ?aP (fun _ hk => hk.elim) ?aF ?aO ?aB ?aS ?aL ?_; (case aP => exact rfl); (case aB => exact (zb _)); (case aF => exact (fun _ _ => trivial)); (case aO => exact (by (with_reducible repeat (first | apply Kd.R_alloc | apply Kd.R_drewN | apply Kd.R_drew)); exact Kd.R_mono (Kd.R_far (p := ⟨gb189, 2, none⟩) (Kd.R_far (p := ⟨gb189, 1, none⟩) (Kd.R_far (p := ⟨gb189, 0, none⟩) (Kd.R_types HO_3.out BK189.out (by decide)) (fun _ hk => hk.2) (.int .i64 ((rd_T77 l0 x9_1).f0))) (fun _ hk => hk.2) (.int .i64 ((rd_T77 l0 x9_1).f1))) (fun _ hk => hk.2) (.string ((rd_T77 l0 x9_1).f2))) (fun _ hk => trivial))); (case aS => exact (below_size (zb _))); (case aL => have := LMc15.out; omega); intro v195 w18 ho hb hg hat; rw [← Ny194.out] at ho; have HO196 := Aside0.mk (ho); replace BK189 := Aside0.mk (blk_grown (g := gb189) (o := .cells #[.int .i64 ((rd_T77 l0 x9_1).f0), .int .i64 ((rd_T77 l0 x9_1).f1), .string ((rd_T77 l0 x9_1).f2)] 77 (0, 0)) (zw _) hg (Kd.R_ne HO_3.out BK189.out (by decide))); replace HB := Aside0.mk (hb); clear HO_3; clear ho hb hg hat))
         go_roundg k1
         case measure => have := HK1.out; omega
         case rel => exact ⟨(y194), (wrap64 (x9_1 + 1)), (zE _), H', ⟨by have := HK1.out; omega⟩, ⟨by (with_reducible repeat (first | apply Kd.R_alloc | apply Kd.R_drewN | apply Kd.R_drew)); exact HO196.out⟩, ⟨zb _⟩⟩
        ·rw [if_neg c15] at H
         exact absurd H (by simp)
       ·rw [if_neg c14] at H
        have c14b0 : (((rd_T77 l0 x9_1).f0) == 2) = false := beq_eq_false_iff_ne.mpr c14
        have c14b1 : (((rd_T77 l0 x9_1).f0) != 2) = true := bne_iff_ne.mpr c14
        by_cases c19 : ((rd_T77 l0 x9_1).f0) = 3
        ·rw [if_pos c19] at H
         have c19b0 : (((rd_T77 l0 x9_1).f0) == 3) = true := beq_iff_eq.mpr c19
         have c19b1 : (((rd_T77 l0 x9_1).f0) != 3) = false := bne_eq_false_iff_eq.mpr c19
         clear c19
         by_cases c20 : 1 + ((rd_T77 l0 x9_1).f2).size ≤ 9223372036854775807
         ·rw [if_pos c20] at H
          have c20b0 := eq_true c20
          have c20b1 : decide (1 + ((rd_T77 l0 x9_1).f2).size ≤ 9223372036854775807) = true := decide_eq_true c20
          try have c20b2 : (9223372036854775807 < 1 + ((rd_T77 l0 x9_1).f2).size) = False := eq_false (Nat.not_lt.2 c20)
          by_cases c21 : x3_1.length < 8796093022208
          ·rw [if_pos c21] at H
           have LMc21 := Aside0.mk c21
           clear c21
           obtain ⟨y197, hy197⟩ : ∃ y_ : List ByteArray, y_ = (x3_1 ++ [(⟨#[35]⟩ : ByteArray) ++ ((rd_T77 l0 x9_1).f2)]) := ⟨_, rfl⟩
           replace H : (impl_exprText.l0 k1 y197 l0 (l0.length : Int) (wrap64 (x9_1 + 1))) = some r := by first | (rw [hy197]; with_reducible exact H) | (have H2_ := (Option.bind_some _ _).symm.trans H; rw [hy197]; with_reducible exact H2_) | (have H2_ := (Option.bind_some _ _).symm.trans H; with_reducible exact H2_) | with_reducible exact H | (rw [hy197]; exact H) | exact H
           have Ny197 := Aside0.mk hy197
           clear hy197
           have H' := Aside0.mk H
           clear H
           have p188 : 0 ≤ (x9_1 : Int) := of_decide_eq_true (za _)
           have q188 : x9_1 < (l0.length : Int) := of_decide_eq_true (za _)
           obtain ⟨ad188, e188, hx188_0, hx188_1, hx188_2⟩ := at_T77 HR0.out x9_1 p188 q188
           cases e188
           replace hx188_0 := (HB.out.cell (World.block_lt_of_cell? w _ hx188_0)).trans hx188_0
           replace hx188_1 := (HB.out.cell (World.block_lt_of_cell? w _ hx188_1)).trans hx188_1
           replace hx188_2 := (HB.out.cell (World.block_lt_of_cell? w _ hx188_2)).trans hx188_2
           replace p188 := eq_true p188
           replace q188 := eq_true q188
           go_wp2_with (first | ((with_reducible refine gate_dst (N := 5) rfl ?_); refine zbx 5 #[.int .i64 0, .int .i64 0, .string (⟨#[]⟩ : ByteArray)] 77 ?_; intro gb189 hg w22 hbox hb; have BK189 := Aside0.mk (hbox); have GW189 := zs w hg; have GE189 := GW189; replace HO_3 := Aside0.mk (Kd.R_below (by (with_reducible repeat (first | apply Kd.R_alloc | apply Kd.R_drewN | apply Kd.R_drew)); exact HO_3.out) hb); replace HB := zt w hb; clear hb hbox hg; have hcz23_0 := zc0 BK189; have hcz23_1 := zc1 BK189; have hcz23_2 := zc2 BK189; have hfz23_0 := blk_frozen BK189.out 0; have hfz23_1 := blk_frozen BK189.out 1; have hfz23_2 := blk_frozen BK189.out 2) | ((with_reducible refine gate_builtin (b := .append) (xs := #[.tmp 41, .tmp 45]) rfl ?_); at_builtin; refine Kd.R_append Kd.string (w0 := w) w.heap.size rfl (.tmp 41) (.tmp 45) 66 9 (.string ⟨#[]⟩) 16 rfl Tryd.underlying66 info9 rfl (by decide) (by omega) u3 x3_1 ((⟨#[35]⟩ : ByteArray) ++ ((rd_T77 l0 x9_1).f2)) [.string ((⟨#[35]⟩ : ByteArray) ++ ((rd_T77 l0 x9_1).f2))] (fun _ => True) (fun _ => False) rfl (by first | (go_simp; done) | (go_simp; rfl)) ?aP (fun _ hk => hk.elim) ?aF ?aO ?aB ?aS ?aL ?_; (case aP => exact rfl); (case aB => exact (zb _)); (case aF => exact (fun _ _ => trivial)); (case aO => exact (by (with_reducible repeat (first | apply Kd.R_alloc | apply Kd.R_drewN | apply Kd.R_drew)); exact Kd.R_mono (Kd.R_far (p := ⟨gb189, 2, none⟩) (Kd.R_far (p := ⟨gb189, 1, none⟩) (Kd.R_far (p := ⟨gb189, 0, none⟩) (Kd.R_types HO_3.out BK189.out (by decide)) (fun _ hk => hk.2) (.int .i64 ((rd_T77 l0 x9_1).f0))) (fun _ hk => hk.2) (.int .i64 ((rd_T77 l0 x9_1).f1))) (fun _ hk => hk.2) (.string ((rd_T77 l0 x9_1).f2))) (fun _ hk => trivial))); (case aS => exact (below_size (zb _))); (case aL => have := LMc21.out; omega); intro v198 w24 ho hb hg hat; rw [← Ny197.out] at ho; have HO199 := Aside0.mk (ho); replace BK189 := Aside0.mk (blk_grown (g := gb189) (o := .cells #[.int .i64 ((rd_T77 l0 x9_1).f0), .int .i64 ((rd_T77 l0 x9_1).f1), .string ((rd_T77 l0 x9_1).f2)] 77 (0, 0)) (zw _) hg (Kd.R_ne HO_3.out BK189.out (by decide))); replace HB := Aside0.mk (hb); clear HO_3; clear ho hb hg hat))
           go_roundg k1
           case measure => have := HK1.out; omega
           case rel => exact ⟨(y197), (wrap64 (x9_1 + 1)), (zE _), H', ⟨by have := HK1.out; omega⟩, ⟨by (with_reducible repeat (first | apply Kd.R_alloc | apply Kd.R_drewN | apply Kd.R_drew)); exact HO199.out⟩, ⟨zb _⟩⟩
          ·rw [if_neg c21] at H
           exact absurd H (by simp)
         ·rw [if_neg c20] at H
          exact absurd H (by simp)
        ·rw [if_neg c19] at H
         have c19b0 : (((rd_T77 l0 x9_1).f0) == 3) = false := beq_eq_false_iff_ne.mpr c19
         have c19b1 : (((rd_T77 l0 x9_1).f0) != 3) = true := bne_iff_ne.mpr c19
         obtain ⟨t200, A250, H⟩ := Option.bind_eq_some_iff.mp H
         have A25 := Aside0.mk A250
         clear A250
         obtain ⟨ji26, hji26⟩ : ∃ j_ : Int, (wrap64 (((rd_T77 l0 x9_1).f0) - 4)) = j_ := ⟨_, rfl⟩
         replace H : (if 0 ≤ (ji26) then (if (ji26) < (t200.length : Int) then (if x3_1.length < 8796093022208 then (impl_exprText.l0 k1 (x3_1 ++ [rdOf ByteArray.empty t200 (ji26)]) l0 (l0.length : Int) (wrap64 (x9_1 + 1))) else (none)) else (none)) else (none)) = some r := by first | (rw [hji26] at H; exact H) | (simp only [hji26] at H ⊢; exact H)
         (try rw [hji26] at A25)
         have hji26w : (IntKind.i64.wrap (((rd_T77 l0 x9_1).f0) - 4)) = ji26 := (i64_w _).trans hji26
         by_cases c27 : 0 ≤ (ji26)
         ·rw [if_pos c27] at H
          have c27b0 : decide (0 ≤ (ji26)) = true := decide_eq_true c27
          clear c27
          by_cases c28 : (ji26) < (t200.length : Int)
          ·rw [if_pos c28] at H
           have c28b0 : decide ((ji26) < (t200.length : Int)) = true := decide_eq_true c28
           clear c28
           by_cases c29 : x3_1.length < 8796093022208
           ·rw [if_pos c29] at H
            have LMc29 := Aside0.mk c29
            clear c29
            obtain ⟨y204, hy204⟩ : ∃ y_ : List ByteArray, y_ = (x3_1 ++ [rdOf ByteArray.empty t200 (ji26)]) := ⟨_, rfl⟩
            replace H : (impl_exprText.l0 k1 y204 l0 (l0.length : Int) (wrap64 (x9_1 + 1))) = some r := by first | (rw [hy204]; with_reducible exact H) | (have H2_ := (Option.bind_some _ _).symm.trans H; rw [hy204]; with_reducible exact H2_) | (have H2_ := (Option.bind_some _ _).symm.trans H; with_reducible exact H2_) | with_reducible exact H | (rw [hy204]; exact H) | exact H
            have Ny204 := Aside0.mk hy204
            clear hy204
            have H' := Aside0.mk H
            clear H
            have p188 : 0 ≤ (x9_1 : Int) := of_decide_eq_true (za _)
            have q188 : x9_1 < (l0.length : Int) := of_decide_eq_true (za _)
            obtain ⟨ad188, e188, hx188_0, hx188_1, hx188_2⟩ := at_T77 HR0.out x9_1 p188 q188
            cases e188
            replace hx188_0 := (HB.out.cell (World.block_lt_of_cell? w _ hx188_0)).trans hx188_0
            replace hx188_1 := (HB.out.cell (World.block_lt_of_cell? w _ hx188_1)).trans hx188_1
            replace hx188_2 := (HB.out.cell (World.block_lt_of_cell? w _ hx188_2)).trans hx188_2
            replace p188 := eq_true p188
            replace q188 := eq_true q188
            try go_wp2_with (first | ((with_reducible refine gate_dst (N := 5) rfl ?_); refine zbx 5 #[.int .i64 0, .int .i64 0, .string (⟨#[]⟩ : ByteArray)] 77 ?_; intro gb189 hg w30 hbox hb; have BK189 := Aside0.mk (hbox); have GW189 := zs w hg; have GE189 := GW189; replace HO_3 := Aside0.mk (Kd.R_below (by (with_reducible repeat (first | apply Kd.R_alloc | apply Kd.R_drewN | apply Kd.R_drew)); exact HO_3.out) hb); replace HB := zt w hb; clear hb hbox hg; have hcz31_0 := zc0 BK189; have hcz31_1 := zc1 BK189; have hcz31_2 := zc2 BK189; have hfz31_0 := blk_frozen BK189.out 0; have hfz31_1 := blk_frozen BK189.out 1; have hfz31_2 := blk_frozen BK189.out 2))
            have n0_ : Aside0 (Kd.R Kd.string 9 (((w30.setCell ⟨gb189, 0, none⟩ (.int .i64 ((rd_T77 l0 x9_1).f0))).setCell ⟨gb189, 1, none⟩ (.int .i64 ((rd_T77 l0 x9_1).f1))).setCell ⟨gb189, 2, none⟩ (.string ((rd_T77 l0 x9_1).f2))) w.heap.size (fun _ => True) u3 x3_1) := ⟨by (with_reducible repeat (first | apply Kd.R_alloc | apply Kd.R_drewN | apply Kd.R_drew)); exact Kd.R_mono (Kd.R_far (p := ⟨gb189, 2, none⟩) (Kd.R_far (p := ⟨gb189, 1, none⟩) (Kd.R_far (p := ⟨gb189, 0, none⟩) (Kd.R_types HO_3.out BK189.out (by decide)) (fun _ hk => hk.2) (.int .i64 ((rd_T77 l0 x9_1).f0))) (fun _ hk => hk.2) (.int .i64 ((rd_T77 l0 x9_1).f1))) (fun _ hk => hk.2) (.string ((rd_T77 l0 x9_1).f2))) (fun _ hk => trivial)⟩
            have n1_ : Aside0 ((((w30.setCell ⟨gb189, 0, none⟩ (.int .i64 ((rd_T77 l0 x9_1).f0))).setCell ⟨gb189, 1, none⟩ (.int .i64 ((rd_T77 l0 x9_1).f1))).setCell ⟨gb189, 2, none⟩ (.string ((rd_T77 l0 x9_1).f2))).heap[gb189]? = some (.cells #[.int .i64 ((rd_T77 l0 x9_1).f0), .int .i64 ((rd_T77 l0 x9_1).f1), .string ((rd_T77 l0 x9_1).f2)] 77 (0, 0))) := ⟨by (with_reducible repeat (first | refine blk_drewN ?_ _ | refine blk_drew ?_ | refine blk_alloc ?_ _)); refine blk_put (cs := #[.int .i64 ((rd_T77 l0 x9_1).f0), .int .i64 ((rd_T77 l0 x9_1).f1), .string (⟨#[]⟩ : ByteArray)]) ?_ 2 _ rfl; (with_reducible repeat (first | refine blk_drewN ?_ _ | refine blk_drew ?_ | refine blk_alloc ?_ _)); refine blk_put (cs := #[.int .i64 ((rd_T77 l0 x9_1).f0), .int .i64 0, .string (⟨#[]⟩ : ByteArray)]) ?_ 1 _ rfl; (with_reducible repeat (first | refine blk_drewN ?_ _ | refine blk_drew ?_ | refine blk_alloc ?_ _)); refine blk_put (cs := #[.int .i64 0, .int .i64 0, .string (⟨#[]⟩ : ByteArray)]) ?_ 0 _ rfl; (with_reducible repeat (first | refine blk_drewN ?_ _ | refine blk_drew ?_ | refine blk_alloc ?_ _)); exact BK189.out⟩
            have n2_ : Aside0 (Below w.heap.size w (((w30.setCell ⟨gb189, 0, none⟩ (.int .i64 ((rd_T77 l0 x9_1).f0))).setCell ⟨gb189, 1, none⟩ (.int .i64 ((rd_T77 l0 x9_1).f1))).setCell ⟨gb189, 2, none⟩ (.string ((rd_T77 l0 x9_1).f2)))) := ⟨zb _⟩
            (try clear HO_3)
            (try clear BK189)
            (try clear HB)
            generalize (((w30.setCell ⟨gb189, 0, none⟩ (.int .i64 ((rd_T77 l0 x9_1).f0))).setCell ⟨gb189, 1, none⟩ (.int .i64 ((rd_T77 l0 x9_1).f1))).setCell ⟨gb189, 2, none⟩ (.string ((rd_T77 l0 x9_1).f2))) = w32 at n0_ n1_ n2_ ⊢
            have HO_3 := n0_
            have BK189 := n1_
            have HB := n2_
            clear n0_ n1_ n2_
            have n0_ := Aside0.mk (Kd.R_drew HO_3.out)
            have n1_ := Aside0.mk (blk_drew BK189.out)
            have n2_ := Aside0.mk (below_drew1 HB.out)
            clear HO_3
            clear BK189
            clear HB
            have HO_3 := n0_
            have BK189 := n1_
            have HB := n2_
            clear n0_ n1_ n2_
            refine start_ (n := 10) (S := fun w' => w'.cell? ⟨gb189, 0, none⟩ = some (.int .i64 ((rd_T77 l0 x9_1).f0)) ∧ w'.cell? ⟨gb189, 1, none⟩ = some (.int .i64 ((rd_T77 l0 x9_1).f1)) ∧ w'.cell? ⟨gb189, 2, none⟩ = some (.string ((rd_T77 l0 x9_1).f2))) (ds := [6, 7, 8]) (zm 10 0) (by kernel_rfl) rfl rfl ⟨(blk_cell BK189.out 0).trans rfl, (blk_cell BK189.out 1).trans rfl, (blk_cell BK189.out 2).trans rfl⟩ (fun hHeld => ?_); refine with_tabW impl_exprText.tab6 impl_exprText.bits6 (fun HT_ HW_ => ?_)
            generalize w32.drew = w33 at HO_3 BK189 HB hHeld ⊢
            refine zp 0 15 (zm 10 1) ?_
            refine zp 2 17 (zm 10 5) ?_
            refine take_ (i := 3) (N := some 18) (v := ?_) (a' := ?_) (zm 10 13) rfl rfl (take_ofW HT_.out HW_.out (by kernel_rfl)) (fun _ _ _ h => h) (Or.inl ⟨by rfl, ?_⟩) hHeld ?_ ?_
            rotate_left
            ·rintro w' ⟨s0, s1, s2⟩
             go_simp
             with_reducible rfl
            rotate_left
            ·simp only [Act.put, List.setIfInBounds_toArray, List.set_cons_zero, List.set_cons_succ, i64_w, i32_w]
             rfl
            refine zp 4 19 (zm 10 29) ?_
            refine one_ (i := 1) (N := some 16) (zm 10 31) rfl rfl (one_of HT_.out (by kernel_rfl)) (by decide) (fun K hK => ?_)
            refine zi Tryd.func77 #[] ?_
            with_reducible refine (impl_opWords.calls  t200 _ ?side1 A25.out).mono ?_
            (case side1 => exact GW.below HG.out (zb _))
            rintro e w34 ⟨v201, rfl, ho0, hb⟩
            refine ⟨_, rfl, ?_⟩
            have n0_ := Aside0.mk (Kd.R_elder' (by (with_reducible repeat (first | apply Kd.R_alloc | apply Kd.R_drewN | apply Kd.R_drew)); exact HO_3.out) (Kd.R_base ho0) hb)
            have n1_ := Aside0.mk (Kd.R_lower (Kd.R_new' ho0 (Kd.R_lt (by (with_reducible repeat (first | apply Kd.R_alloc | apply Kd.R_drewN | apply Kd.R_drew)); exact HO_3.out))) (below_size (zb _)))
            have n2_ := zk BK189 hb
            have n3_ := zt w hb
            clear HO_3
            clear BK189
            clear HB
            have HO_3 := n0_
            have HO202 := n1_
            have BK189 := n2_
            have HB := n3_
            clear n0_ n1_ n2_ n3_
            (try clear hb)
            (try clear hb2)
            (try clear hk)
            (try clear hi)
            (try clear ho0)
            obtain ⟨Ao35, co35, eo35⟩ := Kd.R_slice HO202.out
            (first | subst eo35 | (injection eo35 with f1_ f2_ f3_; have f4_ := f1_.symm; have f5_ := f3_.symm; clear f1_ f2_ f3_; subst f4_; subst f5_))
            have p203 : 0 ≤ ((ji26) : Int) := of_decide_eq_true (za _)
            have q203 : (ji26) < (t200.length : Int) := of_decide_eq_true (za _)
            obtain ⟨ad203, e203, hx203_0⟩ := Kd.at_string (Kd.R_reads' HO202.out).2.2 (ji26) p203 q203
            cases e203
            replace p203 := eq_true p203
            replace q203 := eq_true q203
            refine hK.out _ _ ⟨(blk_cell BK189.out 0).trans rfl, (blk_cell BK189.out 1).trans rfl, (blk_cell BK189.out 2).trans rfl⟩ (fun hHeld => ?_)
            clear hK K
            refine zq ?_
            refine zp 5 20 (zm 10 63) ?_
            refine last_ (i := 6) (N := some 21) (zm 10 127) rfl rfl (one_of HT_.out (by kernel_rfl)) (by decide) (fun K hK => ?_)
            refine value_ (w1 := ?_) (v := ?_) (by rfl) rfl ?_ ?_
            rotate_left 2
            ·go_simp
             constructor
             ·rfl
             ·rfl
            refine hK.out _ _ ?_
            clear hK K
            refine zq ?_
            refine last_ (i := 7) (N := some 22) (zm 10 255) rfl rfl (one_of HT_.out (by kernel_rfl)) (by decide) (fun K hK => ?_)
            refine value_ (w1 := ?_) (v := ?_) (by rfl) rfl ?_ ?_
            rotate_left 2
            ·go_simp
             constructor
             ·rfl
             ·rfl
            refine hK.out _ _ ?_
            clear hK K
            refine zq ?_
            refine last_ (i := 8) (N := some 23) (zm 10 511) rfl rfl (one_of HT_.out (by kernel_rfl)) (by decide) (fun K hK => ?_)
            refine Kd.R_append_step Kd.string (w0 := w) w.heap.size (by rfl) (.tmp 15) (.tmp 22) 66 9 (.string ⟨#[]⟩) 16 rfl Tryd.underlying66 info9 rfl (by decide) (by omega) u3 x3_1 (rdOf ByteArray.empty t200 (ji26)) [.string (rdOf ByteArray.empty t200 (ji26))] (fun k_ => some k_ ≠ (.slice (some ad203) t200.length co35 : Value).ownBlock) (fun _ => False) rfl rfl ?aP (fun _ hk => hk.elim) ?aF ?aO ?aB ?aS ?aL ?_
            (case aP => exact rfl)
            (case aB => exact (zb _))
            (case aF => exact (fun k_ hk => Kd.fresh' (Kd.R_lt (by (with_reducible repeat (first | apply Kd.R_alloc | apply Kd.R_drewN | apply Kd.R_drew)); exact HO202.out)) k_ hk))
            (case aO => exact (by (with_reducible repeat (first | apply Kd.R_alloc | apply Kd.R_drewN | apply Kd.R_drew)); exact Kd.R_mono HO_3.out (fun _ hk => hk.2)))
            (case aS => exact (below_size (zb _)))
            (case aL => have := LMc29.out; omega)
            intro v205 w36 ho hb hg hat
            rw [← Ny204.out] at ho
            have n0_ := Aside0.mk (blk_grown (g := gb189) (o := .cells #[.int .i64 ((rd_T77 l0 x9_1).f0), .int .i64 ((rd_T77 l0 x9_1).f1), .string ((rd_T77 l0 x9_1).f2)] 77 (0, 0)) (zr BK189) hg (Kd.R_ne HO_3.out BK189.out (by decide)))
            have n1_ := Aside0.mk (Kd.R_after (ok := (fun _ => True)) (by (with_reducible repeat (first | apply Kd.R_alloc | apply Kd.R_drewN | apply Kd.R_drew)); exact HO202.out) hg hat)
            have n2_ := Aside0.mk (hb)
            have n3_ := Aside0.mk (ho)
            clear BK189
            clear HO202
            clear HB
            clear HO_3
            have BK189 := n0_
            have HO202 := n1_
            have HB := n2_
            have HO206 := n3_
            clear n0_ n1_ n2_ n3_
            clear ho hb hg hat
            refine hK.out _ _ ?_
            clear hK K
            refine zq ?_
            refine zp 9 3 (zm 10 1023) ?_
            refine done_ (done_of HT_.out (by kernel_rfl)) ?_
            try go_wp2
            go_roundg k1
            case measure => have := HK1.out; omega
            case rel => exact ⟨(y204), (wrap64 (x9_1 + 1)), (zE _), H', ⟨by have := HK1.out; omega⟩, ⟨by (with_reducible repeat (first | apply Kd.R_alloc | apply Kd.R_drewN | apply Kd.R_drew)); exact Kd.R_mono HO206.out (fun _ hk => trivial)⟩, ⟨zb _⟩⟩
           ·rw [if_neg c29] at H
            exact absurd H (by simp)
          ·rw [if_neg c28] at H
           exact absurd H (by simp)
         ·rw [if_neg c27] at H
          exact absurd H (by simp)
     ·rw [if_neg c6] at H
      exact absurd H (by simp)
    ·rw [if_neg c5] at H
     exact absurd H (by simp)
   ·rw [if_neg c4] at H
    have c4b0 : decide (x9_1 < (l0.length : Int)) = false := decide_eq_false c4
    clear c4
    obtain ⟨t187, A370, H⟩ := Option.bind_eq_some_iff.mp H
    have A37 := Aside0.mk A370
    clear A370
    obtain rfl := Option.some.inj H
    obtain ⟨Ao38, co38, eo38⟩ := Kd.R_slice HO_3.out
    subst eo38
    go_wp2_with (first | ((with_reducible refine gate_callee (f := 123) rfl ?_); refine zc (some 49) Tryd.func123 #[.slice Ao38 x3_1.length co38, .string (⟨#[32]⟩ : ByteArray)] ?_; (with_reducible refine (strings_Join.calls _ _ x3_1 (⟨#[32]⟩ : ByteArray) t187 _ ?side1 ?side2 A37.out).mono ?_); (case side1 => repeat (first | exact (Kd.R_reads' HO_3.out).2.2 | (with_reducible refine Kd.C_alloc ?_ _) | (with_reducible refine Kd.C_drewN ?_ _) | (with_reducible refine Kd.C_drew ?_))); (case side2 => exact (Kd.R_reads' HO_3.out).2.1); rintro e w39 ⟨rfl, hb⟩; refine ⟨_, rfl, ?_⟩; replace HO_3 := Aside0.mk (Kd.R_below (by (with_reducible repeat (first | apply Kd.R_alloc | apply Kd.R_drewN | apply Kd.R_drew)); exact HO_3.out) hb); replace HB := zt w hb; (try clear hb); (try clear hb2); (try clear hk); (try clear hi)))
    first | go_ret | ((try simp only [Exit.inBlock, Exit.then]); apply bodyPost_ret; (exact results_tmp rfl _ _ _); rfl)
    exact ⟨ze _, zb _⟩

/-! ### impl_ReadExpr: function 30 -/
def impl_ReadExpr.l0 : Nat → ByteArray → List (S77) → List ByteArray → Int → Int → Option ((List (S77)) × Bool)
  | 0, _, _, _, _, _ => none
  | k + 1, x0, x5, x19, x20, x21 => if x21 < x20 then (if 0 ≤ x21 then (if x21 < (x19.length : Int) then ((strings_CutPrefix.f (rdOf ByteArray.empty x19 x21) (⟨#[35]⟩ : ByteArray)).bind fun bt214 => ((strconv_ParseInt.f (rdOf ByteArray.empty x19 x21) 10 64).bind fun bt216 => ((impl_opWords.f).bind fun t218 => ((slices_Index_string_string.f k t218 (rdOf ByteArray.empty x19 x21)).bind fun t221 => (if bt214.2 = true then (if x5.length < 4398046511104 then (impl_ReadExpr.l0 k x0 (x5 ++ [(⟨3, 0, bt214.1⟩ : S77)]) x19 x20 (wrap64 (x21 + 1))) else (none)) else (if t221 ≥ 0 then (if x5.length < 4398046511104 then (impl_ReadExpr.l0 k x0 (x5 ++ [(⟨wrap64 (4 + t221), 0, (⟨#[]⟩ : ByteArray)⟩ : S77)]) x19 x20 (wrap64 (x21 + 1))) else (none)) else (if bt216.2.isNone = true then (if x5.length < 4398046511104 then (impl_ReadExpr.l0 k x0 (x5 ++ [(⟨1, bt216.1, (⟨#[]⟩ : ByteArray)⟩ : S77)]) x19 x20 (wrap64 (x21 + 1))) else (none)) else (if x5.length < 4398046511104 then (impl_ReadExpr.l0 k x0 (x5 ++ [(⟨2, 0, rdOf ByteArray.empty x19 x21⟩ : S77)]) x19 x20 (wrap64 (x21 + 1))) else (none))))))))) else (none)) else (none)) else ((impl_ExprOk.f k x5).bind fun t235 => (if t235 = true then ((impl_exprText.f k x5).bind fun t236 => (if t236.toList = x0.toList then (some (x5, true)) else (some (([] : List (S77)), false)))) else (some (([] : List (S77)), false))))
def impl_ReadExpr.f (k : Nat) (a0 : ByteArray) : Option ((List (S77)) × Bool) := (strings_Split.f a0 (⟨#[32]⟩ : ByteArray)).bind fun t207 => (if (t207.length : Int) > 30 then (some (([] : List (S77)), false)) else (impl_ReadExpr.l0 k a0 (([] : List (S77))) t207 (t207.length : Int) 0))
theorem impl_ReadExpr.mono_l : ∀ k, (∀ y0 y1 y2 y3 y4, LeO (impl_ReadExpr.l0 k y0 y1 y2 y3 y4) (impl_ReadExpr.l0 (k + 1) y0 y1 y2 y3 y4))
  | 0 => fun _ _ _ _ _ r h => by simp [impl_ReadExpr.l0] at h
  | k + 1 => by
    have ih0 := impl_ReadExpr.mono_l k
    · intro y0 y1 y2 y3 y4
      unfold impl_ReadExpr.l0
      repeat' first
      | (with_reducible exact ih0 _ _ _ _ _)
      | (with_reducible exact impl_ExprOk.mono _ _)
      | (with_reducible exact impl_exprText.mono _ _)
      | (with_reducible exact slices_Index_string_string.mono _ _ _)
      | (with_reducible exact LeO.refl _)
      | (with_reducible exact LeO.none _)
      | (with_reducible refine LeO.ite ?_ ?_)
      | (with_reducible refine LeO.bind ?_ (fun _ => ?_))
      | exact ih0 _ _ _ _ _
      | exact impl_ExprOk.mono _ _
      | exact impl_exprText.mono _ _
      | exact slices_Index_string_string.mono _ _ _
      | exact LeO.none _
      | refine LeO.ite ?_ ?_
      | refine LeO.bind ?_ (fun _ => ?_)
theorem impl_ReadExpr.mono : ∀ a0 k, LeO (impl_ReadExpr.f k a0) (impl_ReadExpr.f (k + 1) a0) := by
  intro a0 k
  have ih0 := impl_ReadExpr.mono_l k
  unfold impl_ReadExpr.f
  repeat' first
      | (with_reducible exact ih0 _ _ _ _ _)
      | (with_reducible exact impl_ExprOk.mono _ _)
      | (with_reducible exact impl_exprText.mono _ _)
      | (with_reducible exact slices_Index_string_string.mono _ _ _)
      | (with_reducible exact LeO.refl _)
      | (with_reducible exact LeO.none _)
      | (with_reducible refine LeO.ite ?_ ?_)
      | (with_reducible refine LeO.bind ?_ (fun _ => ?_))
      | exact ih0 _ _ _ _ _
      | exact impl_ExprOk.mono _ _
      | exact impl_exprText.mono _ _
      | exact slices_Index_string_string.mono _ _ _
      | exact LeO.none _
      | refine LeO.ite ?_ ?_
      | refine LeO.bind ?_ (fun _ => ?_)
set_option maxHeartbeats 8000000 in
set_option maxRecDepth 100000 in
theorem impl_ReadExpr.calls (k : Nat) (a0 : ByteArray) (r1 : List (S77)) (r2 : Bool) (w : World) (hG : GW w) (h : impl_ReadExpr.f k a0 = some (r1, r2)) :
 Calls Tryd.prog 30 #[.string a0] w fun e w' => ∃ v0_ : Value, e = .returned (.tuple #[v0_, .bool r2]) ∧ Kd.R k77 77 w' w.heap.size (fun _ => True) v0_ r1 ∧ Below w.heap.size w w' := by
 have hu77 := Tryd.underlying77
 have hu83 := Tryd.underlying83
 have HB := Aside0.mk (Below.refl w.heap.size w)
 have HG := Aside0.mk hG
 clear hG
 have H : ((strings_Split.f a0 (⟨#[32]⟩ : ByteArray)).bind fun t207 => (if (t207.length : Int) > 30 then (some (([] : List (S77)), false)) else (impl_ReadExpr.l0 k a0 (([] : List (S77))) t207 (t207.length : Int) 0))) = some (r1, r2) := h
 clear h
 obtain ⟨t207, A20, H⟩ := Option.bind_eq_some_iff.mp H
 have A2 := Aside0.mk A20
 clear A20
 by_cases c3 : (t207.length : Int) > 30
 ·rw [if_pos c3] at H
  have c3b0 : decide (30 < (t207.length : Int)) = true := decide_eq_true c3
  have c3b1 : decide (30 < t207.length) = true := decide_eq_true (by omega)
  clear c3
  simp only [Option.some.injEq, Prod.mk.injEq] at H
  obtain ⟨rfl, rfl⟩ := H
  go_enter Tryd.func30, Tryd.ntmps30
  go_wp2_with (first | ((with_reducible refine gate_callee (f := 67) rfl ?_); refine zc (some 14) Tryd.func67 #[.string a0, .string (⟨#[32]⟩ : ByteArray)] ?_; (with_reducible refine (strings_Split.calls a0 (⟨#[32]⟩ : ByteArray) t207 _ ?side1 A2.out).mono ?_); (case side1 => exact GW.below HG.out (zb _)); rintro e w4 ⟨v208, rfl, ho0, hb⟩; refine ⟨_, rfl, ?_⟩; have HO209 := Aside0.mk (Kd.R_lower ho0 (below_size (zb _))); replace HB := zt w hb; (try clear hb); (try clear hb2); (try clear hk); (try clear hi); (try clear ho0); obtain ⟨Ao5, co5, eo5⟩ := Kd.R_slice HO209.out; subst eo5))
  go_ret2
  exact ⟨_, by first | rfl | (simp [errW_none, errW_some] <;> rfl) | (simp [*, errW_none, errW_some] <;> rfl), by first | exact Kd.R_nil _ _ _ _ _ | exact Kd.N_nil _ _ _ _ _ | exact Kd.V_nil _ _ _ _ _ | exact Kd.Q_nil _ _ _ _ _ | exact Kd.S_nil _ _ _ _ _, zb _⟩
 ·rw [if_neg c3] at H
  have c3b0 : decide (30 < (t207.length : Int)) = false := decide_eq_false c3
  have c3b1 : decide (30 < t207.length) = false := decide_eq_false (by omega)
  clear c3
  obtain ⟨y210, hy210⟩ : ∃ y_ : List (S77), y_ = (([] : List (S77))) := ⟨_, rfl⟩
  replace H : (impl_ReadExpr.l0 k a0 y210 t207 (t207.length : Int) 0) = some (r1, r2) := by first | (rw [hy210]; with_reducible exact H) | (have H2_ := (Option.bind_some _ _).symm.trans H; rw [hy210]; with_reducible exact H2_) | (have H2_ := (Option.bind_some _ _).symm.trans H; with_reducible exact H2_) | with_reducible exact H | (rw [hy210]; exact H) | exact H
  have Ny210 := Aside0.mk hy210
  clear hy210
  have H' := Aside0.mk H
  clear H
  go_enter Tryd.func30, Tryd.ntmps30
  go_wp2_with (first | ((with_reducible refine gate_callee (f := 67) rfl ?_); refine zc (some 14) Tryd.func67 #[.string a0, .string (⟨#[32]⟩ : ByteArray)] ?_; (with_reducible refine (strings_Split.calls a0 (⟨#[32]⟩ : ByteArray) t207 _ ?side1 A2.out).mono ?_); (case side1 => exact GW.below HG.out (zb _)); rintro e w6 ⟨v208, rfl, ho0, hb⟩; refine ⟨_, rfl, ?_⟩; have HO209 := Aside0.mk (Kd.R_lower ho0 (below_size (zb _))); replace HB := zt w hb; (try clear hb); (try clear hb2); (try clear hk); (try clear hi); (try clear ho0); obtain ⟨Ao7, co7, eo7⟩ := Kd.R_slice HO209.out; subst eo7) | ((with_reducible refine gate_dst (N := 18) rfl ?_); refine Kd.R_lit k77 _ 77 ?hg (N := 18) ?hd (xs := ([] : List (S77))) (inner := []) (ok := fun _ => True) (okp := fun _ => True) ?hr ?hp (fun _ hk => hk) trivial (Below.refl _ _) (Nat.le_refl _) (by simp) ?_; (case hd => rfl); (case hg => rfl); (case hr => first | (go_simp; done) | (go_simp; rfl)); (case hp => exact (Reps.none _ _)); intro v211 w8 ho9 hb hg_ hnew_; clear hg_ hnew_; (first | rw [← Ny210.out] at ho9 | (simp only [Int.reduceToNat] at ho9; rw [← Ny210.out] at ho9)); have HO212 := Aside0.mk (Kd.R_lower ho9 (below_size (zb _))); replace HO209 := Aside0.mk (Kd.R_below (by (with_reducible repeat (first | apply Kd.R_alloc | apply Kd.R_drewN | apply Kd.R_drew)); exact HO209.out) hb); replace HB := zt w hb; clear hb ho9))
  go_loopg [5, 21] k (fun kq v5 v21 w' => ∃ (x5_1 : List (S77)) (x21_1 : Int), v21 = .int .i64 x21_1 ∧ Aside0 (impl_ReadExpr.l0 kq a0 x5_1 t207 (t207.length : Int) x21_1 = some (r1, r2)) ∧ Aside0 (kq ≤ k) ∧ Aside0 (Kd.R k77 77 w' w.heap.size (fun _ => True) v5 x5_1) ∧ Aside0 (Kd.R Kd.string 9 w' w.heap.size (fun _ => True) (.slice Ao7 t207.length co7) t207) ∧ Aside0 (Below w.heap.size w w'))
  case atStart => exact ⟨(y210), (0), (zE _), H', ⟨Nat.le_refl _⟩, ⟨by (with_reducible repeat (first | apply Kd.R_alloc | apply Kd.R_drewN | apply Kd.R_drew)); exact HO212.out⟩, ⟨by (with_reducible repeat (first | apply Kd.R_alloc | apply Kd.R_drewN | apply Kd.R_drew)); exact HO209.out⟩, ⟨zb _⟩⟩
  case round =>
   clear H'
   try clear p2
   try clear c3
   try clear c3b0
   try clear c3b1
   try clear c6
   obtain ⟨x5_1, x21_1, rfl, HA, HK1, HO_5, HO_19, HB⟩ := hrel
   cases gk with
   | zero => exact absurd HA.out (by simp [impl_ReadExpr.l0])
   | succ k1 =>
    have H := HA.out
    clear HA
    simp only [impl_ReadExpr.l0] at H
    by_cases c10 : x21_1 < (t207.length : Int)
    ·rw [if_pos c10] at H
     have c10b0 : decide (x21_1 < (t207.length : Int)) = true := decide_eq_true c10
     clear c10
     by_cases c11 : 0 ≤ x21_1
     ·rw [if_pos c11] at H
      have c11b0 : decide (0 ≤ x21_1) = true := decide_eq_true c11
      clear c11
      by_cases c12 : x21_1 < (t207.length : Int)
      ·rw [if_pos c12] at H
       have c12b0 : decide (x21_1 < (t207.length : Int)) = true := decide_eq_true c12
       clear c12
       replace H := Option.bind_eq_some_iff.mp H
       obtain ⟨⟨t214, t215⟩, A130, H⟩ := H
       replace H : ((strconv_ParseInt.f (rdOf ByteArray.empty t207 x21_1) 10 64).bind fun bt216 => ((impl_opWords.f).bind fun t218 => ((slices_Index_string_string.f k1 t218 (rdOf ByteArray.empty t207 x21_1)).bind fun t221 => (if t215 = true then (if x5_1.length < 4398046511104 then (impl_ReadExpr.l0 k1 a0 (x5_1 ++ [(⟨3, 0, t214⟩ : S77)]) t207 (t207.length : Int) (wrap64 (x21_1 + 1))) else (none)) else (if t221 ≥ 0 then (if x5_1.length < 4398046511104 then (impl_ReadExpr.l0 k1 a0 (x5_1 ++ [(⟨wrap64 (4 + t221), 0, (⟨#[]⟩ : ByteArray)⟩ : S77)]) t207 (t207.length : Int) (wrap64 (x21_1 + 1))) else (none)) else (if bt216.2.isNone = true then (if x5_1.length < 4398046511104 then (impl_ReadExpr.l0 k1 a0 (x5_1 ++ [(⟨1, bt216.1, (⟨#[]⟩ : ByteArray)⟩ : S77)]) t207 (t207.length : Int) (wrap64 (x21_1 + 1))) else (none)) else (if x5_1.length < 4398046511104 then (impl_ReadExpr.l0 k1 a0 (x5_1 ++ [(⟨2, 0, rdOf ByteArray.empty t207 x21_1⟩ : S77)]) t207 (t207.length : Int) (wrap64 (x21_1 + 1))) else (none)))))))) = some (r1, r2) := H
       have A13 := Aside0.mk A130
       clear A130
       replace H := Option.bind_eq_some_iff.mp H
       obtain ⟨⟨t216, t217⟩, A140, H⟩ := H
       replace H : ((impl_opWords.f).bind fun t218 => ((slices_Index_string_string.f k1 t218 (rdOf ByteArray.empty t207 x21_1)).bind fun t221 => (if t215 = true then (if x5_1.length < 4398046511104 then (impl_ReadExpr.l0 k1 a0 (x5_1 ++ [(⟨3, 0, t214⟩ : S77)]) t207 (t207.length : Int) (wrap64 (x21_1 + 1))) else (none)) else (if t221 ≥ 0 then (if x5_1.length < 4398046511104 then (impl_ReadExpr.l0 k1 a0 (x5_1 ++ [(⟨wrap64 (4 + t221), 0, (⟨#[]⟩ : ByteArray)⟩ : S77)]) t207 (t207.length : Int) (wrap64 (x21_1 + 1))) else (none)) else (if t217.isNone = true then (if x5_1.length < 4398046511104 then (impl_ReadExpr.l0 k1 a0 (x5_1 ++ [(⟨1, t216, (⟨#[]⟩ : ByteArray)⟩ : S77)]) t207 (t207.length : Int) (wrap64 (x21_1 + 1))) else (none)) else (if x5_1.length < 4398046511104 then (impl_ReadExpr.l0 k1 a0 (x5_1 ++ [(⟨2, 0, rdOf ByteArray.empty t207 x21_1⟩ : S77)]) t207 (t207.length : Int) (wrap64 (x21_1 + 1))) else (none))))))) = some (r1, r2) := H
       have A14 := Aside0.mk A140
       clear A140
       obtain ⟨t218, A150, H⟩ := Option.bind_eq_some_iff.mp H
       have A15 := Aside0.mk A150
       clear A150
       obtain ⟨t221, A160, H⟩ := Option.bind_eq_some_iff.mp H
       have A16 := Aside0.mk A160
       clear A160
       by_cases c17 : t215 = true
       ·subst c17
        rw [if_pos rfl] at H
        by_cases c18 : x5_1.length < 4398046511104
        ·rw [if_pos c18] at H
         have LMc18 := Aside0.mk c18
         clear c18
         obtain ⟨y222, hy222⟩ : ∃ y_ : List (S77), y_ = (x5_1 ++ [(⟨3, 0, t214⟩ : S77)]) := ⟨_, rfl⟩
         replace H : (impl_ReadExpr.l0 k1 a0 y222 t207 (t207.length : Int) (wrap64 (x21_1 + 1))) = some (r1, r2) := by first | (rw [hy222]; with_reducible exact H) | (have H2_ := (Option.bind_some _ _).symm.trans H; rw [hy222]; with_reducible exact H2_) | (have H2_ := (Option.bind_some _ _).symm.trans H; with_reducible exact H2_) | with_reducible exact H | (rw [hy222]; exact H) | exact H
         have Ny222 := Aside0.mk hy222
         clear hy222
         have H' := Aside0.mk H
         clear H
         have p213 : 0 ≤ (x21_1 : Int) := of_decide_eq_true (za _)
         have q213 : x21_1 < (t207.length : Int) := of_decide_eq_true (za _)
         obtain ⟨ad213, e213, hx213_0⟩ := Kd.at_string (Kd.R_reads' HO_19.out).2.2 x21_1 p213 q213
         cases e213
         replace p213 := eq_true p213
         replace q213 := eq_true q213
         go_wp2_with (first | ((with_reducible refine gate_callee (f := 74) rfl ?_); refine zc (some 27) Tryd.func74 #[.string (rdOf ByteArray.empty t207 x21_1), .string (⟨#[35]⟩ : ByteArray)] ?_; (with_reducible refine (strings_CutPrefix.calls (rdOf ByteArray.empty t207 x21_1) (⟨#[35]⟩ : ByteArray) t214 true _ A13.out).mono ?_); rintro e w' ⟨rfl, ⟨nd, rfl⟩⟩; refine ⟨_, rfl, ?_⟩) | ((with_reducible refine gate_callee (f := 75) rfl ?_); refine zc (some 32) Tryd.func75 #[.string (rdOf ByteArray.empty t207 x21_1), .int .i64 10, .int .i64 64] ?_; (with_reducible refine (strconv_ParseInt.calls (rdOf ByteArray.empty t207 x21_1) 10 64 t216 t217 _ ?side1 A14.out).mono ?_); (case side1 => exact GW.below HG.out (zb _)); rintro e w19 ⟨⟨ev_, rfl, hev_⟩, hb⟩; clear hev_; refine ⟨_, rfl, ?_⟩; replace HO_5 := Aside0.mk (Kd.R_below (by (with_reducible repeat (first | apply Kd.R_alloc | apply Kd.R_drewN | apply Kd.R_drew)); exact HO_5.out) hb); replace HO_19 := Aside0.mk (Kd.R_below (by (with_reducible repeat (first | apply Kd.R_alloc | apply Kd.R_drewN | apply Kd.R_drew)); exact HO_19.out) hb); replace HB := zt w hb; (try clear hb); (try clear hb2); (try clear hk); (try clear hi); (try simp only [errW_none, errW_some])) | ((with_reducible refine gate_callee (f := 77) rfl ?_); refine zc (some 35) Tryd.func77 #[] ?_; (with_reducible refine (impl_opWords.calls  t218 _ ?side1 A15.out).mono ?_); (case side1 => exact GW.below HG.out (zb _)); rintro e w20 ⟨v219, rfl, ho0, hb⟩; refine ⟨_, rfl, ?_⟩; have HO220 := Aside0.mk (Kd.R_lower (Kd.R_new' ho0 (Kd.R_lt (by (with_reducible repeat (first | apply Kd.R_alloc | apply Kd.R_drewN | apply Kd.R_drew)); exact HO_19.out))) (below_size (zb _))); replace HO_5 := Aside0.mk (Kd.R_below (by (with_reducible repeat (first | apply Kd.R_alloc | apply Kd.R_drewN | apply Kd.R_drew)); exact HO_5.out) hb); replace HO_19 := Aside0.mk (Kd.R_elder' (by (with_reducible repeat (first | apply Kd.R_alloc | apply Kd.R_drewN | apply Kd.R_drew)); exact HO_19.out) (Kd.R_base ho0) hb); replace HB := zt w hb; (try clear hb); (try clear hb2); (try clear hk); (try clear hi); (try clear ho0); obtain ⟨Ao21, co21, eo21⟩ := Kd.R_slice HO220.out; subst eo21) | ((with_reducible refine gate_callee (f := 76) rfl ?_); refine zc (some 37) Tryd.func76 #[.slice Ao21 t218.length co21, .string (rdOf ByteArray.empty t207 x21_1)] ?_; (with_reducible refine (slices_Index_string_string.calls k1 _ _ t218 (rdOf ByteArray.empty t207 x21_1) t221 _ ?side1 ?side2 A16.out).mono ?_); (case side1 => repeat (first | exact (Kd.R_reads' HO220.out).2.2 | (with_reducible refine Kd.C_alloc ?_ _) | (with_reducible refine Kd.C_drewN ?_ _) | (with_reducible refine Kd.C_drew ?_))); (case side2 => exact (Kd.R_reads' HO220.out).2.1); rintro e w' ⟨rfl, ⟨nd, rfl⟩⟩; refine ⟨_, rfl, ?_⟩) | ((with_reducible refine gate_builtin (b := .append) (xs := #[.tmp 45, .tmp 48]) rfl ?_); at_builtin; refine Kd.R_append k77 (w0 := w) w.heap.size rfl (.tmp 45) (.tmp 48) 38 77 (.agg #[(.int .i64 0), (.int .i64 0), (.string ⟨#[]⟩)]) 32 rfl Tryd.underlying38 info77 rfl (by decide) (by omega) u5 x5_1 (⟨3, 0, t214⟩ : S77) [.int .i64 3, .int .i64 0, .string t214] (fun _ => True) (fun _ => False) rfl rfl ?aP (fun _ hk => hk.elim) ?aF ?aO ?aB ?aS ?aL ?_; (case aP => exact k77_mkM _ _ _ (⟨3, 0, t214⟩ : S77)); (case aB => exact (zb _)); (case aF => exact (fun _ _ => trivial)); (case aO => exact (by (with_reducible repeat (first | apply Kd.R_alloc | apply Kd.R_drewN | apply Kd.R_drew)); exact HO_5.out)); (case aS => exact (below_size (zb _))); (case aL => have := LMc18.out; omega); intro v223 w22 ho hb hg hat; rw [← Ny222.out] at ho; have HO224 := Aside0.mk (ho); replace HO_19 := Aside0.mk (Kd.R_over' (by (with_reducible repeat (first | apply Kd.R_alloc | apply Kd.R_drewN | apply Kd.R_drew)); exact HO_19.out) (Kd.R_typed (by (with_reducible repeat (first | apply Kd.R_alloc | apply Kd.R_drewN | apply Kd.R_drew)); exact HO_5.out)) (by decide) hg); replace HO220 := Aside0.mk (Kd.R_over' (by (with_reducible repeat (first | apply Kd.R_alloc | apply Kd.R_drewN | apply Kd.R_drew)); exact HO220.out) (Kd.R_typed (by (with_reducible repeat (first | apply Kd.R_alloc | apply Kd.R_drewN | apply Kd.R_drew)); exact HO_5.out)) (by decide) hg); replace HB := Aside0.mk (hb); clear HO_5; clear ho hb hg hat))
         go_roundg k1
         case measure => have := HK1.out; omega
         case rel => exact ⟨(y222), (wrap64 (x21_1 + 1)), (zE _), H', ⟨by have := HK1.out; omega⟩, ⟨by (with_reducible repeat (first | apply Kd.R_alloc | apply Kd.R_drewN | apply Kd.R_drew)); exact HO224.out⟩, ⟨by (with_reducible repeat (first | apply Kd.R_alloc | apply Kd.R_drewN | apply Kd.R_drew)); exact Kd.R_mono HO_19.out (fun _ hk => trivial)⟩, ⟨zb _⟩⟩
        ·rw [if_neg c18] at H
         exact absurd H (by simp)
       ·replace c17 := Bool.eq_false_iff.mpr c17
        subst c17
        rw [if_neg (show ¬ (false = true) by decide)] at H
        by_cases c23 : t221 ≥ 0
        ·rw [if_pos c23] at H
         have c23b0 : decide (0 ≤ t221) = true := decide_eq_true c23
         clear c23
         by_cases c24 : x5_1.length < 4398046511104
         ·rw [if_pos c24] at H
          have LMc24 := Aside0.mk c24
          clear c24
          obtain ⟨y225, hy225⟩ : ∃ y_ : List (S77), y_ = (x5_1 ++ [(⟨wrap64 (4 + t221), 0, (⟨#[]⟩ : ByteArray)⟩ : S77)]) := ⟨_, rfl⟩
          replace H : (impl_ReadExpr.l0 k1 a0 y225 t207 (t207.length : Int) (wrap64 (x21_1 + 1))) = some (r1, r2) := by first | (rw [hy225]; with_reducible exact H) | (have H2_ := (Option.bind_some _ _).symm.trans H; rw [hy225]; with_reducible exact H2_) | (have H2_ := (Option.bind_some _ _).symm.trans H; with_reducible exact H2_) | with_reducible exact H | (rw [hy225]; exact H) | exact H
          have Ny225 := Aside0.mk hy225
          clear hy225
          have H' := Aside0.mk H
          clear H
          have p213 : 0 ≤ (x21_1 : Int) := of_decide_eq_true (za _)
          have q213 : x21_1 < (t207.length : Int) := of_decide_eq_true (za _)
          obtain ⟨ad213, e213, hx213_0⟩ := Kd.at_string (Kd.R_reads' HO_19.out).2.2 x21_1 p213 q213
          cases e213
          replace p213 := eq_true p213
          replace q213 := eq_true q213
          go_wp2_with (first | ((with_reducible refine gate_callee (f := 74) rfl ?_); refine zc (some 27) Tryd.func74 #[.string (rdOf ByteArray.empty t207 x21_1), .string (⟨#[35]⟩ : ByteArray)] ?_; (with_reducible refine (strings_CutPrefix.calls (rdOf ByteArray.empty t207 x21_1) (⟨#[35]⟩ : ByteArray) t214 false _ A13.out).mono ?_); rintro e w' ⟨rfl, ⟨nd, rfl⟩⟩; refine ⟨_, rfl, ?_⟩) | ((with_reducible refine gate_callee (f := 75) rfl ?_); refine zc (some 32) Tryd.func75 #[.string (rdOf ByteArray.empty t207 x21_1), .int .i64 10, .int .i64 64] ?_; (with_reducible refine (strconv_ParseInt.calls (rdOf ByteArray.empty t207 x21_1) 10 64 t216 t217 _ ?side1 A14.out).mono ?_); (case side1 => exact GW.below HG.out (zb _)); rintro e w25 ⟨⟨ev_, rfl, hev_⟩, hb⟩; clear hev_; refine ⟨_, rfl, ?_⟩; replace HO_5 := Aside0.mk (Kd.R_below (by (with_reducible repeat (first | apply Kd.R_alloc | apply Kd.R_drewN | apply Kd.R_drew)); exact HO_5.out) hb); replace HO_19 := Aside0.mk (Kd.R_below (by (with_reducible repeat (first | apply Kd.R_alloc | apply Kd.R_drewN | apply Kd.R_drew)); exact HO_19.out) hb); replace HB := zt w hb; (try clear hb); (try clear hb2); (try clear hk); (try clear hi); (try simp only [errW_none, errW_some])) | ((with_reducible refine gate_callee (f := 77) rfl ?_); refine zc (some 35) Tryd.func77 #[] ?_; (with_reducible refine (impl_opWords.calls  t218 _ ?side1 A15.out).mono ?_); (case side1 => exact GW.below HG.out (zb _)); rintro e w26 ⟨v219, rfl, ho0, hb⟩; refine ⟨_, rfl, ?_⟩; have HO220 := Aside0.mk (Kd.R_lower (Kd.R_new' ho0 (Kd.R_lt (by (with_reducible repeat (first | apply Kd.R_alloc | apply Kd.R_drewN | apply Kd.R_drew)); exact HO_19.out))) (below_size (zb _))); replace HO_5 := Aside0.mk (Kd.R_below (by (with_reducible repeat (first | apply Kd.R_alloc | apply Kd.R_drewN | apply Kd.R_drew)); exact HO_5.out) hb); replace HO_19 := Aside0.mk (Kd.R_elder' (by (with_reducible repeat (first | apply Kd.R_alloc | apply Kd.R_drewN | apply Kd.R_drew)); exact HO_19.out) (Kd.R_base ho0) hb); replace HB := zt w hb; (try clear hb); (try clear hb2); (try clear hk); (try clear hi); (try clear ho0); obtain ⟨Ao27, co27, eo27⟩ := Kd.R_slice HO220.out; subst eo27) | ((with_reducible refine gate_callee (f := 76) rfl ?_); refine zc (some 37) Tryd.func76 #[.slice Ao27 t218.length co27, .string (rdOf ByteArray.empty t207 x21_1)] ?_; (with_reducible refine (slices_Index_string_string.calls k1 _ _ t218 (rdOf ByteArray.empty t207 x21_1) t221 _ ?side1 ?side2 A16.out).mono ?_); (case side1 => repeat (first | exact (Kd.R_reads' HO220.out).2.2 | (with_reducible refine Kd.C_alloc ?_ _) | (with_reducible refine Kd.C_drewN ?_ _) | (with_reducible refine Kd.C_drew ?_))); (case side2 => exact (Kd.R_reads' HO220.out).2.1); rintro e w' ⟨rfl, ⟨nd, rfl⟩⟩; refine ⟨_, rfl, ?_⟩) | ((with_reducible refine gate_builtin (b := .append) (xs := #[.tmp 53, .tmp 57]) rfl ?_); at_builtin; refine Kd.R_append k77 (w0 := w) w.heap.size rfl (.tmp 53) (.tmp 57) 38 77 (.agg #[(.int .i64 0), (.int .i64 0), (.string ⟨#[]⟩)]) 32 rfl Tryd.underlying38 info77 rfl (by decide) (by omega) u5 x5_1 (⟨wrap64 (4 + t221), 0, (⟨#[]⟩ : ByteArray)⟩ : S77) [.int .i64 (wrap64 (4 + t221)), .int .i64 0, .string (⟨#[]⟩ : ByteArray)] (fun _ => True) (fun _ => False) rfl rfl ?aP (fun _ hk => hk.elim) ?aF ?aO ?aB ?aS ?aL ?_; (case aP => exact k77_mkM _ _ _ (⟨wrap64 (4 + t221), 0, (⟨#[]⟩ : ByteArray)⟩ : S77)); (case aB => exact (zb _)); (case aF => exact (fun _ _ => trivial)); (case aO => exact (by (with_reducible repeat (first | apply Kd.R_alloc | apply Kd.R_drewN | apply Kd.R_drew)); exact HO_5.out)); (case aS => exact (below_size (zb _))); (case aL => have := LMc24.out; omega); intro v226 w28 ho hb hg hat; rw [← Ny225.out] at ho; have HO227 := Aside0.mk (ho); replace HO_19 := Aside0.mk (Kd.R_over' (by (with_reducible repeat (first | apply Kd.R_alloc | apply Kd.R_drewN | apply Kd.R_drew)); exact HO_19.out) (Kd.R_typed (by (with_reducible repeat (first | apply Kd.R_alloc | apply Kd.R_drewN | apply Kd.R_drew)); exact HO_5.out)) (by decide) hg); replace HO220 := Aside0.mk (Kd.R_over' (by (with_reducible repeat (first | apply Kd.R_alloc | apply Kd.R_drewN | apply Kd.R_drew)); exact HO220.out) (Kd.R_typed (by (with_reducible repeat (first | apply Kd.R_alloc | apply Kd.R_drewN | apply Kd.R_drew)); exact HO_5.out)) (by decide) hg); replace HB := Aside0.mk (hb); clear HO_5; clear ho hb hg hat))
          go_roundg k1
          case measure => have := HK1.out; omega
          case rel => exact ⟨(y225), (wrap64 (x21_1 + 1)), (zE _), H', ⟨by have := HK1.out; omega⟩, ⟨by (with_reducible repeat (first | apply Kd.R_alloc | apply Kd.R_drewN | apply Kd.R_drew)); exact HO227.out⟩, ⟨by (with_reducible repeat (first | apply Kd.R_alloc | apply Kd.R_drewN | apply Kd.R_drew)); exact Kd.R_mono HO_19.out (fun _ hk => trivial)⟩, ⟨zb _⟩⟩
         ·rw [if_neg c24] at H
          exact absurd H (by simp)
        ·rw [if_neg c23] at H
         have c23b0 : decide (0 ≤ t221) = false := decide_eq_false c23
         clear c23
         rcases t217 with _ | q228
         ·have H1 : (if x5_1.length < 4398046511104 then (impl_ReadExpr.l0 k1 a0 (x5_1 ++ [(⟨1, t216, (⟨#[]⟩ : ByteArray)⟩ : S77)]) t207 (t207.length : Int) (wrap64 (x21_1 + 1))) else (none)) = some (r1, r2) := by rw [if_pos (show (none : Option Int).isNone = true by rfl)] at H; exact H
          clear H
          have H := H1
          clear H1
          try simp only [errW_none, errW_some]
          by_cases c29 : x5_1.length < 4398046511104
          ·rw [if_pos c29] at H
           have LMc29 := Aside0.mk c29
           clear c29
           obtain ⟨y229, hy229⟩ : ∃ y_ : List (S77), y_ = (x5_1 ++ [(⟨1, t216, (⟨#[]⟩ : ByteArray)⟩ : S77)]) := ⟨_, rfl⟩
           replace H : (impl_ReadExpr.l0 k1 a0 y229 t207 (t207.length : Int) (wrap64 (x21_1 + 1))) = some (r1, r2) := by first | (rw [hy229]; with_reducible exact H) | (have H2_ := (Option.bind_some _ _).symm.trans H; rw [hy229]; with_reducible exact H2_) | (have H2_ := (Option.bind_some _ _).symm.trans H; with_reducible exact H2_) | with_reducible exact H | (rw [hy229]; exact H) | exact H
           have Ny229 := Aside0.mk hy229
           clear hy229
           have H' := Aside0.mk H
           clear H
           have p213 : 0 ≤ (x21_1 : Int) := of_decide_eq_true (za _)
           have q213 : x21_1 < (t207.length : Int) := of_decide_eq_true (za _)
           obtain ⟨ad213, e213, hx213_0⟩ := Kd.at_string (Kd.R_reads' HO_19.out).2.2 x21_1 p213 q213
           cases e213
           replace p213 := eq_true p213
           replace q213 := eq_true q213
           go_wp2_with (first | ((with_reducible refine gate_callee (f := 74) rfl ?_); refine zc (some 27) Tryd.func74 #[.string (rdOf ByteArray.empty t207 x21_1), .string (⟨#[35]⟩ : ByteArray)] ?_; (with_reducible refine (strings_CutPrefix.calls (rdOf ByteArray.empty t207 x21_1) (⟨#[35]⟩ : ByteArray) t214 false _ A13.out).mono ?_); rintro e w' ⟨rfl, ⟨nd, rfl⟩⟩; refine ⟨_, rfl, ?_⟩) | ((with_reducible refine gate_callee (f := 75) rfl ?_); refine zc (some 32) Tryd.func75 #[.string (rdOf ByteArray.empty t207 x21_1), .int .i64 10, .int .i64 64] ?_; (with_reducible refine (strconv_ParseInt.calls (rdOf ByteArray.empty t207 x21_1) 10 64 t216 none _ ?side1 A14.out).mono ?_); (case side1 => exact GW.below HG.out (zb _)); rintro e w30 ⟨⟨ev_, rfl, hev_⟩, hb⟩; obtain rfl := hev_; refine ⟨_, rfl, ?_⟩; replace HO_5 := Aside0.mk (Kd.R_below (by (with_reducible repeat (first | apply Kd.R_alloc | apply Kd.R_drewN | apply Kd.R_drew)); exact HO_5.out) hb); replace HO_19 := Aside0.mk (Kd.R_below (by (with_reducible repeat (first | apply Kd.R_alloc | apply Kd.R_drewN | apply Kd.R_drew)); exact HO_19.out) hb); replace HB := zt w hb; (try clear hb); (try clear hb2); (try clear hk); (try clear hi); (try simp only [errW_none, errW_some])) | ((with_reducible refine gate_callee (f := 77) rfl ?_); refine zc (some 35) Tryd.func77 #[] ?_; (with_reducible refine (impl_opWords.calls  t218 _ ?side1 A15.out).mono ?_); (case side1 => exact GW.below HG.out (zb _)); rintro e w31 ⟨v219, rfl, ho0, hb⟩; refine ⟨_, rfl, ?_⟩; have HO220 := Aside0.mk (Kd.R_lower (Kd.R_new' ho0 (Kd.R_lt (by (with_reducible repeat (first | apply Kd.R_alloc | apply Kd.R_drewN | apply Kd.R_drew)); exact HO_19.out))) (below_size (zb _))); replace HO_5 := Aside0.mk (Kd.R_below (by (with_reducible repeat (first | apply Kd.R_alloc | apply Kd.R_drewN | apply Kd.R_drew)); exact HO_5.out) hb); replace HO_19 := Aside0.mk (Kd.R_elder' (by (with_reducible repeat (first | apply Kd.R_alloc | apply Kd.R_drewN | apply Kd.R_drew)); exact HO_19.out) (Kd.R_base ho0) hb); replace HB := zt w hb; (try clear hb); (try clear hb2); (try clear hk); (try clear hi); (try clear ho0); obtain ⟨Ao32, co32, eo32⟩ := Kd.R_slice HO220.out; subst eo32) | ((with_reducible refine gate_callee (f := 76) rfl ?_); refine zc (some 37) Tryd.func76 #[.slice Ao32 t218.length co32, .string (rdOf ByteArray.empty t207 x21_1)] ?_; (with_reducible refine (slices_Index_string_string.calls k1 _ _ t218 (rdOf ByteArray.empty t207 x21_1) t221 _ ?side1 ?side2 A16.out).mono ?_); (case side1 => repeat (first | exact (Kd.R_reads' HO220.out).2.2 | (with_reducible refine Kd.C_alloc ?_ _) | (with_reducible refine Kd.C_drewN ?_ _) | (with_reducible refine Kd.C_drew ?_))); (case side2 => exact (Kd.R_reads' HO220.out).2.1); rintro e w' ⟨rfl, ⟨nd, rfl⟩⟩; refine ⟨_, rfl, ?_⟩) | ((with_reducible refine gate_builtin (b := .append) (xs := #[.tmp 62, .tmp 65]) rfl ?_); at_builtin; refine Kd.R_append k77 (w0 := w) w.heap.size rfl (.tmp 62) (.tmp 65) 38 77 (.agg #[(.int .i64 0), (.int .i64 0), (.string ⟨#[]⟩)]) 32 rfl Tryd.underlying38 info77 rfl (by decide) (by omega) u5 x5_1 (⟨1, t216, (⟨#[]⟩ : ByteArray)⟩ : S77) [.int .i64 1, .int .i64 t216, .string (⟨#[]⟩ : ByteArray)] (fun _ => True) (fun _ => False) rfl rfl ?aP (fun _ hk => hk.elim) ?aF ?aO ?aB ?aS ?aL ?_; (case aP => exact k77_mkM _ _ _ (⟨1, t216, (⟨#[]⟩ : ByteArray)⟩ : S77)); (case aB => exact (zb _)); (case aF => exact (fun _ _ => trivial)); (case aO => exact (by (with_reducible repeat (first | apply Kd.R_alloc | apply Kd.R_drewN | apply Kd.R_drew)); exact HO_5.out)); (case aS => exact (below_size (zb _))); (case aL => have := LMc29.out; omega); intro v230 w33 ho hb hg hat; rw [← Ny229.out] at ho; have HO231 := Aside0.mk (ho); replace HO_19 := Aside0.mk (Kd.R_over' (by (with_reducible repeat (first | apply Kd.R_alloc | apply Kd.R_drewN | apply Kd.R_drew)); exact HO_19.out) (Kd.R_typed (by (with_reducible repeat (first | apply Kd.R_alloc | apply Kd.R_drewN | apply Kd.R_drew)); exact HO_5.out)) (by decide) hg); replace HO220 := Aside0.mk (Kd.R_over' (by (with_reducible repeat (first | apply Kd.R_alloc | apply Kd.R_drewN | apply Kd.R_drew)); exact HO220.out) (Kd.R_typed (by (with_reducible repeat (first | apply Kd.R_alloc | apply Kd.R_drewN | apply Kd.R_drew)); exact HO_5.out)) (by decide) hg); replace HB := Aside0.mk (hb); clear HO_5; clear ho hb hg hat))
           go_roundg k1
           case measure => have := HK1.out; omega
           case rel => exact ⟨(y229), (wrap64 (x21_1 + 1)), (zE _), H', ⟨by have := HK1.out; omega⟩, ⟨by (with_reducible repeat (first | apply Kd.R_alloc | apply Kd.R_drewN | apply Kd.R_drew)); exact HO231.out⟩, ⟨by (with_reducible repeat (first | apply Kd.R_alloc | apply Kd.R_drewN | apply Kd.R_drew)); exact Kd.R_mono HO_19.out (fun _ hk => trivial)⟩, ⟨zb _⟩⟩
          ·rw [if_neg c29] at H
           exact absurd H (by simp)
         ·have H1 : (if x5_1.length < 4398046511104 then (impl_ReadExpr.l0 k1 a0 (x5_1 ++ [(⟨2, 0, rdOf ByteArray.empty t207 x21_1⟩ : S77)]) t207 (t207.length : Int) (wrap64 (x21_1 + 1))) else (none)) = some (r1, r2) := by rw [if_neg (show ¬ (some q228).isNone = true by simp)] at H; exact H
          clear H
          have H := H1
          clear H1
          try simp only [errW_none, errW_some]
          by_cases c34 : x5_1.length < 4398046511104
          ·rw [if_pos c34] at H
           have LMc34 := Aside0.mk c34
           clear c34
           obtain ⟨y232, hy232⟩ : ∃ y_ : List (S77), y_ = (x5_1 ++ [(⟨2, 0, rdOf ByteArray.empty t207 x21_1⟩ : S77)]) := ⟨_, rfl⟩
           replace H : (impl_ReadExpr.l0 k1 a0 y232 t207 (t207.length : Int) (wrap64 (x21_1 + 1))) = some (r1, r2) := by first | (rw [hy232]; with_reducible exact H) | (have H2_ := (Option.bind_some _ _).symm.trans H; rw [hy232]; with_reducible exact H2_) | (have H2_ := (Option.bind_some _ _).symm.trans H; with_reducible exact H2_) | with_reducible exact H | (rw [hy232]; exact H) | exact H
           have Ny232 := Aside0.mk hy232
           clear hy232
           have H' := Aside0.mk H
           clear H
           have p213 : 0 ≤ (x21_1 : Int) := of_decide_eq_true (za _)
           have q213 : x21_1 < (t207.length : Int) := of_decide_eq_true (za _)
           obtain ⟨ad213, e213, hx213_0⟩ := Kd.at_string (Kd.R_reads' HO_19.out).2.2 x21_1 p213 q213
           cases e213
           replace p213 := eq_true p213
           replace q213 := eq_true q213
           go_wp2_with (first | ((with_reducible refine gate_callee (f := 74) rfl ?_); refine zc (some 27) Tryd.func74 #[.string (rdOf ByteArray.empty t207 x21_1), .string (⟨#[35]⟩ : ByteArray)] ?_; (with_reducible refine (strings_CutPrefix.calls (rdOf ByteArray.empty t207 x21_1) (⟨#[35]⟩ : ByteArray) t214 false _ A13.out).mono ?_); rintro e w' ⟨rfl, ⟨nd, rfl⟩⟩; refine ⟨_, rfl, ?_⟩) | ((with_reducible refine gate_callee (f := 75) rfl ?_); refine zc (some 32) Tryd.func75 #[.string (rdOf ByteArray.empty t207 x21_1), .int .i64 10, .int .i64 64] ?_; (with_reducible refine (strconv_ParseInt.calls (rdOf ByteArray.empty t207 x21_1) 10 64 t216 (some q228) _ ?side1 A14.out).mono ?_); (case side1 => exact GW.below HG.out (zb _)); rintro e w35 ⟨⟨ev_, rfl, hev_⟩, hb⟩; obtain ⟨te_, pe_, rfl⟩ := hev_; refine ⟨_, rfl, ?_⟩; replace HO_5 := Aside0.mk (Kd.R_below (by (with_reducible repeat (first | apply Kd.R_alloc | apply Kd.R_drewN | apply Kd.R_drew)); exact HO_5.out) hb); replace HO_19 := Aside0.mk (Kd.R_below (by (with_reducible repeat (first | apply Kd.R_alloc | apply Kd.R_drewN | apply Kd.R_drew)); exact HO_19.out) hb); replace HB := zt w hb; (try clear hb); (try clear hb2); (try clear hk); (try clear hi); (try simp only [errW_none, errW_some])) | ((with_reducible refine gate_callee (f := 77) rfl ?_); refine zc (some 35) Tryd.func77 #[] ?_; (with_reducible refine (impl_opWords.calls  t218 _ ?side1 A15.out).mono ?_); (case side1 => exact GW.below HG.out (zb _)); rintro e w36 ⟨v219, rfl, ho0, hb⟩; refine ⟨_, rfl, ?_⟩; have HO220 := Aside0.mk (Kd.R_lower (Kd.R_new' ho0 (Kd.R_lt (by (with_reducible repeat (first | apply Kd.R_alloc | apply Kd.R_drewN | apply Kd.R_drew)); exact HO_19.out))) (below_size (zb _))); replace HO_5 := Aside0.mk (Kd.R_below (by (with_reducible repeat (first | apply Kd.R_alloc | apply Kd.R_drewN | apply Kd.R_drew)); exact HO_5.out) hb); replace HO_19 := Aside0.mk (Kd.R_elder' (by (with_reducible repeat (first | apply Kd.R_alloc | apply Kd.R_drewN | apply Kd.R_drew)); exact HO_19.out) (Kd.R_base ho0) hb); replace HB := zt w hb; (try clear hb); (try clear hb2); (try clear hk); (try clear hi); (try clear ho0); obtain ⟨Ao37, co37, eo37⟩ := Kd.R_slice HO220.out; subst eo37) | ((with_reducible refine gate_callee (f := 76) rfl ?_); refine zc (some 37) Tryd.func76 #[.slice Ao37 t218.length co37, .string (rdOf ByteArray.empty t207 x21_1)] ?_; (with_reducible refine (slices_Index_string_string.calls k1 _ _ t218 (rdOf ByteArray.empty t207 x21_1) t221 _ ?side1 ?side2 A16.out).mono ?_); (case side1 => repeat (first | exact (Kd.R_reads' HO220.out).2.2 | (with_reducible refine Kd.C_alloc ?_ _) | (with_reducible refine Kd.C_drewN ?_ _) | (with_reducible refine Kd.C_drew ?_))); (case side2 => exact (Kd.R_reads' HO220.out).2.1); rintro e w' ⟨rfl, ⟨nd, rfl⟩⟩; refine ⟨_, rfl, ?_⟩) | ((with_reducible refine gate_builtin (b := .append) (xs := #[.tmp 38, .tmp 41]) rfl ?_); at_builtin; refine Kd.R_append k77 (w0 := w) w.heap.size rfl (.tmp 38) (.tmp 41) 38 77 (.agg #[(.int .i64 0), (.int .i64 0), (.string ⟨#[]⟩)]) 32 rfl Tryd.underlying38 info77 rfl (by decide) (by omega) u5 x5_1 (⟨2, 0, rdOf ByteArray.empty t207 x21_1⟩ : S77) [.int .i64 2, .int .i64 0, .string (rdOf ByteArray.empty t207 x21_1)] (fun _ => True) (fun _ => False) rfl rfl ?aP (fun _ hk => hk.elim) ?aF ?aO ?aB ?aS ?aL ?_; (case aP => exact k77_mkM _ _ _ (⟨2, 0, rdOf ByteArray.empty t207 x21_1⟩ : S77)); (case aB => exact (zb _)); (case aF => exact (fun _ _ => trivial)); (case aO => exact (by (with_reducible repeat (first | apply Kd.R_alloc | apply Kd.R_drewN | apply Kd.R_drew)); exact HO_5.out)); (case aS => exact (below_size (zb _))); (case aL => have := LMc34.out; omega); intro v233 w38 ho hb hg hat; rw [← Ny232.out] at ho; have HO234 := Aside0.mk (ho); replace HO_19 := Aside0.mk (Kd.R_over' (by (with_reducible repeat (first | apply Kd.R_alloc | apply Kd.R_drewN | apply Kd.R_drew)); exact HO_19.out) (Kd.R_typed (by (with_reducible repeat (first | apply Kd.R_alloc | apply Kd.R_drewN | apply Kd.R_drew)); exact HO_5.out)) (by decide) hg); replace HO220 := Aside0.mk (Kd.R_over' (by (with_reducible repeat (first | apply Kd.R_alloc | apply Kd.R_drewN | apply Kd.R_drew)); exact HO220.out) (Kd.R_typed (by (with_reducible repeat (first | apply Kd.R_alloc | apply Kd.R_drewN | apply Kd.R_drew)); exact HO_5.out)) (by decide) hg); replace HB := Aside0.mk (hb); clear HO_5; clear ho hb hg hat))
           go_roundg k1
           case measure => have := HK1.out; omega
           case rel => exact ⟨(y232), (wrap64 (x21_1 + 1)), (zE _), H', ⟨by have := HK1.out; omega⟩, ⟨by (with_reducible repeat (first | apply Kd.R_alloc | apply Kd.R_drewN | apply Kd.R_drew)); exact HO234.out⟩, ⟨by (with_reducible repeat (first | apply Kd.R_alloc | apply Kd.R_drewN | apply Kd.R_drew)); exact Kd.R_mono HO_19.out (fun _ hk => trivial)⟩, ⟨zb _⟩⟩
          ·rw [if_neg c34] at H
           exact absurd H (by simp)
      ·rw [if_neg c12] at H
       exact absurd H (by simp)
     ·rw [if_neg c11] at H
      exact absurd H (by simp)
    ·rw [if_neg c10] at H
     have c10b0 : decide (x21_1 < (t207.length : Int)) = false := decide_eq_false c10
     clear c10
     obtain ⟨t235, A390, H⟩ := Option.bind_eq_some_iff.mp H
     have A39 := Aside0.mk A390
     clear A390
     by_cases c40 : t235 = true
     ·subst c40
      rw [if_pos rfl] at H
      obtain ⟨t236, A410, H⟩ := Option.bind_eq_some_iff.mp H
      have A41 := Aside0.mk A410
      clear A410
      by_cases c42 : t236.toList = a0.toList
      ·rw [if_pos c42] at H
       have c42b0 : (t236.toList == a0.toList) = true := beq_iff_eq.mpr c42
       have c42b1 : (t236.toList != a0.toList) = false := bne_eq_false_iff_eq.mpr c42
       clear c42
       simp only [Option.some.injEq, Prod.mk.injEq] at H
       obtain ⟨rfl, rfl⟩ := H
       obtain ⟨Ao43, co43, eo43⟩ := Kd.R_slice HO_5.out
       subst eo43
       go_wp2_with (first | ((with_reducible refine gate_callee (f := 78) rfl ?_); refine zc (some 69) Tryd.func78 #[.slice Ao43 x5_1.length co43] ?_; (with_reducible refine (impl_ExprOk.calls k1 _ _ x5_1 true _ ?side1 ?side2 A39.out).mono ?_); (case side1 => repeat (first | exact (Kd.R_reads' HO_5.out).2.2 | (with_reducible refine Kd.C_alloc ?_ _) | (with_reducible refine Kd.C_drewN ?_ _) | (with_reducible refine Kd.C_drew ?_))); (case side2 => exact (Kd.R_reads' HO_5.out).2.1); rintro e w44 ⟨rfl, hb⟩; refine ⟨_, rfl, ?_⟩; replace HO_5 := Aside0.mk (Kd.R_below (by (with_reducible repeat (first | apply Kd.R_alloc | apply Kd.R_drewN | apply Kd.R_drew)); exact HO_5.out) hb); replace HO_19 := Aside0.mk (Kd.R_below (by (with_reducible repeat (first | apply Kd.R_alloc | apply Kd.R_drewN | apply Kd.R_drew)); exact HO_19.out) hb); replace HB := zt w hb; (try clear hb); (try clear hb2); (try clear hk); (try clear hi)) | (go_at_call 79; (with_reducible refine (impl_exprText.calls k1 _ _ x5_1 t236 _ ?side1 ?side2 ?side3 A41.out).mono ?_); (case side1 => repeat (first | exact (Kd.R_reads' HO_5.out).2.2 | (with_reducible refine Kd.C_alloc ?_ _) | (with_reducible refine Kd.C_drewN ?_ _) | (with_reducible refine Kd.C_drew ?_))); (case side2 => exact (Kd.R_reads' HO_5.out).2.1); (case side3 => exact GW.below HG.out (zb _)); rintro e w45 ⟨rfl, hb⟩; replace HO_5 := Aside0.mk (Kd.R_below (by (with_reducible repeat (first | apply Kd.R_alloc | apply Kd.R_drewN | apply Kd.R_drew)); exact HO_5.out) hb); replace HO_19 := Aside0.mk (Kd.R_below (by (with_reducible repeat (first | apply Kd.R_alloc | apply Kd.R_drewN | apply Kd.R_drew)); exact HO_19.out) hb); replace HB := zt w hb; (try clear hb); (try clear hb2); (try clear hk); (try clear hi)))
       go_ret2
       exact ⟨_, by first | rfl | (simp [errW_none, errW_some] <;> rfl) | (simp [*, errW_none, errW_some] <;> rfl), by (with_reducible repeat (first | apply Kd.R_alloc | apply Kd.R_drewN | apply Kd.R_drew)); exact HO_5.out, zb _⟩
      ·rw [if_neg c42] at H
       have c42b0 : (t236.toList == a0.toList) = false := beq_eq_false_iff_ne.mpr c42
       have c42b1 : (t236.toList != a0.toList) = true := bne_iff_ne.mpr c42
       simp only [Option.some.injEq, Prod.mk.injEq] at H
       obtain ⟨rfl, rfl⟩ := H
       obtain ⟨Ao46, co46, eo46⟩ := Kd.R_slice HO_5.out
       subst eo46
       go_wp2_with (first | ((with_reducible refine gate_callee (f := 78) rfl ?_); refine zc (some 69) Tryd.func78 #[.slice Ao46 x5_1.length co46] ?_; (with_reducible refine (impl_ExprOk.calls k1 _ _ x5_1 true _ ?side1 ?side2 A39.out).mono ?_); (case side1 => repeat (first | exact (Kd.R_reads' HO_5.out).2.2 | (with_reducible refine Kd.C_alloc ?_ _) | (with_reducible refine Kd.C_drewN ?_ _) | (with_reducible refine Kd.C_drew ?_))); (case side2 => exact (Kd.R_reads' HO_5.out).2.1); rintro e w47 ⟨rfl, hb⟩; refine ⟨_, rfl, ?_⟩; replace HO_5 := Aside0.mk (Kd.R_below (by (with_reducible repeat (first | apply Kd.R_alloc | apply Kd.R_drewN | apply Kd.R_drew)); exact HO_5.out) hb); replace HO_19 := Aside0.mk (Kd.R_below (by (with_reducible repeat (first | apply Kd.R_alloc | apply Kd.R_drewN | apply Kd.R_drew)); exact HO_19.out) hb); replace HB := zt w hb; (try clear hb); (try clear hb2); (try clear hk); (try clear hi)) | (go_at_call 79; (with_reducible refine (impl_exprText.calls k1 _ _ x5_1 t236 _ ?side1 ?side2 ?side3 A41.out).mono ?_); (case side1 => repeat (first | exact (Kd.R_reads' HO_5.out).2.2 | (with_reducible refine Kd.C_alloc ?_ _) | (with_reducible refine Kd.C_drewN ?_ _) | (with_reducible refine Kd.C_drew ?_))); (case side2 => exact (Kd.R_reads' HO_5.out).2.1); (case side3 => exact GW.below HG.out (zb _)); rintro e w48 ⟨rfl, hb⟩; replace HO_5 := Aside0.mk (Kd.R_below (by (with_reducible repeat (first | apply Kd.R_alloc | apply Kd.R_drewN | apply Kd.R_drew)); exact HO_5.out) hb); replace HO_19 := Aside0.mk (Kd.R_below (by (with_reducible repeat (first | apply Kd.R_alloc | apply Kd.R_drewN | apply Kd.R_drew)); exact HO_19.out) hb); replace HB := zt w hb; (try clear hb); (try clear hb2); (try clear hk); (try clear hi)))
       go_ret2
       exact ⟨_, by first | rfl | (simp [errW_none, errW_some] <;> rfl) | (simp [*, errW_none, errW_some] <;> rfl), by first | exact Kd.R_nil _ _ _ _ _ | exact Kd.N_nil _ _ _ _ _ | exact Kd.V_nil _ _ _ _ _ | exact Kd.Q_nil _ _ _ _ _ | exact Kd.S_nil _ _ _ _ _, zb _⟩
     ·replace c40 := Bool.eq_false_iff.mpr c40
      subst c40
      rw [if_neg (show ¬ (false = true) by decide)] at H
      simp only [Option.some.injEq, Prod.mk.injEq] at H
      obtain ⟨rfl, rfl⟩ := H
      obtain ⟨Ao49, co49, eo49⟩ := Kd.R_slice HO_5.out
      subst eo49
      go_wp2_with (first | ((with_reducible refine gate_callee (f := 78) rfl ?_); refine zc (some 69) Tryd.func78 #[.slice Ao49 x5_1.length co49] ?_; (with_reducible refine (impl_ExprOk.calls k1 _ _ x5_1 false _ ?side1 ?side2 A39.out).mono ?_); (case side1 => repeat (first | exact (Kd.R_reads' HO_5.out).2.2 | (with_reducible refine Kd.C_alloc ?_ _) | (with_reducible refine Kd.C_drewN ?_ _) | (with_reducible refine Kd.C_drew ?_))); (case side2 => exact (Kd.R_reads' HO_5.out).2.1); rintro e w50 ⟨rfl, hb⟩; refine ⟨_, rfl, ?_⟩; replace HO_5 := Aside0.mk (Kd.R_below (by (with_reducible repeat (first | apply Kd.R_alloc | apply Kd.R_drewN | apply Kd.R_drew)); exact HO_5.out) hb); replace HO_19 := Aside0.mk (Kd.R_below (by (with_reducible repeat (first | apply Kd.R_alloc | apply Kd.R_drewN | apply Kd.R_drew)); exact HO_19.out) hb); replace HB := zt w hb; (try clear hb); (try clear hb2); (try clear hk); (try clear hi)))
      go_ret2
      exact ⟨_, by first | rfl | (simp [errW_none, errW_some] <;> rfl) | (simp [*, errW_none, errW_some] <;> rfl), by first | exact Kd.R_nil _ _ _ _ _ | exact Kd.N_nil _ _ _ _ _ | exact Kd.V_nil _ _ _ _ _ | exact Kd.Q_nil _ _ _ _ _ | exact Kd.S_nil _ _ _ _ _, zb _⟩

/-! ### laws_eqENode: function 80 -/
def laws_eqENode.f (a0_0 : Int) (a0_1 : Int) (a0_2 : ByteArray) (a1_0 : Int) (a1_1 : Int) (a1_2 : ByteArray) : Option (Bool) := if a0_0 = a1_0 then (if a0_1 = a1_1 then (if a0_2.toList = a1_2.toList then (some true) else (some false)) else (some false)) else (some false)
set_option maxHeartbeats 8000000 in
set_option maxRecDepth 100000 in
theorem laws_eqENode.calls (a0_0 : Int) (a0_1 : Int) (a0_2 : ByteArray) (a1_0 : Int) (a1_1 : Int) (a1_2 : ByteArray) (r : Bool) (w : World) (h : laws_eqENode.f a0_0 a0_1 a0_2 a1_0 a1_1 a1_2 = some r) :
 Calls Tryd.prog 80 #[.agg #[.int .i64 a0_0, .int .i64 a0_1, .string a0_2], .agg #[.int .i64 a1_0, .int .i64 a1_1, .string a1_2]] w fun e w' => e = .returned (.bool r) ∧ Below w.heap.size w w' := by
 have hu77 := Tryd.underlying77
 have HB := Aside0.mk (Below.refl w.heap.size w)
 have H : (if a0_0 = a1_0 then (if a0_1 = a1_1 then (if a0_2.toList = a1_2.toList then (some true) else (some false)) else (some false)) else (some false)) = some r := h
 clear h
 by_cases c3 : a0_0 = a1_0
 ·rw [if_pos c3] at H
  have c3b0 : (a0_0 == a1_0) = true := beq_iff_eq.mpr c3
  have c3b1 : (a0_0 != a1_0) = false := bne_eq_false_iff_eq.mpr c3
  clear c3
  by_cases c4 : a0_1 = a1_1
  ·rw [if_pos c4] at H
   have c4b0 : (a0_1 == a1_1) = true := beq_iff_eq.mpr c4
   have c4b1 : (a0_1 != a1_1) = false := bne_eq_false_iff_eq.mpr c4
   clear c4
   by_cases c5 : a0_2.toList = a1_2.toList
   ·rw [if_pos c5] at H
    have c5b0 : (a0_2.toList == a1_2.toList) = true := beq_iff_eq.mpr c5
    have c5b1 : (a0_2.toList != a1_2.toList) = false := bne_eq_false_iff_eq.mpr c5
    clear c5
    obtain rfl := Option.some.inj H
    go_enter Tryd.func80, Tryd.ntmps80
    go_wp2_with (first | ((with_reducible refine gate_dst (N := 2) rfl ?_); refine zbx 2 #[.int .i64 a0_0, .int .i64 a0_1, .string a0_2] 77 ?_; intro gb237 hg w6 hbox hb; have BK237 := Aside0.mk (hbox); have GW237 := zs w hg; have GE237 := GW237; replace HB := zt w hb; clear hb hbox hg) | ((with_reducible refine gate_dst (N := 3) rfl ?_); refine zbx 3 #[.int .i64 a1_0, .int .i64 a1_1, .string a1_2] 77 ?_; intro gb238 hg w7 hbox hb; have BK238 := Aside0.mk (hbox); have GW238 := zs w hg; have GE238 := GW238; have NB237_238 := zlt BK237 hg; have NB238_237 := zgt (zlt BK237 hg); replace BK237 := zk BK237 hb; replace HB := zt w hb; clear hb hbox hg; have hnb8 := NB237_238.out; have hnc8 := NB238_237.out; have hcz9_0 := zc0 BK237; have hcz9_1 := zc1 BK237; have hcz9_2 := zc2 BK237; have hfz9_0 := blk_frozen BK237.out 0; have hfz9_1 := blk_frozen BK237.out 1; have hfz9_2 := blk_frozen BK237.out 2; have hcz10_0 := zc0 BK238; have hcz10_1 := zc1 BK238; have hcz10_2 := zc2 BK238; have hfz10_0 := blk_frozen BK238.out 0; have hfz10_1 := blk_frozen BK238.out 1; have hfz10_2 := blk_frozen BK238.out 2))
    first | go_ret | ((try simp only [Exit.inBlock, Exit.then]); apply bodyPost_ret; (exact results_tmp rfl _ _ _); rfl)
    exact ⟨ze _, zb _⟩
   ·rw [if_neg c5] at H
    have c5b0 : (a0_2.toList == a1_2.toList) = false := beq_eq_false_iff_ne.mpr c5
    have c5b1 : (a0_2.toList != a1_2.toList) = true := bne_iff_ne.mpr c5
    obtain rfl := Option.some.inj H
    go_enter Tryd.func80, Tryd.ntmps80
    go_wp2_with (first | ((with_reducible refine gate_dst (N := 2) rfl ?_); refine zbx 2 #[.int .i64 a0_0, .int .i64 a0_1, .string a0_2] 77 ?_; intro gb237 hg w11 hbox hb; have BK237 := Aside0.mk (hbox); have GW237 := zs w hg; have GE237 := GW237; replace HB := zt w hb; clear hb hbox hg) | ((with_reducible refine gate_dst (N := 3) rfl ?_); refine zbx 3 #[.int .i64 a1_0, .int .i64 a1_1, .string a1_2] 77 ?_; intro gb238 hg w12 hbox hb; have BK238 := Aside0.mk (hbox); have GW238 := zs w hg; have GE238 := GW238; have NB237_238 := zlt BK237 hg; have NB238_237 := zgt (zlt BK237 hg); replace BK237 := zk BK237 hb; replace HB := zt w hb; clear hb hbox hg; have hnb13 := NB237_238.out; have hnc13 := NB238_237.out; have hcz14_0 := zc0 BK237; have hcz14_1 := zc1 BK237; have hcz14_2 := zc2 BK237; have hfz14_0 := blk_frozen BK237.out 0; have hfz14_1 := blk_frozen BK237.out 1; have hfz14_2 := blk_frozen BK237.out 2; have hcz15_0 := zc0 BK238; have hcz15_1 := zc1 BK238; have hcz15_2 := zc2 BK238; have hfz15_0 := blk_frozen BK238.out 0; have hfz15_1 := blk_frozen BK238.out 1; have hfz15_2 := blk_frozen BK238.out 2))
    first | go_ret | ((try simp only [Exit.inBlock, Exit.then]); apply bodyPost_ret; (exact results_tmp rfl _ _ _); rfl)
    exact ⟨ze _, zb _⟩
  ·rw [if_neg c4] at H
   have c4b0 : (a0_1 == a1_1) = false := beq_eq_false_iff_ne.mpr c4
   have c4b1 : (a0_1 != a1_1) = true := bne_iff_ne.mpr c4
   obtain rfl := Option.some.inj H
   go_enter Tryd.func80, Tryd.ntmps80
   go_wp2_with (first | ((with_reducible refine gate_dst (N := 2) rfl ?_); refine zbx 2 #[.int .i64 a0_0, .int .i64 a0_1, .string a0_2] 77 ?_; intro gb237 hg w16 hbox hb; have BK237 := Aside0.mk (hbox); have GW237 := zs w hg; have GE237 := GW237; replace HB := zt w hb; clear hb hbox hg) | ((with_reducible refine gate_dst (N := 3) rfl ?_); refine zbx 3 #[.int .i64 a1_0, .int .i64 a1_1, .string a1_2] 77 ?_; intro gb238 hg w17 hbox hb; have BK238 := Aside0.mk (hbox); have GW238 := zs w hg; have GE238 := GW238; have NB237_238 := zlt BK237 hg; have NB238_237 := zgt (zlt BK237 hg); replace BK237 := zk BK237 hb; replace HB := zt w hb; clear hb hbox hg; have hnb18 := NB237_238.out; have hnc18 := NB238_237.out; have hcz19_0 := zc0 BK237; have hcz19_1 := zc1 BK237; have hcz19_2 := zc2 BK237; have hfz19_0 := blk_frozen BK237.out 0; have hfz19_1 := blk_frozen BK237.out 1; have hfz19_2 := blk_frozen BK237.out 2; have hcz20_0 := zc0 BK238; have hcz20_1 := zc1 BK238; have hcz20_2 := zc2 BK238; have hfz20_0 := blk_frozen BK238.out 0; have hfz20_1 := blk_frozen BK238.out 1; have hfz20_2 := blk_frozen BK238.out 2))
   first | go_ret | ((try simp only [Exit.inBlock, Exit.then]); apply bodyPost_ret; (exact results_tmp rfl _ _ _); rfl)
   exact ⟨ze _, zb _⟩
 ·rw [if_neg c3] at H
  have c3b0 : (a0_0 == a1_0) = false := beq_eq_false_iff_ne.mpr c3
  have c3b1 : (a0_0 != a1_0) = true := bne_iff_ne.mpr c3
  obtain rfl := Option.some.inj H
  go_enter Tryd.func80, Tryd.ntmps80
  go_wp2_with (first | ((with_reducible refine gate_dst (N := 2) rfl ?_); refine zbx 2 #[.int .i64 a0_0, .int .i64 a0_1, .string a0_2] 77 ?_; intro gb237 hg w21 hbox hb; have BK237 := Aside0.mk (hbox); have GW237 := zs w hg; have GE237 := GW237; replace HB := zt w hb; clear hb hbox hg) | ((with_reducible refine gate_dst (N := 3) rfl ?_); refine zbx 3 #[.int .i64 a1_0, .int .i64 a1_1, .string a1_2] 77 ?_; intro gb238 hg w22 hbox hb; have BK238 := Aside0.mk (hbox); have GW238 := zs w hg; have GE238 := GW238; have NB237_238 := zlt BK237 hg; have NB238_237 := zgt (zlt BK237 hg); replace BK237 := zk BK237 hb; replace HB := zt w hb; clear hb hbox hg; have hnb23 := NB237_238.out; have hnc23 := NB238_237.out; have hcz24_0 := zc0 BK237; have hcz24_1 := zc1 BK237; have hcz24_2 := zc2 BK237; have hfz24_0 := blk_frozen BK237.out 0; have hfz24_1 := blk_frozen BK237.out 1; have hfz24_2 := blk_frozen BK237.out 2; have hcz25_0 := zc0 BK238; have hcz25_1 := zc1 BK238; have hcz25_2 := zc2 BK238; have hfz25_0 := blk_frozen BK238.out 0; have hfz25_1 := blk_frozen BK238.out 1; have hfz25_2 := blk_frozen BK238.out 2))
  first | go_ret | ((try simp only [Exit.inBlock, Exit.then]); apply bodyPost_ret; (exact results_tmp rfl _ _ _); rfl)
  exact ⟨ze _, zb _⟩

end Go.Proofs.YtmiebnpmckjidaaDoor.PFnExactReadExpr
