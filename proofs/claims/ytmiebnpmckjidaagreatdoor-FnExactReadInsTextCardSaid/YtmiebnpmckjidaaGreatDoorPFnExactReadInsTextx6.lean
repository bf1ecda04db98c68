/- What the Go functions that the law FnExactReadInsText reaches compute, function by function, and that Go comes to just that. -/
import Derived.Test.YtmiebnpmckjidaaGreatDoorPFnExactReadInsTextx0
import Derived.Test.YtmiebnpmckjidaaGreatDoorAidZ
import Derived.Test.YtmiebnpmckjidaaGreatDoorPFnExactReadInsTextx2
import Derived.Test.YtmiebnpmckjidaaGreatDoorPFnExactReadInsTextx3
import Derived.Test.YtmiebnpmckjidaaGreatDoorPFnExactReadInsTextx4
import Derived.Test.YtmiebnpmckjidaaGreatDoorPFnExactReadInsTextx5
namespace Go.Proofs.YtmiebnpmckjidaaGreatDoor.PFnExactReadInsText
open Go.RowKit Go.Proofs.YtmiebnpmckjidaaGreatDoor.Z Go.Proofs.YtmiebnpmckjidaaGreatDoorW.PrintWords Go.Proofs.YtmiebnpmckjidaaGreatDoorW.PrintLast Go.Proofs.YtmiebnpmckjidaaGreatDoorW.PrintMore
attribute [local go_sem] max2_int min2_int max_two min_two max_three min_three max_four min_four   -- for this text's walks alone
set_option linter.unusedVariables false
set_option linter.unusedSimpArgs false

/-! ### spec_ReadInsText: function 4 -/
mutual
def spec_ReadInsText.l0 : Nat → ByteArray → Int → Option (Int × Bool × Int × Bool)
  | 0, _, _ => none
  | k + 1, x0, x4 => if x4 < 512 then (spec_ReadInsText.j1 k x0 x4 (decide ((x0.size : Int) ≤ 20))) else (spec_ReadInsText.j1 k x0 x4 false)
def spec_ReadInsText.j1 : Nat → ByteArray → Int → Bool → Option (Int × Bool × Int × Bool)
  | 0, _, _, _ => none
  | k + 1, x0, x4, x14 => if x14 = true then (if x4 ≥ 256 then (spec_ReadInsText.j2 k x0 x4 false (Int.tmod x4 256) (decide (x4 ≥ 256)) 0) else ((spec_l3Length.f k (Int.tmod x4 256) false).bind fun t168 => (spec_ReadInsText.j2 k x0 x4 (t168 == 0) (Int.tmod x4 256) (decide (x4 ≥ 256)) 0))) else (some (0, false, 0, false))
def spec_ReadInsText.j2 : Nat → ByteArray → Int → Bool → Int → Bool → Int → Option (Int × Bool × Int × Bool)
  | 0, _, _, _, _, _, _ => none
  | k + 1, x0, x4, x30, x168000, x168001, x168002 => if x30 = true then (spec_ReadInsText.l0 k x0 (wrap64 (x4 + 1))) else ((spec_l3Template.f x168000 x168001).bind fun t169 => ((spec_l3Fits.f k x0 t169).bind fun bt170 => (if bt170.2 = true then (if bt170.1.toList = ([] : List UInt8) then ((spec_InsText.f k x168000 x168001 x168002).bind fun t172 => (if t172.toList = x0.toList then (some (x168000, x168001, x168002, true)) else (spec_ReadInsText.l0 k x0 (wrap64 (x4 + 1))))) else ((spec_l3Imm.f k bt170.1).bind fun t173 => ((spec_InsText.f k x168000 x168001 t173).bind fun t174 => (if t174.toList = x0.toList then (some (x168000, x168001, t173, true)) else (spec_ReadInsText.l0 k x0 (wrap64 (x4 + 1))))))) else (spec_ReadInsText.l0 k x0 (wrap64 (x4 + 1))))))
end
def spec_ReadInsText.f (k : Nat) (a0 : ByteArray) : Option (Int × Bool × Int × Bool) := spec_ReadInsText.l0 k a0 0
theorem spec_ReadInsText.mono_l : ∀ k, (∀ y0 y1, LeO (spec_ReadInsText.l0 k y0 y1) (spec_ReadInsText.l0 (k + 1) y0 y1)) ∧ (∀ y0 y1 y2, LeO (spec_ReadInsText.j1 k y0 y1 y2) (spec_ReadInsText.j1 (k + 1) y0 y1 y2)) ∧ (∀ y0 y1 y2 y3 y4 y5, LeO (spec_ReadInsText.j2 k y0 y1 y2 y3 y4 y5) (spec_ReadInsText.j2 (k + 1) y0 y1 y2 y3 y4 y5))
  | 0 => ⟨fun _ _ r h => by simp [spec_ReadInsText.l0] at h, fun _ _ _ r h => by simp [spec_ReadInsText.j1] at h, fun _ _ _ _ _ _ r h => by simp [spec_ReadInsText.j2] at h⟩
  | k + 1 => by
    obtain ⟨ih0, ih1, ih2⟩ := spec_ReadInsText.mono_l k
    refine ⟨?_, ?_, ?_⟩
    · intro y0 y1
      unfold spec_ReadInsText.l0
      repeat' first
      | (with_reducible exact ih0 _ _)
      | (with_reducible exact ih1 _ _ _)
      | (with_reducible exact ih2 _ _ _ _ _ _)
      | (with_reducible exact spec_InsText.mono _ _ _ _)
      | (with_reducible exact spec_l3Fits.mono _ _ _)
      | (with_reducible exact spec_l3Imm.mono _ _)
      | (with_reducible exact spec_l3Length.mono _ _ _)
      | (with_reducible exact LeO.refl _)
      | (with_reducible exact LeO.none _)
      | (with_reducible refine LeO.ite ?_ ?_)
      | (with_reducible refine LeO.bind ?_ (fun _ => ?_))
      | exact ih0 _ _
      | exact ih1 _ _ _
      | exact ih2 _ _ _ _ _ _
      | exact spec_InsText.mono _ _ _ _
      | exact spec_l3Fits.mono _ _ _
      | exact spec_l3Imm.mono _ _
      | exact spec_l3Length.mono _ _ _
      | exact LeO.none _
      | refine LeO.ite ?_ ?_
      | refine LeO.bind ?_ (fun _ => ?_)
    · intro y0 y1 y2
      unfold spec_ReadInsText.j1
      repeat' first
      | (with_reducible exact ih0 _ _)
      | (with_reducible exact ih1 _ _ _)
      | (with_reducible exact ih2 _ _ _ _ _ _)
      | (with_reducible exact spec_InsText.mono _ _ _ _)
      | (with_reducible exact spec_l3Fits.mono _ _ _)
      | (with_reducible exact spec_l3Imm.mono _ _)
      | (with_reducible exact spec_l3Length.mono _ _ _)
      | (with_reducible exact LeO.refl _)
      | (with_reducible exact LeO.none _)
      | (with_reducible refine LeO.ite ?_ ?_)
      | (with_reducible refine LeO.bind ?_ (fun _ => ?_))
      | exact ih0 _ _
      | exact ih1 _ _ _
      | exact ih2 _ _ _ _ _ _
      | exact spec_InsText.mono _ _ _ _
      | exact spec_l3Fits.mono _ _ _
      | exact spec_l3Imm.mono _ _
      | exact spec_l3Length.mono _ _ _
      | exact LeO.none _
      | refine LeO.ite ?_ ?_
      | refine LeO.bind ?_ (fun _ => ?_)
    · intro y0 y1 y2 y3 y4 y5
      unfold spec_ReadInsText.j2
      repeat' first
      | (with_reducible exact ih0 _ _)
      | (with_reducible exact ih1 _ _ _)
      | (with_reducible exact ih2 _ _ _ _ _ _)
      | (with_reducible exact spec_InsText.mono _ _ _ _)
      | (with_reducible exact spec_l3Fits.mono _ _ _)
      | (with_reducible exact spec_l3Imm.mono _ _)
      | (with_reducible exact spec_l3Length.mono _ _ _)
      | (with_reducible exact LeO.refl _)
      | (with_reducible exact LeO.none _)
      | (with_reducible refine LeO.ite ?_ ?_)
      | (with_reducible refine LeO.bind ?_ (fun _ => ?_))
      | exact ih0 _ _
      | exact ih1 _ _ _
      | exact ih2 _ _ _ _ _ _
      | exact spec_InsText.mono _ _ _ _
      | exact spec_l3Fits.mono _ _ _
      | exact spec_l3Imm.mono _ _
      | exact spec_l3Length.mono _ _ _
      | exact LeO.none _
      | refine LeO.ite ?_ ?_
      | refine LeO.bind ?_ (fun _ => ?_)
theorem spec_ReadInsText.mono : ∀ a0 k, LeO (spec_ReadInsText.f k a0) (spec_ReadInsText.f (k + 1) a0) := by
  intro a0 k
  obtain ⟨ih0, ih1, ih2⟩ := spec_ReadInsText.mono_l k
  unfold spec_ReadInsText.f
  repeat' first
      | (with_reducible exact ih0 _ _)
      | (with_reducible exact ih1 _ _ _)
      | (with_reducible exact ih2 _ _ _ _ _ _)
      | (with_reducible exact spec_InsText.mono _ _ _ _)
      | (with_reducible exact spec_l3Fits.mono _ _ _)
      | (with_reducible exact spec_l3Imm.mono _ _)
      | (with_reducible exact spec_l3Length.mono _ _ _)
      | (with_reducible exact LeO.refl _)
      | (with_reducible exact LeO.none _)
      | (with_reducible refine LeO.ite ?_ ?_)
      | (with_reducible refine LeO.bind ?_ (fun _ => ?_))
      | exact ih0 _ _
      | exact ih1 _ _ _
      | exact ih2 _ _ _ _ _ _
      | exact spec_InsText.mono _ _ _ _
      | exact spec_l3Fits.mono _ _ _
      | exact spec_l3Imm.mono _ _
      | exact spec_l3Length.mono _ _ _
      | exact LeO.none _
      | refine LeO.ite ?_ ?_
      | refine LeO.bind ?_ (fun _ => ?_)
set_option maxHeartbeats 8000000 in
set_option maxRecDepth 100000 in
theorem spec_ReadInsText.calls (k : Nat) (a0 : ByteArray) (r1 : Int) (r2 : Bool) (r3 : Int) (r4 : Bool) (w : World) (h : spec_ReadInsText.f k a0 = some (r1, r2, r3, r4)) :
 Calls Tryz.prog 4 #[.string a0] w fun e w' => e = .returned (.tuple #[.agg #[.int .i64 r1, .bool r2, .int .i64 r3], .bool r4]) ∧ Below w.heap.size w w' := by
 have hu23 := Tryz.underlying23
 have HB := Aside0.mk (Below.refl w.heap.size w)
 have H : (spec_ReadInsText.l0 k a0 0) = some (r1, r2, r3, r4) := h
 clear h
 have H' := Aside0.mk H
 clear H
 go_enter Tryz.func4, Tryz.ntmps4
 go_wp2_with (first | ((with_reducible refine gate_dst (N := 2) rfl ?_); (try (refine gate_guard (by rfl) ?_; dsimp only)); refine zbx 2 #[.int .i64 0, .bool false, .int .i64 0] 23 ?_; intro gb166 hg w2 hbox hb; have BK166 := Aside0.mk (hbox); have GW166 := zs w hg; have GE166 := GW166; replace HB := zt w hb; clear hb hbox hg))
 go_loopg [4] k (fun kq v4 w' => ∃ (x4_1 : Int) (x167000_1 : Int) (x167001_1 : Bool) (x167002_1 : Int), v4 = .int .i64 x4_1 ∧ Aside0 (spec_ReadInsText.l0 kq a0 x4_1 = some (r1, r2, r3, r4)) ∧ Aside0 (kq ≤ k) ∧ Aside0 (w'.heap[gb166]? = some (.cells #[.int .i64 x167000_1, .bool x167001_1, .int .i64 x167002_1] 23 (0, 0))) ∧ Aside0 (Below w.heap.size w w'))
 case atStart => exact ⟨(0), (0), (false), (0), (zE _), H', ⟨Nat.le_refl _⟩, ⟨by (with_reducible repeat (first | refine blk_drewN ?_ _ | refine blk_drew ?_ | refine blk_alloc ?_ _)); exact BK166.out⟩, ⟨zb _⟩⟩
 case round =>
  clear H'
  try clear p2
  obtain ⟨x4_1, x167000_1, x167001_1, x167002_1, rfl, HA, HK1, BK166, HB⟩ := hrel
  cases gk with
  | zero => exact absurd HA.out (by simp [spec_ReadInsText.l0])
  | succ k1 =>
   have H := HA.out
   clear HA
   simp only [spec_ReadInsText.l0] at H
   have HC3 := Aside0.mk H
   clear H
   go_upto_region 2 with (fail)
   go_cut [14] (fun v14 wc => ∃ (kq : Nat) (x14_2 : Bool), v14 = .bool x14_2 ∧ Aside0 (spec_ReadInsText.j1 kq a0 x4_1 x14_2 = some (r1, r2, r3, r4)) ∧ Aside0 (kq ≤ k1) ∧ Aside0 (wc.heap[gb166]? = some (.cells #[.int .i64 x167000_1, .bool x167001_1, .int .i64 x167002_1] 23 (0, 0))) ∧ Aside0 (Below w.heap.size w wc))
   case first =>
    have H := HC3.out
    clear HC3
    by_cases c4 : x4_1 < 512
    ·rw [if_pos c4] at H
     have c4b0 : decide (x4_1 < 512) = true := decide_eq_true c4
     clear c4
     (first | rw [c4b0] | (simp only [i64_w, i32_w]; rw [c4b0]) | skip)
     have H' := Aside0.mk H
     clear H
     go_wp2
     go_meet
     case rel => exact ⟨_, (decide ((a0.size : Int) ≤ 20)), (zE _), H', ⟨by have := HK1.out; first | omega | exact Nat.le_refl _⟩, ⟨by (with_reducible repeat (first | refine blk_drewN ?_ _ | refine blk_drew ?_ | refine blk_alloc ?_ _)); exact BK166.out⟩, ⟨zb _⟩⟩
    ·rw [if_neg c4] at H
     have c4b0 : decide (x4_1 < 512) = false := decide_eq_false c4
     clear c4
     (first | rw [c4b0] | (simp only [i64_w, i32_w]; rw [c4b0]) | skip)
     have H' := Aside0.mk H
     clear H
     go_wp2
     go_meet
     case rel => exact ⟨_, (false), (zE _), H', ⟨by have := HK1.out; first | omega | exact Nat.le_refl _⟩, ⟨by (with_reducible repeat (first | refine blk_drewN ?_ _ | refine blk_drew ?_ | refine blk_alloc ?_ _)); exact BK166.out⟩, ⟨zb _⟩⟩
   case rest =>
    clear HC3
    try clear p2
    try clear c4
    try clear c4b0
    try clear p2
    obtain ⟨kq, x14_2, rfl, HA, HJ2, BK166, HB⟩ := hcut
    cases kq with
    | zero => exact absurd HA.out (by simp [spec_ReadInsText.j1])
    | succ kj2 =>
     have H := HA.out
     clear HA
     simp only [spec_ReadInsText.j1] at H
     by_cases c5 : x14_2 = true
     ·subst c5
      rw [if_pos rfl] at H
      have HC6 := Aside0.mk H
      clear H
      go_upto_region 5 with (first | ((with_reducible refine gate_dst (N := 5) rfl ?_); (try (refine gate_guard (by rfl) ?_; dsimp only)); refine zbx 5 #[.int .i64 0, .bool false, .int .i64 0] 23 ?_; intro gb167 hg w7 hbox hb; have BK167 := Aside0.mk (hbox); have GW167 := zs w hg; have GE167 := GW167; have NB166_167 := zlt BK166 hg; have NB167_166 := zgt (zlt BK166 hg); replace BK166 := zk BK166 hb; replace HB := zt w hb; clear hb hbox hg; have hnb8 := NB167_166.out; have hnc8 := NB166_167.out; have hcz9_0 := zc0 BK167; have hcz9_1 := zc1 BK167; have hcz9_2 := zc2 BK167; have hfz9_0 := blk_frozen BK167.out 0; have hfz9_1 := blk_frozen BK167.out 1; have hfz9_2 := blk_frozen BK167.out 2))
      (try simp only [Act.put, List.setIfInBounds_toArray, List.set_cons_zero, List.set_cons_succ])
      go_cut [30] (fun v30 wc => ∃ (kq : Nat) (x30_5 : Bool), v30 = .bool x30_5 ∧ Aside0 (spec_ReadInsText.j2 kq a0 x4_1 x30_5 (Int.tmod x4_1 256) (decide (x4_1 ≥ 256)) 0 = some (r1, r2, r3, r4)) ∧ Aside0 (kq ≤ kj2) ∧ Aside0 (wc.heap[gb166]? = some (.cells #[.int .i64 x167000_1, .bool x167001_1, .int .i64 x167002_1] 23 (0, 0))) ∧ Aside0 (wc.heap[gb167]? = some (.cells #[.int .i64 (Int.tmod x4_1 256), .bool (decide (x4_1 ≥ 256)), .int .i64 0] 23 (0, 0))) ∧ Aside0 (Below w.heap.size w wc))
      case first =>
       have H := HC6.out
       clear HC6
       by_cases c10 : x4_1 ≥ 256
       ·rw [if_pos c10] at H
        have c10b0 : decide (256 ≤ x4_1) = true := decide_eq_true c10
        clear c10
        (first | rw [c10b0] | (simp only [i64_w, i32_w]; rw [c10b0]) | skip)
        have H' := Aside0.mk H
        clear H
        have hnb11 := NB167_166.out
        have hnc11 := NB166_167.out
        have hcz12_0 := zc0 BK167
        have hcz12_1 := zc1 BK167
        have hcz12_2 := zc2 BK167
        have hfz12_0 := blk_frozen BK167.out 0
        have hfz12_1 := blk_frozen BK167.out 1
        have hfz12_2 := blk_frozen BK167.out 2
        go_wp2
        go_meet
        case rel => exact ⟨_, (false), (zE _), H', ⟨by have := HK1.out; have := HJ2.out; first | omega | exact Nat.le_refl _⟩, ⟨by (with_reducible repeat (first | refine blk_drewN ?_ _ | refine blk_drew ?_ | refine blk_alloc ?_ _)); refine blk_far ?_ NB166_167.out _; (with_reducible repeat (first | refine blk_drewN ?_ _ | refine blk_drew ?_ | refine blk_alloc ?_ _)); refine blk_far ?_ NB166_167.out _; (with_reducible repeat (first | refine blk_drewN ?_ _ | refine blk_drew ?_ | refine blk_alloc ?_ _)); refine blk_far ?_ NB166_167.out _; (with_reducible repeat (first | refine blk_drewN ?_ _ | refine blk_drew ?_ | refine blk_alloc ?_ _)); exact BK166.out⟩, ⟨by (with_reducible repeat (first | refine blk_drewN ?_ _ | refine blk_drew ?_ | refine blk_alloc ?_ _)); refine blk_put (cs := #[.int .i64 (Int.tmod x4_1 256), .bool (decide (x4_1 ≥ 256)), .int .i64 0]) ?_ 2 _ rfl; (with_reducible repeat (first | refine blk_drewN ?_ _ | refine blk_drew ?_ | refine blk_alloc ?_ _)); refine blk_put (cs := #[.int .i64 (Int.tmod x4_1 256), .bool false, .int .i64 0]) ?_ 1 _ (by first | rfl | (rw [show decide (x4_1 ≥ 256) = true by assumption]; rfl) | (rw [show decide (x4_1 ≥ 256) = false by assumption]; rfl)); (with_reducible repeat (first | refine blk_drewN ?_ _ | refine blk_drew ?_ | refine blk_alloc ?_ _)); refine blk_put (cs := #[.int .i64 0, .bool false, .int .i64 0]) ?_ 0 _ rfl; (with_reducible repeat (first | refine blk_drewN ?_ _ | refine blk_drew ?_ | refine blk_alloc ?_ _)); exact BK167.out⟩, ⟨zb _⟩⟩
       ·rw [if_neg c10] at H
        have c10b0 : decide (256 ≤ x4_1) = false := decide_eq_false c10
        clear c10
        (first | rw [c10b0] | (simp only [i64_w, i32_w]; rw [c10b0]) | skip)
        obtain ⟨t168, A130, H⟩ := Option.bind_eq_some_iff.mp H
        have A13 := Aside0.mk A130
        clear A130
        have H' := Aside0.mk H
        clear H
        have hnb14 := NB167_166.out
        have hnc14 := NB166_167.out
        have hcz15_0 := zc0 BK167
        have hcz15_1 := zc1 BK167
        have hcz15_2 := zc2 BK167
        have hfz15_0 := blk_frozen BK167.out 0
        have hfz15_1 := blk_frozen BK167.out 1
        have hfz15_2 := blk_frozen BK167.out 2
        go_wp2_with (first | (go_at_call 7; (with_reducible refine (spec_l3Length.calls kj2 (Int.tmod x4_1 256) false t168 _ A13.out).mono ?_); rintro e w16 ⟨rfl, hb⟩; replace BK166 := zkw (g := gb166) (o := .cells #[.int .i64 x167000_1, .bool x167001_1, .int .i64 x167002_1] 23 (0, 0)) hb; replace BK167 := Aside0.mk (blk_below (g := gb167) (o := .cells #[.int .i64 (Int.tmod x4_1 256), .bool (decide (x4_1 ≥ 256)), .int .i64 0] 23 (0, 0)) (by (with_reducible repeat (first | refine blk_drewN ?_ _ | refine blk_drew ?_ | refine blk_alloc ?_ _)); refine blk_put (cs := #[.int .i64 (Int.tmod x4_1 256), .bool (decide (x4_1 ≥ 256)), .int .i64 0]) ?_ 2 _ rfl; (with_reducible repeat (first | refine blk_drewN ?_ _ | refine blk_drew ?_ | refine blk_alloc ?_ _)); refine blk_put (cs := #[.int .i64 (Int.tmod x4_1 256), .bool false, .int .i64 0]) ?_ 1 _ (by first | rfl | (rw [show decide (x4_1 ≥ 256) = true by assumption]; rfl) | (rw [show decide (x4_1 ≥ 256) = false by assumption]; rfl)); (with_reducible repeat (first | refine blk_drewN ?_ _ | refine blk_drew ?_ | refine blk_alloc ?_ _)); refine blk_put (cs := #[.int .i64 0, .bool false, .int .i64 0]) ?_ 0 _ rfl; (with_reducible repeat (first | refine blk_drewN ?_ _ | refine blk_drew ?_ | refine blk_alloc ?_ _)); exact BK167.out) hb); replace HB := zt w hb; (try clear hb); (try clear hb2); (try clear hk); (try clear hi)))
        go_meet
        case rel => exact ⟨_, ((t168 == 0)), (zE _), H', ⟨by have := HK1.out; have := HJ2.out; first | omega | exact Nat.le_refl _⟩, ⟨by (with_reducible repeat (first | refine blk_drewN ?_ _ | refine blk_drew ?_ | refine blk_alloc ?_ _)); exact BK166.out⟩, ⟨by (with_reducible repeat (first | refine blk_drewN ?_ _ | refine blk_drew ?_ | refine blk_alloc ?_ _)); exact BK167.out⟩, ⟨zb _⟩⟩
      case rest =>
       clear HC6
       try clear c1
       try clear p2
       try clear c4
       try clear c4b0
       try clear c5
       try clear c8
       try clear c10
       try clear c10b0
       try clear c11
       try clear c14
       try clear hcz12_0
       try clear hcz12_1
       try clear hcz12_2
       try clear hcz15_0
       try clear hcz15_1
       try clear hcz15_2
       try clear hcz9_0
       try clear hcz9_1
       try clear hcz9_2
       try clear hfz12_0
       try clear hfz12_1
       try clear hfz12_2
       try clear hfz15_0
       try clear hfz15_1
       try clear hfz15_2
       try clear hfz9_0
       try clear hfz9_1
       try clear hfz9_2
       try clear p2
       obtain ⟨kq, x30_5, rfl, HA, HJ5, BK166, BK167, HB⟩ := hcut
       cases kq with
       | zero => exact absurd HA.out (by simp [spec_ReadInsText.j2])
       | succ kj5 =>
        have H := HA.out
        clear HA
        simp only [spec_ReadInsText.j2] at H
        by_cases c17 : x30_5 = true
        ·subst c17
         rw [if_pos rfl] at H
         have H' := Aside0.mk H
         clear H
         go_wp2
         go_roundg kj5
         case measure => have := HK1.out; have := HJ2.out; have := HJ5.out; omega
         case rel => exact ⟨(wrap64 (x4_1 + 1)), (x167000_1), (x167001_1), (x167002_1), (zE _), H', ⟨by have := HK1.out; have := HJ2.out; have := HJ5.out; omega⟩, ⟨by (with_reducible repeat (first | refine blk_drewN ?_ _ | refine blk_drew ?_ | refine blk_alloc ?_ _)); exact BK166.out⟩, ⟨zb _⟩⟩
        ·replace c17 := Bool.eq_false_iff.mpr c17
         subst c17
         rw [if_neg (show ¬ (false = true) by decide)] at H
         obtain ⟨t169, A180, H⟩ := Option.bind_eq_some_iff.mp H
         have A18 := Aside0.mk A180
         clear A180
         replace H := Option.bind_eq_some_iff.mp H
         obtain ⟨⟨t170, t171⟩, A190, H⟩ := H
         replace H : (if t171 = true then (if t170.toList = ([] : List UInt8) then ((spec_InsText.f kj5 (Int.tmod x4_1 256) (decide (x4_1 ≥ 256)) 0).bind fun t172 => (if t172.toList = a0.toList then (some ((Int.tmod x4_1 256), (decide (x4_1 ≥ 256)), 0, true)) else (spec_ReadInsText.l0 kj5 a0 (wrap64 (x4_1 + 1))))) else ((spec_l3Imm.f kj5 t170).bind fun t173 => ((spec_InsText.f kj5 (Int.tmod x4_1 256) (decide (x4_1 ≥ 256)) t173).bind fun t174 => (if t174.toList = a0.toList then (some ((Int.tmod x4_1 256), (decide (x4_1 ≥ 256)), t173, true)) else (spec_ReadInsText.l0 kj5 a0 (wrap64 (x4_1 + 1))))))) else (spec_ReadInsText.l0 kj5 a0 (wrap64 (x4_1 + 1)))) = some (r1, r2, r3, r4) := H
         have A19 := Aside0.mk A190
         clear A190
         by_cases c20 : t171 = true
         ·subst c20
          rw [if_pos rfl] at H
          by_cases c21 : t170.toList = ([] : List UInt8)
          ·rw [if_pos c21] at H
           have c21b0 : (t170.toList == ([] : List UInt8)) = true := beq_iff_eq.mpr c21
           have c21b1 : (t170.toList != ([] : List UInt8)) = false := bne_eq_false_iff_eq.mpr c21
           clear c21
           obtain ⟨t172, A220, H⟩ := Option.bind_eq_some_iff.mp H
           have A22 := Aside0.mk A220
           clear A220
           by_cases c23 : t172.toList = a0.toList
           ·rw [if_pos c23] at H
            have c23b0 : (t172.toList == a0.toList) = true := beq_iff_eq.mpr c23
            have c23b1 : (t172.toList != a0.toList) = false := bne_eq_false_iff_eq.mpr c23
            clear c23
            simp only [Option.some.injEq, Prod.mk.injEq] at H
            obtain ⟨rfl, rfl, rfl, rfl⟩ := H
            have hnb24 := NB167_166.out
            have hnc24 := NB166_167.out
            have hcz25_0 := zc0 BK167
            have hcz25_1 := zc1 BK167
            have hcz25_2 := zc2 BK167
            have hfz25_0 := blk_frozen BK167.out 0
            have hfz25_1 := blk_frozen BK167.out 1
            have hfz25_2 := blk_frozen BK167.out 2
            go_wp2_with (first | ((with_reducible refine gate_callee (f := 9) rfl ?_); refine zc (some 37) Tryz.func9 #[.int .i64 (Int.tmod x4_1 256), .bool (decide (x4_1 ≥ 256))] ?_; (with_reducible refine (spec_l3Template.calls (Int.tmod x4_1 256) (decide (x4_1 ≥ 256)) t169 _ A18.out).mono ?_); rintro e w26 ⟨rfl, hb⟩; refine ⟨_, rfl, ?_⟩; replace BK166 := zk BK166 hb; replace BK167 := zk BK167 hb; replace HB := zt w hb; (try clear hb); (try clear hb2); (try clear hk); (try clear hi)) | ((with_reducible refine gate_callee (f := 8) rfl ?_); refine zc (some 38) Tryz.func8 #[.string a0, .string t169] ?_; (with_reducible refine (spec_l3Fits.calls kj5 a0 t169 t170 true _ A19.out).mono ?_); rintro e w27 ⟨rfl, hb⟩; refine ⟨_, rfl, ?_⟩; replace BK166 := zk BK166 hb; replace BK167 := zk BK167 hb; replace HB := zt w hb; (try clear hb); (try clear hb2); (try clear hk); (try clear hi); have hcz28_0 := zc0 BK167; have hcz28_1 := zc1 BK167; have hcz28_2 := zc2 BK167; have hfz28_0 := blk_frozen BK167.out 0; have hfz28_1 := blk_frozen BK167.out 1; have hfz28_2 := blk_frozen BK167.out 2) | ((with_reducible refine gate_callee (f := 11) rfl ?_); refine zc (some 49) Tryz.func11 #[.agg #[.int .i64 (Int.tmod x4_1 256), .bool (decide (x4_1 ≥ 256)), .int .i64 0]] ?_; (with_reducible refine (spec_InsText.calls kj5 (Int.tmod x4_1 256) (decide (x4_1 ≥ 256)) 0 t172 _ A22.out).mono ?_); rintro e w29 ⟨rfl, hb⟩; refine ⟨_, rfl, ?_⟩; replace BK166 := zk BK166 hb; replace BK167 := zk BK167 hb; replace HB := zt w hb; (try clear hb); (try clear hb2); (try clear hk); (try clear hi); have hcz30_0 := zc0 BK167; have hcz30_1 := zc1 BK167; have hcz30_2 := zc2 BK167; have hfz30_0 := blk_frozen BK167.out 0; have hfz30_1 := blk_frozen BK167.out 1; have hfz30_2 := blk_frozen BK167.out 2; have hcz31_0 := zc0 BK166; have hcz31_1 := zc1 BK166; have hcz31_2 := zc2 BK166; have hfz31_0 := blk_frozen BK166.out 0; have hfz31_1 := blk_frozen BK166.out 1; have hfz31_2 := blk_frozen BK166.out 2))
            refine bodyPost_ret (results_ct rfl _ _ gb166 23 #[.int .i64 (Int.tmod x4_1 256), .bool (decide (x4_1 ≥ 256)), .int .i64 0] (0, 0) _ rfl (zw _) Tryz.underlying23 rfl (by kernel_rfl)) rfl ?_
            exact ⟨ze _, zb _⟩
           ·rw [if_neg c23] at H
            have c23b0 : (t172.toList == a0.toList) = false := beq_eq_false_iff_ne.mpr c23
            have c23b1 : (t172.toList != a0.toList) = true := bne_iff_ne.mpr c23
            have H' := Aside0.mk H
            clear H
            have hnb32 := NB167_166.out
            have hnc32 := NB166_167.out
            have hcz33_0 := zc0 BK167
            have hcz33_1 := zc1 BK167
            have hcz33_2 := zc2 BK167
            have hfz33_0 := blk_frozen BK167.out 0
            have hfz33_1 := blk_frozen BK167.out 1
            have hfz33_2 := blk_frozen BK167.out 2
            go_wp2_with (first | ((with_reducible refine gate_callee (f := 9) rfl ?_); refine zc (some 37) Tryz.func9 #[.int .i64 (Int.tmod x4_1 256), .bool (decide (x4_1 ≥ 256))] ?_; (with_reducible refine (spec_l3Template.calls (Int.tmod x4_1 256) (decide (x4_1 ≥ 256)) t169 _ A18.out).mono ?_); rintro e w34 ⟨rfl, hb⟩; refine ⟨_, rfl, ?_⟩; replace BK166 := zk BK166 hb; replace BK167 := zk BK167 hb; replace HB := zt w hb; (try clear hb); (try clear hb2); (try clear hk); (try clear hi)) | ((with_reducible refine gate_callee (f := 8) rfl ?_); refine zc (some 38) Tryz.func8 #[.string a0, .string t169] ?_; (with_reducible refine (spec_l3Fits.calls kj5 a0 t169 t170 true _ A19.out).mono ?_); rintro e w35 ⟨rfl, hb⟩; refine ⟨_, rfl, ?_⟩; replace BK166 := zk BK166 hb; replace BK167 := zk BK167 hb; replace HB := zt w hb; (try clear hb); (try clear hb2); (try clear hk); (try clear hi); have hcz36_0 := zc0 BK167; have hcz36_1 := zc1 BK167; have hcz36_2 := zc2 BK167; have hfz36_0 := blk_frozen BK167.out 0; have hfz36_1 := blk_frozen BK167.out 1; have hfz36_2 := blk_frozen BK167.out 2) | ((with_reducible refine gate_callee (f := 11) rfl ?_); refine zc (some 49) Tryz.func11 #[.agg #[.int .i64 (Int.tmod x4_1 256), .bool (decide (x4_1 ≥ 256)), .int .i64 0]] ?_; (with_reducible refine (spec_InsText.calls kj5 (Int.tmod x4_1 256) (decide (x4_1 ≥ 256)) 0 t172 _ A22.out).mono ?_); rintro e w37 ⟨rfl, hb⟩; refine ⟨_, rfl, ?_⟩; replace BK166 := zk BK166 hb; replace BK167 := zk BK167 hb; replace HB := zt w hb; (try clear hb); (try clear hb2); (try clear hk); (try clear hi)))
            go_roundg kj5
            case measure => have := HK1.out; have := HJ2.out; have := HJ5.out; omega
            case rel => exact ⟨(wrap64 (x4_1 + 1)), (x167000_1), (x167001_1), (x167002_1), (zE _), H', ⟨by have := HK1.out; have := HJ2.out; have := HJ5.out; omega⟩, ⟨by (with_reducible repeat (first | refine blk_drewN ?_ _ | refine blk_drew ?_ | refine blk_alloc ?_ _)); exact BK166.out⟩, ⟨zb _⟩⟩
          ·rw [if_neg c21] at H
           have c21b0 : (t170.toList == ([] : List UInt8)) = false := beq_eq_false_iff_ne.mpr c21
           have c21b1 : (t170.toList != ([] : List UInt8)) = true := bne_iff_ne.mpr c21
           obtain ⟨t173, A380, H⟩ := Option.bind_eq_some_iff.mp H
           have A38 := Aside0.mk A380
           clear A380
           obtain ⟨t174, A390, H⟩ := Option.bind_eq_some_iff.mp H
           have A39 := Aside0.mk A390
           clear A390
           by_cases c40 : t174.toList = a0.toList
           ·rw [if_pos c40] at H
            have c40b0 : (t174.toList == a0.toList) = true := beq_iff_eq.mpr c40
            have c40b1 : (t174.toList != a0.toList) = false := bne_eq_false_iff_eq.mpr c40
            clear c40
            simp only [Option.some.injEq, Prod.mk.injEq] at H
            obtain ⟨rfl, rfl, rfl, rfl⟩ := H
            have hnb41 := NB167_166.out
            have hnc41 := NB166_167.out
            have hcz42_0 := zc0 BK167
            have hcz42_1 := zc1 BK167
            have hcz42_2 := zc2 BK167
            have hfz42_0 := blk_frozen BK167.out 0
            have hfz42_1 := blk_frozen BK167.out 1
            have hfz42_2 := blk_frozen BK167.out 2
            go_wp2_with (first | ((with_reducible refine gate_callee (f := 9) rfl ?_); refine zc (some 37) Tryz.func9 #[.int .i64 (Int.tmod x4_1 256), .bool (decide (x4_1 ≥ 256))] ?_; (with_reducible refine (spec_l3Template.calls (Int.tmod x4_1 256) (decide (x4_1 ≥ 256)) t169 _ A18.out).mono ?_); rintro e w43 ⟨rfl, hb⟩; refine ⟨_, rfl, ?_⟩; replace BK166 := zk BK166 hb; replace BK167 := zk BK167 hb; replace HB := zt w hb; (try clear hb); (try clear hb2); (try clear hk); (try clear hi)) | ((with_reducible refine gate_callee (f := 8) rfl ?_); refine zc (some 38) Tryz.func8 #[.string a0, .string t169] ?_; (with_reducible refine (spec_l3Fits.calls kj5 a0 t169 t170 true _ A19.out).mono ?_); rintro e w44 ⟨rfl, hb⟩; refine ⟨_, rfl, ?_⟩; replace BK166 := zk BK166 hb; replace BK167 := zk BK167 hb; replace HB := zt w hb; (try clear hb); (try clear hb2); (try clear hk); (try clear hi)) | ((with_reducible refine gate_callee (f := 10) rfl ?_); refine zc (some 46) Tryz.func10 #[.string t170] ?_; (with_reducible refine (spec_l3Imm.calls kj5 t170 t173 _ A38.out).mono ?_); rintro e w' ⟨rfl, ⟨nd, rfl⟩⟩; refine ⟨_, rfl, ?_⟩; (try (rw [drewN_self w44]; generalize hq_ : World.drewN w44 _ = w44; have n0_ : Aside0 (w44.heap[gb166]? = some (.cells #[.int .i64 x167000_1, .bool x167001_1, .int .i64 x167002_1] 23 (0, 0))) := ⟨by rw [← hq_]; exact (zr BK166)⟩; have n1_ : Aside0 (w44.heap[gb167]? = some (.cells #[.int .i64 (Int.tmod x4_1 256), .bool (decide (x4_1 ≥ 256)), .int .i64 0] 23 (0, 0))) := ⟨by rw [← hq_]; exact (zr BK167)⟩; have n2_ : Aside0 (Below w.heap.size w w44) := ⟨by rw [← hq_]; exact (zb _)⟩; clear BK166 BK167 HB hq_; have BK166 := n0_; have BK167 := n1_; have HB := n2_; clear n0_ n1_ n2_)); have hcz45_0 := zc0 BK167; have hcz45_1 := zc1 BK167; have hcz45_2 := zc2 BK167; have hfz45_0 := blk_frozen BK167.out 0; have hfz45_1 := blk_frozen BK167.out 1; have hfz45_2 := blk_frozen BK167.out 2) | ((with_reducible refine gate_callee (f := 11) rfl ?_); refine zc (some 49) Tryz.func11 #[.agg #[.int .i64 (Int.tmod x4_1 256), .bool (decide (x4_1 ≥ 256)), .int .i64 t173]] ?_; (with_reducible refine (spec_InsText.calls kj5 (Int.tmod x4_1 256) (decide (x4_1 ≥ 256)) t173 t174 _ A39.out).mono ?_); rintro e w46 ⟨rfl, hb⟩; refine ⟨_, rfl, ?_⟩; replace BK166 := zkw (g := gb166) (o := .cells #[.int .i64 x167000_1, .bool x167001_1, .int .i64 x167002_1] 23 (0, 0)) hb; replace BK167 := zkw (g := gb167) (o := .cells #[.int .i64 (Int.tmod x4_1 256), .bool (decide (x4_1 ≥ 256)), .int .i64 t173] 23 (0, 0)) hb; replace HB := zt w hb; (try clear hb); (try clear hb2); (try clear hk); (try clear hi); have hcz47_0 := zc0 BK167; have hcz47_1 := zc1 BK167; have hcz47_2 := zc2 BK167; have hfz47_0 := blk_frozen BK167.out 0; have hfz47_1 := blk_frozen BK167.out 1; have hfz47_2 := blk_frozen BK167.out 2; have hcz48_0 := zc0 BK166; have hcz48_1 := zc1 BK166; have hcz48_2 := zc2 BK166; have hfz48_0 := blk_frozen BK166.out 0; have hfz48_1 := blk_frozen BK166.out 1; have hfz48_2 := blk_frozen BK166.out 2))
            refine bodyPost_ret (results_ct rfl _ _ gb166 23 #[.int .i64 (Int.tmod x4_1 256), .bool (decide (x4_1 ≥ 256)), .int .i64 t173] (0, 0) _ rfl (zw _) Tryz.underlying23 rfl (by kernel_rfl)) rfl ?_
            exact ⟨ze _, zb _⟩
           ·rw [if_neg c40] at H
            have c40b0 : (t174.toList == a0.toList) = false := beq_eq_false_iff_ne.mpr c40
            have c40b1 : (t174.toList != a0.toList) = true := bne_iff_ne.mpr c40
            have H' := Aside0.mk H
            clear H
            have hnb49 := NB167_166.out
            have hnc49 := NB166_167.out
            have hcz50_0 := zc0 BK167
            have hcz50_1 := zc1 BK167
            have hcz50_2 := zc2 BK167
            have hfz50_0 := blk_frozen BK167.out 0
            have hfz50_1 := blk_frozen BK167.out 1
            have hfz50_2 := blk_frozen BK167.out 2
            go_wp2_with (first | ((with_reducible refine gate_callee (f := 9) rfl ?_); refine zc (some 37) Tryz.func9 #[.int .i64 (Int.tmod x4_1 256), .bool (decide (x4_1 ≥ 256))] ?_; (with_reducible refine (spec_l3Template.calls (Int.tmod x4_1 256) (decide (x4_1 ≥ 256)) t169 _ A18.out).mono ?_); rintro e w51 ⟨rfl, hb⟩; refine ⟨_, rfl, ?_⟩; replace BK166 := zk BK166 hb; replace BK167 := zk BK167 hb; replace HB := zt w hb; (try clear hb); (try clear hb2); (try clear hk); (try clear hi)) | ((with_reducible refine gate_callee (f := 8) rfl ?_); refine zc (some 38) Tryz.func8 #[.string a0, .string t169] ?_; (with_reducible refine (spec_l3Fits.calls kj5 a0 t169 t170 true _ A19.out).mono ?_); rintro e w52 ⟨rfl, hb⟩; refine ⟨_, rfl, ?_⟩; replace BK166 := zk BK166 hb; replace BK167 := zk BK167 hb; replace HB := zt w hb; (try clear hb); (try clear hb2); (try clear hk); (try clear hi)) | ((with_reducible refine gate_callee (f := 10) rfl ?_); refine zc (some 46) Tryz.func10 #[.string t170] ?_; (with_reducible refine (spec_l3Imm.calls kj5 t170 t173 _ A38.out).mono ?_); rintro e w' ⟨rfl, ⟨nd, rfl⟩⟩; refine ⟨_, rfl, ?_⟩; (try (rw [drewN_self w52]; generalize hq_ : World.drewN w52 _ = w52; have n0_ : Aside0 (w52.heap[gb166]? = some (.cells #[.int .i64 x167000_1, .bool x167001_1, .int .i64 x167002_1] 23 (0, 0))) := ⟨by rw [← hq_]; exact (zr BK166)⟩; have n1_ : Aside0 (w52.heap[gb167]? = some (.cells #[.int .i64 (Int.tmod x4_1 256), .bool (decide (x4_1 ≥ 256)), .int .i64 0] 23 (0, 0))) := ⟨by rw [← hq_]; exact (zr BK167)⟩; have n2_ : Aside0 (Below w.heap.size w w52) := ⟨by rw [← hq_]; exact (zb _)⟩; clear BK166 BK167 HB hq_; have BK166 := n0_; have BK167 := n1_; have HB := n2_; clear n0_ n1_ n2_)); have hcz53_0 := zc0 BK167; have hcz53_1 := zc1 BK167; have hcz53_2 := zc2 BK167; have hfz53_0 := blk_frozen BK167.out 0; have hfz53_1 := blk_frozen BK167.out 1; have hfz53_2 := blk_frozen BK167.out 2) | ((with_reducible refine gate_callee (f := 11) rfl ?_); refine zc (some 49) Tryz.func11 #[.agg #[.int .i64 (Int.tmod x4_1 256), .bool (decide (x4_1 ≥ 256)), .int .i64 t173]] ?_; (with_reducible refine (spec_InsText.calls kj5 (Int.tmod x4_1 256) (decide (x4_1 ≥ 256)) t173 t174 _ A39.out).mono ?_); rintro e w54 ⟨rfl, hb⟩; refine ⟨_, rfl, ?_⟩; replace BK166 := zkw (g := gb166) (o := .cells #[.int .i64 x167000_1, .bool x167001_1, .int .i64 x167002_1] 23 (0, 0)) hb; replace BK167 := zkw (g := gb167) (o := .cells #[.int .i64 (Int.tmod x4_1 256), .bool (decide (x4_1 ≥ 256)), .int .i64 t173] 23 (0, 0)) hb; replace HB := zt w hb; (try clear hb); (try clear hb2); (try clear hk); (try clear hi)))
            go_roundg kj5
            case measure => have := HK1.out; have := HJ2.out; have := HJ5.out; omega
            case rel => exact ⟨(wrap64 (x4_1 + 1)), (x167000_1), (x167001_1), (x167002_1), (zE _), H', ⟨by have := HK1.out; have := HJ2.out; have := HJ5.out; omega⟩, ⟨by (with_reducible repeat (first | refine blk_drewN ?_ _ | refine blk_drew ?_ | refine blk_alloc ?_ _)); exact BK166.out⟩, ⟨zb _⟩⟩
         ·replace c20 := Bool.eq_false_iff.mpr c20
          subst c20
          rw [if_neg (show ¬ (false = true) by decide)] at H
          have H' := Aside0.mk H
          clear H
          have hnb55 := NB167_166.out
          have hnc55 := NB166_167.out
          have hcz56_0 := zc0 BK167
          have hcz56_1 := zc1 BK167
          have hcz56_2 := zc2 BK167
          have hfz56_0 := blk_frozen BK167.out 0
          have hfz56_1 := blk_frozen BK167.out 1
          have hfz56_2 := blk_frozen BK167.out 2
          go_wp2_with (first | ((with_reducible refine gate_callee (f := 9) rfl ?_); refine zc (some 37) Tryz.func9 #[.int .i64 (Int.tmod x4_1 256), .bool (decide (x4_1 ≥ 256))] ?_; (with_reducible refine (spec_l3Template.calls (Int.tmod x4_1 256) (decide (x4_1 ≥ 256)) t169 _ A18.out).mono ?_); rintro e w57 ⟨rfl, hb⟩; refine ⟨_, rfl, ?_⟩; replace BK166 := zk BK166 hb; replace BK167 := zk BK167 hb; replace HB := zt w hb; (try clear hb); (try clear hb2); (try clear hk); (try clear hi)) | ((with_reducible refine gate_callee (f := 8) rfl ?_); refine zc (some 38) Tryz.func8 #[.string a0, .string t169] ?_; (with_reducible refine (spec_l3Fits.calls kj5 a0 t169 t170 false _ A19.out).mono ?_); rintro e w58 ⟨rfl, hb⟩; refine ⟨_, rfl, ?_⟩; replace BK166 := zk BK166 hb; replace BK167 := zk BK167 hb; replace HB := zt w hb; (try clear hb); (try clear hb2); (try clear hk); (try clear hi)))
          go_roundg kj5
          case measure => have := HK1.out; have := HJ2.out; have := HJ5.out; omega
          case rel => exact ⟨(wrap64 (x4_1 + 1)), (x167000_1), (x167001_1), (x167002_1), (zE _), H', ⟨by have := HK1.out; have := HJ2.out; have := HJ5.out; omega⟩, ⟨by (with_reducible repeat (first | refine blk_drewN ?_ _ | refine blk_drew ?_ | refine blk_alloc ?_ _)); exact BK166.out⟩, ⟨zb _⟩⟩
     ·replace c5 := Bool.eq_false_iff.mpr c5
      subst c5
      rw [if_neg (show ¬ (false = true) by decide)] at H
      simp only [Option.some.injEq, Prod.mk.injEq] at H
      obtain ⟨rfl, rfl, rfl, rfl⟩ := H
      have hcz59_0 := zc0 BK166
      have hcz59_1 := zc1 BK166
      have hcz59_2 := zc2 BK166
      have hfz59_0 := blk_frozen BK166.out 0
      have hfz59_1 := blk_frozen BK166.out 1
      have hfz59_2 := blk_frozen BK166.out 2
      go_wp2
      refine bodyPost_ret (results_ct rfl _ _ gb166 23 #[.int .i64 0, .bool false, .int .i64 0] (0, 0) _ rfl (zw _) Tryz.underlying23 rfl (by kernel_rfl)) rfl ?_
      exact ⟨ze _, zb _⟩

/-! ### impl_within: function 18 -/
def impl_within.f (a0 : Int) (a1 : Int) (a2 : Int) : Option (Bool) := if a0 ≥ a1 then (some (decide (a0 ≤ a2))) else (some false)
set_option maxHeartbeats 8000000 in
set_option maxRecDepth 100000 in
theorem impl_within.calls (a0 : Int) (a1 : Int) (a2 : Int) (r : Bool) (w : World) (h : impl_within.f a0 a1 a2 = some r) :
 Calls Tryz.prog 18 #[.int .i64 a0, .int .i64 a1, .int .i64 a2] w fun e w' => e = .returned (.bool r) ∧ Drawn0 w w' := by
 have H : (if a0 ≥ a1 then (some (decide (a0 ≤ a2))) else (some false)) = some r := h
 clear h
 by_cases c4 : a0 ≥ a1
 ·rw [if_pos c4] at H
  have c4b0 : decide (a1 ≤ a0) = true := decide_eq_true c4
  clear c4
  obtain rfl := Option.some.inj H
  go_enter Tryz.func18, Tryz.ntmps18
  go_wp2
  first | go_ret | ((try simp only [Exit.inBlock, Exit.then]); apply bodyPost_ret; (exact results_tmp rfl _ _ _); rfl)
  exact ⟨zE _, zd _⟩
 ·rw [if_neg c4] at H
  have c4b0 : decide (a1 ≤ a0) = false := decide_eq_false c4
  clear c4
  obtain rfl := Option.some.inj H
  go_enter Tryz.func18, Tryz.ntmps18
  go_wp2
  first | go_ret | ((try simp only [Exit.inBlock, Exit.then]); apply bodyPost_ret; (exact results_tmp rfl _ _ _); rfl)
  exact ⟨zE _, zd _⟩

/-! ### impl_isByte: function 32 -/
def impl_isByte.f (a0 : Int) : Option (Bool) := (impl_within.f a0 0 255).bind fun t175 => (some t175)
set_option maxHeartbeats 8000000 in
set_option maxRecDepth 100000 in
theorem impl_isByte.calls (a0 : Int) (r : Bool) (w : World) (h : impl_isByte.f a0 = some r) :
 Calls Tryz.prog 32 #[.int .i64 a0] w fun e w' => e = .returned (.bool r) ∧ Drawn0 w w' := by
 have H : ((impl_within.f a0 0 255).bind fun t175 => (some t175)) = some r := h
 clear h
 obtain ⟨t175, A20, H⟩ := Option.bind_eq_some_iff.mp H
 have A2 := Aside0.mk A20
 clear A20
 obtain rfl := Option.some.inj H
 go_enter Tryz.func32, Tryz.ntmps32
 go_wp2_with (first | ((with_reducible refine gate_callee (f := 18) rfl ?_); refine zc (some 4) Tryz.func18 #[.int .i64 a0, .int .i64 0, .int .i64 255] ?_; (with_reducible refine (impl_within.calls a0 0 255 t175 _ A2.out).mono ?_); rintro e w' ⟨rfl, ⟨nd, rfl⟩⟩; refine ⟨_, rfl, ?_⟩))
 first | go_ret | ((try simp only [Exit.inBlock, Exit.then]); apply bodyPost_ret; (exact results_tmp rfl _ _ _); rfl)
 exact ⟨zE _, zd _⟩

/-! ### impl_prefixed: function 33 -/
open Go.Proofs.YtmiebnpmckjidaaGreatDoor.Aid
set_option maxRecDepth 100000 in
set_option maxHeartbeats 8000000 in
theorem impl_prefixed.namesC (s : ByteArray) (arr : Array Value) (k : Nat) (hk : Go.Lib.countB s ⟨#[32]⟩ + 1 = k) (harr : ((Go.Lib.splitB ⟨#[32]⟩ 0 (Go.Lib.countB s ⟨#[32]⟩) s).map Value.string).toArray = arr) (hs : s.size < 4294967281) (w : World) (hG : GW w) :
    Calls Tryz.prog 38 #[.string s] w fun e w' => e = .returned (.slice (some ⟨w.heap.size, 0, none⟩) k k) ∧ w' = w.alloc (.cells arr 9) := by
  obtain ⟨m, hm⟩ := hG.maxlen
  have hc := Tryz.strings_Split s ⟨#[32]⟩ m w hs hm (by decide)
  rw [hk, harr] at hc
  clear hk harr
  go_enter Tryz.func38, Tryz.ntmps38
  go_wp2_with (go_at_call 59; refine hc.mono ?_; rintro e w' ⟨rfl, rfl⟩)
  (first | go_ret | (apply bodyPost_ret; (exact results_tmp rfl _ _ _); rfl))
  exact ⟨rfl, rfl⟩
def impl_prefixed.turnsArr : Array Value := #[.string (⟨#[114, 108, 99]⟩ : ByteArray), .string (⟨#[114, 114, 99]⟩ : ByteArray), .string (⟨#[114, 108]⟩ : ByteArray), .string (⟨#[114, 114]⟩ : ByteArray), .string (⟨#[115, 108, 97]⟩ : ByteArray), .string (⟨#[115, 114, 97]⟩ : ByteArray), .string (⟨#[115, 119, 97, 112]⟩ : ByteArray), .string (⟨#[115, 114, 108]⟩ : ByteArray)]
theorem impl_prefixed.turnsC (w : World) (hG : GW w) : Calls Tryz.prog 54 #[] w fun e w' => e = .returned (.slice (some ⟨w.heap.size, 0, none⟩) 8 8) ∧ w' = w.alloc (.cells impl_prefixed.turnsArr 9) := by
  have hc := impl_prefixed.namesC (⟨#[114, 108, 99, 32, 114, 114, 99, 32, 114, 108, 32, 114, 114, 32, 115, 108, 97, 32, 115, 114, 97, 32, 115, 119, 97, 112, 32, 115, 114, 108]⟩ : ByteArray) impl_prefixed.turnsArr 8 (by kernel_rfl) (by kernel_rfl) (by decide) w hG
  go_enter Tryz.func54, Tryz.ntmps54
  go_wp2_with (go_at_call 38; refine hc.mono ?_; rintro e w' ⟨rfl, rfl⟩)
  (first | go_ret | (apply bodyPost_ret; (exact results_tmp rfl _ _ _); rfl))
  exact ⟨rfl, rfl⟩
def impl_prefixed.regsArr : Array Value := #[.string (⟨#[98]⟩ : ByteArray), .string (⟨#[99]⟩ : ByteArray), .string (⟨#[100]⟩ : ByteArray), .string (⟨#[101]⟩ : ByteArray), .string (⟨#[104]⟩ : ByteArray), .string (⟨#[108]⟩ : ByteArray), .string (⟨#[91, 104, 108, 93]⟩ : ByteArray), .string (⟨#[97]⟩ : ByteArray)]
theorem impl_prefixed.regsC (w : World) (hG : GW w) : Calls Tryz.prog 37 #[] w fun e w' => e = .returned (.slice (some ⟨w.heap.size, 0, none⟩) 8 8) ∧ w' = w.alloc (.cells impl_prefixed.regsArr 9) := by
  have hc := impl_prefixed.namesC (⟨#[98, 32, 99, 32, 100, 32, 101, 32, 104, 32, 108, 32, 91, 104, 108, 93, 32, 97]⟩ : ByteArray) impl_prefixed.regsArr 8 (by kernel_rfl) (by kernel_rfl) (by decide) w hG
  go_enter Tryz.func37, Tryz.ntmps37
  go_wp2_with (go_at_call 38; refine hc.mono ?_; rintro e w' ⟨rfl, rfl⟩)
  (first | go_ret | (apply bodyPost_ret; (exact results_tmp rfl _ _ _); rfl))
  exact ⟨rfl, rfl⟩
def impl_prefixed.bitArr : Array Value := #[.string (⟨#[98, 105, 116]⟩ : ByteArray), .string (⟨#[114, 101, 115]⟩ : ByteArray), .string (⟨#[115, 101, 116]⟩ : ByteArray)]
theorem impl_prefixed.bitC (w : World) (hG : GW w) : Calls Tryz.prog 38 #[.string (⟨#[98, 105, 116, 32, 114, 101, 115, 32, 115, 101, 116]⟩ : ByteArray)] w fun e w' => e = .returned (.slice (some ⟨w.heap.size, 0, none⟩) 3 3) ∧ w' = w.alloc (.cells impl_prefixed.bitArr 9) :=
  impl_prefixed.namesC _ _ _ (by kernel_rfl) (by kernel_rfl) (by decide) w hG
theorem impl_prefixed.turns_at : ∀ y : Nat, y < 8 → impl_prefixed.turnsArr[y]? = some (.string (turnsL.getD y ⟨#[]⟩)) ∧ (turnsL.getD y ⟨#[]⟩).size ≤ 100
  | 0, _ => ⟨rfl, by decide⟩
  | 1, _ => ⟨rfl, by decide⟩
  | 2, _ => ⟨rfl, by decide⟩
  | 3, _ => ⟨rfl, by decide⟩
  | 4, _ => ⟨rfl, by decide⟩
  | 5, _ => ⟨rfl, by decide⟩
  | 6, _ => ⟨rfl, by decide⟩
  | 7, _ => ⟨rfl, by decide⟩
  | n + 8, h => absurd h (by omega)
theorem impl_prefixed.regs_at : ∀ y : Nat, y < 8 → impl_prefixed.regsArr[y]? = some (.string (regsL.getD y ⟨#[]⟩)) ∧ (regsL.getD y ⟨#[]⟩).size ≤ 100
  | 0, _ => ⟨rfl, by decide⟩
  | 1, _ => ⟨rfl, by decide⟩
  | 2, _ => ⟨rfl, by decide⟩
  | 3, _ => ⟨rfl, by decide⟩
  | 4, _ => ⟨rfl, by decide⟩
  | 5, _ => ⟨rfl, by decide⟩
  | 6, _ => ⟨rfl, by decide⟩
  | 7, _ => ⟨rfl, by decide⟩
  | n + 8, h => absurd h (by omega)
set_option maxRecDepth 100000 in
set_option maxHeartbeats 8000000 in
theorem impl_prefixed.decC (y : Nat) (s : ByteArray) (hy : y < 8) (hs : (⟨(Go.Lib.decDigits y).toArray⟩ : ByteArray) = s) (w : World) : Calls Tryz.prog 55 #[.int .i64 (y : Int)] w fun e w' => e = .returned (.string s) ∧ w' = w := by
  have hc := fun W => Tryz.strconv_FormatInt_10_small y (by omega) W
  rw [hs] at hc
  clear hs
  go_enter Tryz.func55, Tryz.ntmps55
  go_wp2_with (go_at_call 79; refine (hc _).mono ?_; rintro e w' ⟨rfl, rfl⟩)
  (first | go_ret | (apply bodyPost_ret; (exact results_tmp rfl _ _ _); rfl))
  exact ⟨rfl, rfl⟩
set_option maxRecDepth 100000 in
set_option maxHeartbeats 8000000 in
theorem impl_prefixed.ct (y z : Nat) (s t : ByteArray) (hs : impl_prefixed.turnsArr[y]? = some (.string s)) (ls : (y : Int) < 8) (zs : s.size ≤ 100) (ht : impl_prefixed.regsArr[z]? = some (.string t)) (lt : (z : Int) < 8) (zt : t.size ≤ 100) (w : World) (hG : GW w) : Calls Tryz.prog 33 #[.int .i64 0, .int .i64 (y : Int), .int .i64 (z : Int)] w fun e w' => e = .returned (.string ((s ++ ⟨#[32]⟩) ++ t)) ∧ Below w.heap.size w w' := by
  have HG := Aside0.mk hG
  clear hG
  go_enter Tryz.func33, Tryz.ntmps33
  go_wp2
  go_region_with (first | (go_at_call 54; refine (impl_prefixed.turnsC _ ?hg).mono ?_; (case hg => repeat (first | exact HG.out | apply GW.alloc | apply GW.drewN | apply GW.drew)); rintro e w' ⟨rfl, rfl⟩) | (go_at_call 37; refine (impl_prefixed.regsC _ ?hg).mono ?_; (case hg => repeat (first | exact HG.out | apply GW.alloc | apply GW.drewN | apply GW.drew)); rintro e w' ⟨rfl, rfl⟩))
  all_goals go_wp2
  all_goals ((first | go_ret | (apply bodyPost_ret; (exact results_tmp rfl _ _ _); rfl)); exact ⟨by first | rfl | decide, by repeat (first | exact Below.refl _ _ | apply below_alloc | apply pw_below_drewN | apply below_drew)⟩)
set_option maxRecDepth 100000 in
set_option maxHeartbeats 8000000 in
theorem impl_prefixed.cb (x i y z : Nat) (u s t : ByteArray) (x0 : ¬ (x : Int) = 0) (e : IntKind.i64.wrap ((x : Int) - 1) = (i : Int)) (hu : impl_prefixed.bitArr[i]? = some (.string u)) (lu : (i : Int) < 3) (zu : u.size ≤ 100) (hd : ∀ w, Calls Tryz.prog 55 #[.int .i64 (y : Int)] w fun e w' => e = .returned (.string s) ∧ w' = w) (zs : s.size ≤ 100) (ht : impl_prefixed.regsArr[z]? = some (.string t)) (lt : (z : Int) < 8) (zt : t.size ≤ 100) (w : World) (hG : GW w) : Calls Tryz.prog 33 #[.int .i64 (x : Int), .int .i64 (y : Int), .int .i64 (z : Int)] w fun e w' => e = .returned (.string ((((u ++ ⟨#[32]⟩) ++ s) ++ ⟨#[44]⟩) ++ t)) ∧ Below w.heap.size w w' := by
  have HG := Aside0.mk hG
  clear hG
  go_enter Tryz.func33, Tryz.ntmps33
  go_wp2
  go_region_with (first | (go_at_call 55; refine (hd _).mono ?_; rintro e w' ⟨rfl, rfl⟩) | (go_at_call 38; refine (impl_prefixed.bitC _ ?hg).mono ?_; (case hg => repeat (first | exact HG.out | apply GW.alloc | apply GW.drewN | apply GW.drew)); rintro e w' ⟨rfl, rfl⟩) | (go_at_call 37; refine (impl_prefixed.regsC _ ?hg).mono ?_; (case hg => repeat (first | exact HG.out | apply GW.alloc | apply GW.drewN | apply GW.drew)); rintro e w' ⟨rfl, rfl⟩))
  all_goals go_wp2
  all_goals ((first | go_ret | (apply bodyPost_ret; (exact results_tmp rfl _ _ _); rfl)); exact ⟨by first | rfl | decide, by repeat (first | exact Below.refl _ _ | apply below_alloc | apply pw_below_drewN | apply below_drew)⟩)
def impl_prefixed.f (a0 a1 a2 : Int) : Option ByteArray := if (0 ≤ a0 ∧ a0 < 4) ∧ (0 ≤ a1 ∧ a1 < 8) ∧ (0 ≤ a2 ∧ a2 < 8) then some (tmplT (64 * a0 + 8 * a1 + a2).toNat true) else none
theorem impl_prefixed.digit (y : Nat) (hy : y < 8) : (⟨(Go.Lib.decDigits y).toArray⟩ : ByteArray) = ⟨#[UInt8.ofNat (48 + y)]⟩ := by
  rw [Go.Lib.decDigits, dif_pos (by omega)]
theorem impl_prefixed.calls (a0 a1 a2 : Int) (r : ByteArray) (w : World) (hG : GW w) (h : impl_prefixed.f a0 a1 a2 = some r) :
 Calls Tryz.prog 33 #[.int .i64 a0, .int .i64 a1, .int .i64 a2] w fun e w' => e = .returned (.string r) ∧ Below w.heap.size w w' := by
 unfold impl_prefixed.f at h
 by_cases hr : (0 ≤ a0 ∧ a0 < 4) ∧ (0 ≤ a1 ∧ a1 < 8) ∧ (0 ≤ a2 ∧ a2 < 8)
 ·rw [if_pos hr] at h
  obtain rfl := Option.some.inj h
  obtain ⟨x, rfl⟩ : ∃ x : Nat, a0 = (x : Int) := ⟨a0.toNat, by omega⟩
  obtain ⟨y, rfl⟩ : ∃ y : Nat, a1 = (y : Int) := ⟨a1.toNat, by omega⟩
  obtain ⟨z, rfl⟩ : ∃ z : Nat, a2 = (z : Int) := ⟨a2.toNat, by omega⟩
  have hx : x < 4 := by omega
  have hy : y < 8 := by omega
  have hz : z < 8 := by omega
  rw [show (64 * (x : Int) + 8 * (y : Int) + (z : Int)).toNat = 64 * x + 8 * y + z by omega]
  have hT : tmplT (64 * x + 8 * y + z) true = if x = 0 then (turnsL.getD y ⟨#[]⟩ ++ ⟨#[32]⟩) ++ regsL.getD z ⟨#[]⟩ else ((wordsL.getD x ⟨#[]⟩ ++ ⟨#[UInt8.ofNat (48 + y)]⟩) ++ ⟨#[44]⟩) ++ regsL.getD z ⟨#[]⟩ := by
   unfold tmplT
   rw [if_pos rfl, show (64 * x + 8 * y + z) / 8 % 8 = y by omega, show (64 * x + 8 * y + z) % 8 = z by omega, show (64 * x + 8 * y + z) / 64 = x by omega]
   by_cases h0 : x = 0
   ·rw [if_pos h0, if_pos (by omega)]
   ·rw [if_neg h0, if_neg (by omega)]
  rw [hT]
  by_cases h0 : x = 0
  ·subst h0
   exact impl_prefixed.ct y z _ _ (impl_prefixed.turns_at _ hy).1 (by omega) (impl_prefixed.turns_at _ hy).2 (impl_prefixed.regs_at _ hz).1 (by omega) (impl_prefixed.regs_at _ hz).2 w hG
  ·rw [if_neg h0]
   have h3 : x = 1 ∨ x = 2 ∨ x = 3 := by omega
   rcases h3 with rfl | rfl | rfl
   ·exact impl_prefixed.cb 1 0 y z (⟨#[98, 105, 116]⟩ : ByteArray) _ _ (by decide) (by decide) rfl (by decide) (by decide) (impl_prefixed.decC y _ hy (impl_prefixed.digit y hy)) (by show (1 : Nat) ≤ 100; omega) (impl_prefixed.regs_at _ hz).1 (by omega) (impl_prefixed.regs_at _ hz).2 w hG
   ·exact impl_prefixed.cb 2 1 y z (⟨#[114, 101, 115]⟩ : ByteArray) _ _ (by decide) (by decide) rfl (by decide) (by decide) (impl_prefixed.decC y _ hy (impl_prefixed.digit y hy)) (by show (1 : Nat) ≤ 100; omega) (impl_prefixed.regs_at _ hz).1 (by omega) (impl_prefixed.regs_at _ hz).2 w hG
   ·exact impl_prefixed.cb 3 2 y z (⟨#[115, 101, 116]⟩ : ByteArray) _ _ (by decide) (by decide) rfl (by decide) (by decide) (impl_prefixed.decC y _ hy (impl_prefixed.digit y hy)) (by show (1 : Nat) ≤ 100; omega) (impl_prefixed.regs_at _ hz).1 (by omega) (impl_prefixed.regs_at _ hz).2 w hG
 ·rw [if_neg hr] at h
  cases h

/-! ### impl_low: function 34 -/
open Go.Proofs.YtmiebnpmckjidaaGreatDoor.Aid
set_option maxRecDepth 100000 in
set_option maxHeartbeats 8000000 in
theorem impl_low.namesC (s : ByteArray) (arr : Array Value) (k : Nat) (hk : Go.Lib.countB s ⟨#[32]⟩ + 1 = k) (harr : ((Go.Lib.splitB ⟨#[32]⟩ 0 (Go.Lib.countB s ⟨#[32]⟩) s).map Value.string).toArray = arr) (hs : s.size < 4294967281) (w : World) (hG : GW w) :
    Calls Tryz.prog 38 #[.string s] w fun e w' => e = .returned (.slice (some ⟨w.heap.size, 0, none⟩) k k) ∧ w' = w.alloc (.cells arr 9) := by
  obtain ⟨m, hm⟩ := hG.maxlen
  have hc := Tryz.strings_Split s ⟨#[32]⟩ m w hs hm (by decide)
  rw [hk, harr] at hc
  clear hk harr
  go_enter Tryz.func38, Tryz.ntmps38
  go_wp2_with (go_at_call 59; refine hc.mono ?_; rintro e w' ⟨rfl, rfl⟩)
  (first | go_ret | (apply bodyPost_ret; (exact results_tmp rfl _ _ _); rfl))
  exact ⟨rfl, rfl⟩
def impl_low.regsArr : Array Value := #[.string (⟨#[98]⟩ : ByteArray), .string (⟨#[99]⟩ : ByteArray), .string (⟨#[100]⟩ : ByteArray), .string (⟨#[101]⟩ : ByteArray), .string (⟨#[104]⟩ : ByteArray), .string (⟨#[108]⟩ : ByteArray), .string (⟨#[91, 104, 108, 93]⟩ : ByteArray), .string (⟨#[97]⟩ : ByteArray)]
theorem impl_low.regsC (w : World) (hG : GW w) : Calls Tryz.prog 37 #[] w fun e w' => e = .returned (.slice (some ⟨w.heap.size, 0, none⟩) 8 8) ∧ w' = w.alloc (.cells impl_low.regsArr 9) := by
  have hc := impl_low.namesC (⟨#[98, 32, 99, 32, 100, 32, 101, 32, 104, 32, 108, 32, 91, 104, 108, 93, 32, 97]⟩ : ByteArray) impl_low.regsArr 8 (by kernel_rfl) (by kernel_rfl) (by decide) w hG
  go_enter Tryz.func37, Tryz.ntmps37
  go_wp2_with (go_at_call 38; refine hc.mono ?_; rintro e w' ⟨rfl, rfl⟩)
  (first | go_ret | (apply bodyPost_ret; (exact results_tmp rfl _ _ _); rfl))
  exact ⟨rfl, rfl⟩
def impl_low.pairsArr : Array Value := #[.string (⟨#[98, 99]⟩ : ByteArray), .string (⟨#[100, 101]⟩ : ByteArray), .string (⟨#[104, 108]⟩ : ByteArray), .string (⟨#[115, 112]⟩ : ByteArray)]
theorem impl_low.pairsC (w : World) (hG : GW w) : Calls Tryz.prog 57 #[] w fun e w' => e = .returned (.slice (some ⟨w.heap.size, 0, none⟩) 4 4) ∧ w' = w.alloc (.cells impl_low.pairsArr 9) := by
  have hc := impl_low.namesC (⟨#[98, 99, 32, 100, 101, 32, 104, 108, 32, 115, 112]⟩ : ByteArray) impl_low.pairsArr 4 (by kernel_rfl) (by kernel_rfl) (by decide) w hG
  go_enter Tryz.func57, Tryz.ntmps57
  go_wp2_with (go_at_call 38; refine hc.mono ?_; rintro e w' ⟨rfl, rfl⟩)
  (first | go_ret | (apply bodyPost_ret; (exact results_tmp rfl _ _ _); rfl))
  exact ⟨rfl, rfl⟩
def impl_low.condsArr : Array Value := #[.string (⟨#[110, 122]⟩ : ByteArray), .string (⟨#[122]⟩ : ByteArray), .string (⟨#[110, 99]⟩ : ByteArray), .string (⟨#[99]⟩ : ByteArray)]
theorem impl_low.condsC (w : World) (hG : GW w) : Calls Tryz.prog 56 #[] w fun e w' => e = .returned (.slice (some ⟨w.heap.size, 0, none⟩) 4 4) ∧ w' = w.alloc (.cells impl_low.condsArr 9) := by
  have hc := impl_low.namesC (⟨#[110, 122, 32, 122, 32, 110, 99, 32, 99]⟩ : ByteArray) impl_low.condsArr 4 (by kernel_rfl) (by kernel_rfl) (by decide) w hG
  go_enter Tryz.func56, Tryz.ntmps56
  go_wp2_with (go_at_call 38; refine hc.mono ?_; rintro e w' ⟨rfl, rfl⟩)
  (first | go_ret | (apply bodyPost_ret; (exact results_tmp rfl _ _ _); rfl))
  exact ⟨rfl, rfl⟩
def impl_low.atArr : Array Value := #[.string (⟨#[91, 98, 99, 93]⟩ : ByteArray), .string (⟨#[91, 100, 101, 93]⟩ : ByteArray), .string (⟨#[91, 104, 108, 43, 93]⟩ : ByteArray), .string (⟨#[91, 104, 108, 45, 93]⟩ : ByteArray)]
theorem impl_low.atC (w : World) (hG : GW w) : Calls Tryz.prog 38 #[.string (⟨#[91, 98, 99, 93, 32, 91, 100, 101, 93, 32, 91, 104, 108, 43, 93, 32, 91, 104, 108, 45, 93]⟩ : ByteArray)] w fun e w' => e = .returned (.slice (some ⟨w.heap.size, 0, none⟩) 4 4) ∧ w' = w.alloc (.cells impl_low.atArr 9) :=
  impl_low.namesC _ _ _ (by kernel_rfl) (by kernel_rfl) (by decide) w hG
def impl_low.incArr : Array Value := #[.string (⟨#[105, 110, 99]⟩ : ByteArray), .string (⟨#[100, 101, 99]⟩ : ByteArray)]
theorem impl_low.incC (w : World) (hG : GW w) : Calls Tryz.prog 38 #[.string (⟨#[105, 110, 99, 32, 100, 101, 99]⟩ : ByteArray)] w fun e w' => e = .returned (.slice (some ⟨w.heap.size, 0, none⟩) 2 2) ∧ w' = w.alloc (.cells impl_low.incArr 9) :=
  impl_low.namesC _ _ _ (by kernel_rfl) (by kernel_rfl) (by decide) w hG
def impl_low.rotArr : Array Value := #[.string (⟨#[114, 108, 99, 97]⟩ : ByteArray), .string (⟨#[114, 114, 99, 97]⟩ : ByteArray), .string (⟨#[114, 108, 97]⟩ : ByteArray), .string (⟨#[114, 114, 97]⟩ : ByteArray), .string (⟨#[100, 97, 97]⟩ : ByteArray), .string (⟨#[99, 112, 108]⟩ : ByteArray), .string (⟨#[115, 99, 102]⟩ : ByteArray), .string (⟨#[99, 99, 102]⟩ : ByteArray)]
theorem impl_low.rotC (w : World) (hG : GW w) : Calls Tryz.prog 38 #[.string (⟨#[114, 108, 99, 97, 32, 114, 114, 99, 97, 32, 114, 108, 97, 32, 114, 114, 97, 32, 100, 97, 97, 32, 99, 112, 108, 32, 115, 99, 102, 32, 99, 99, 102]⟩ : ByteArray)] w fun e w' => e = .returned (.slice (some ⟨w.heap.size, 0, none⟩) 8 8) ∧ w' = w.alloc (.cells impl_low.rotArr 9) :=
  impl_low.namesC _ _ _ (by kernel_rfl) (by kernel_rfl) (by decide) w hG
set_option maxRecDepth 100000 in
set_option maxHeartbeats 8000000 in
theorem impl_low.w0_0 (w : World) : Calls Tryz.prog 34 #[.int .i64 0, .int .i64 0] w fun e w' => e = .returned (.string (⟨#[110, 111, 112]⟩ : ByteArray)) ∧ Below w.heap.size w w' := by
  go_enter Tryz.func34, Tryz.ntmps34
  go_wp2
  (first | go_ret | (apply bodyPost_ret; (exact results_tmp rfl _ _ _); rfl))
  exact ⟨by first | rfl | decide, by repeat (first | exact Below.refl _ _ | apply below_alloc | apply pw_below_drewN | apply below_drew)⟩
set_option maxRecDepth 100000 in
set_option maxHeartbeats 8000000 in
theorem impl_low.w1_0 (w : World) : Calls Tryz.prog 34 #[.int .i64 1, .int .i64 0] w fun e w' => e = .returned (.string (⟨#[108, 100, 32, 91, 110, 49, 54, 93, 44, 115, 112]⟩ : ByteArray)) ∧ Below w.heap.size w w' := by
  go_enter Tryz.func34, Tryz.ntmps34
  go_wp2
  (first | go_ret | (apply bodyPost_ret; (exact results_tmp rfl _ _ _); rfl))
  exact ⟨by first | rfl | decide, by repeat (first | exact Below.refl _ _ | apply below_alloc | apply pw_below_drewN | apply below_drew)⟩
set_option maxRecDepth 100000 in
set_option maxHeartbeats 8000000 in
theorem impl_low.w2_0 (w : World) : Calls Tryz.prog 34 #[.int .i64 2, .int .i64 0] w fun e w' => e = .returned (.string (⟨#[115, 116, 111, 112, 32, 110, 56]⟩ : ByteArray)) ∧ Below w.heap.size w w' := by
  go_enter Tryz.func34, Tryz.ntmps34
  go_wp2
  (first | go_ret | (apply bodyPost_ret; (exact results_tmp rfl _ _ _); rfl))
  exact ⟨by first | rfl | decide, by repeat (first | exact Below.refl _ _ | apply below_alloc | apply pw_below_drewN | apply below_drew)⟩
set_option maxRecDepth 100000 in
set_option maxHeartbeats 8000000 in
theorem impl_low.w3_0 (w : World) : Calls Tryz.prog 34 #[.int .i64 3, .int .i64 0] w fun e w' => e = .returned (.string (⟨#[106, 114, 32, 101, 56]⟩ : ByteArray)) ∧ Below w.heap.size w w' := by
  go_enter Tryz.func34, Tryz.ntmps34
  go_wp2
  (first | go_ret | (apply bodyPost_ret; (exact results_tmp rfl _ _ _); rfl))
  exact ⟨by first | rfl | decide, by repeat (first | exact Below.refl _ _ | apply below_alloc | apply pw_below_drewN | apply below_drew)⟩
set_option maxRecDepth 100000 in
set_option maxHeartbeats 8000000 in
theorem impl_low.s0 (y i : Nat) (s : ByteArray) (h4 : ¬ (y : Int) < 4) (h4b : (4 : Int) ≤ (y : Int)) (e : IntKind.i64.wrap ((y : Int) - 4) = (i : Int)) (hs : impl_low.condsArr[i]? = some (.string s)) (ls : (i : Int) < 4) (zs : s.size ≤ 100) (w : World) (hG : GW w) : Calls Tryz.prog 34 #[.int .i64 (y : Int), .int .i64 0] w fun e w' => e = .returned (.string (((⟨#[106, 114, 32]⟩ : ByteArray) ++ s) ++ (⟨#[44, 101, 56]⟩ : ByteArray))) ∧ Below w.heap.size w w' := by
  have HG := Aside0.mk hG
  clear hG
  go_enter Tryz.func34, Tryz.ntmps34
  go_wp2_with (go_at_call 56; refine (impl_low.condsC _ ?hg).mono ?_; (case hg => repeat (first | exact HG.out | apply GW.alloc | apply GW.drewN | apply GW.drew)); rintro e w' ⟨rfl, rfl⟩)
  (first | go_ret | (apply bodyPost_ret; (exact results_tmp rfl _ _ _); rfl))
  exact ⟨by first | rfl | decide, by repeat (first | exact Below.refl _ _ | apply below_alloc | apply pw_below_drewN | apply below_drew)⟩
set_option maxRecDepth 100000 in
set_option maxHeartbeats 8000000 in
theorem impl_low.s1a (y p : Nat) (s : ByteArray) (eq : (y : Int).tmod 2 = 0) (ep : wrap64 ((y : Int) / 2) = (p : Int)) (hs : impl_low.pairsArr[p]? = some (.string s)) (ls : (p : Int) < 4) (zs : s.size ≤ 100) (w : World) (hG : GW w) : Calls Tryz.prog 34 #[.int .i64 (y : Int), .int .i64 1] w fun e w' => e = .returned (.string (((⟨#[108, 100, 32]⟩ : ByteArray) ++ s) ++ (⟨#[44, 110, 49, 54]⟩ : ByteArray))) ∧ Below w.heap.size w w' := by
  have HG := Aside0.mk hG
  clear hG
  go_enter Tryz.func34, Tryz.ntmps34
  go_wp2_with (go_at_call 57; refine (impl_low.pairsC _ ?hg).mono ?_; (case hg => repeat (first | exact HG.out | apply GW.alloc | apply GW.drewN | apply GW.drew)); rintro e w' ⟨rfl, rfl⟩)
  (first | go_ret | (apply bodyPost_ret; (exact results_tmp rfl _ _ _); rfl))
  exact ⟨by first | rfl | decide, by repeat (first | exact Below.refl _ _ | apply below_alloc | apply pw_below_drewN | apply below_drew)⟩
set_option maxRecDepth 100000 in
set_option maxHeartbeats 8000000 in
theorem impl_low.s1b (y p : Nat) (s : ByteArray) (eq : (y : Int).tmod 2 = 1) (ep : wrap64 ((y : Int) / 2) = (p : Int)) (hs : impl_low.pairsArr[p]? = some (.string s)) (ls : (p : Int) < 4) (zs : s.size ≤ 100) (w : World) (hG : GW w) : Calls Tryz.prog 34 #[.int .i64 (y : Int), .int .i64 1] w fun e w' => e = .returned (.string ((⟨#[97, 100, 100, 32, 104, 108, 44]⟩ : ByteArray) ++ s)) ∧ Below w.heap.size w w' := by
  have HG := Aside0.mk hG
  clear hG
  go_enter Tryz.func34, Tryz.ntmps34
  go_wp2_with (go_at_call 57; refine (impl_low.pairsC _ ?hg).mono ?_; (case hg => repeat (first | exact HG.out | apply GW.alloc | apply GW.drewN | apply GW.drew)); rintro e w' ⟨rfl, rfl⟩)
  (first | go_ret | (apply bodyPost_ret; (exact results_tmp rfl _ _ _); rfl))
  exact ⟨by first | rfl | decide, by repeat (first | exact Below.refl _ _ | apply below_alloc | apply pw_below_drewN | apply below_drew)⟩
set_option maxRecDepth 100000 in
set_option maxHeartbeats 8000000 in
theorem impl_low.s2a (y p : Nat) (s : ByteArray) (eq : (y : Int).tmod 2 = 0) (ep : wrap64 ((y : Int) / 2) = (p : Int)) (hs : impl_low.atArr[p]? = some (.string s)) (ls : (p : Int) < 4) (zs : s.size ≤ 100) (w : World) (hG : GW w) : Calls Tryz.prog 34 #[.int .i64 (y : Int), .int .i64 2] w fun e w' => e = .returned (.string (((⟨#[108, 100, 32]⟩ : ByteArray) ++ s) ++ (⟨#[44, 97]⟩ : ByteArray))) ∧ Below w.heap.size w w' := by
  have HG := Aside0.mk hG
  clear hG
  go_enter Tryz.func34, Tryz.ntmps34
  go_wp2_with (go_at_call 38; refine (impl_low.atC _ ?hg).mono ?_; (case hg => repeat (first | exact HG.out | apply GW.alloc | apply GW.drewN | apply GW.drew)); rintro e w' ⟨rfl, rfl⟩)
  (first | go_ret | (apply bodyPost_ret; (exact results_tmp rfl _ _ _); rfl))
  exact ⟨by first | rfl | decide, by repeat (first | exact Below.refl _ _ | apply below_alloc | apply pw_below_drewN | apply below_drew)⟩
set_option maxRecDepth 100000 in
set_option maxHeartbeats 8000000 in
theorem impl_low.s2b (y p : Nat) (s : ByteArray) (eq : (y : Int).tmod 2 = 1) (ep : wrap64 ((y : Int) / 2) = (p : Int)) (hs : impl_low.atArr[p]? = some (.string s)) (ls : (p : Int) < 4) (zs : s.size ≤ 100) (w : World) (hG : GW w) : Calls Tryz.prog 34 #[.int .i64 (y : Int), .int .i64 2] w fun e w' => e = .returned (.string ((⟨#[108, 100, 32, 97, 44]⟩ : ByteArray) ++ s)) ∧ Below w.heap.size w w' := by
  have HG := Aside0.mk hG
  clear hG
  go_enter Tryz.func34, Tryz.ntmps34
  go_wp2_with (go_at_call 38; refine (impl_low.atC _ ?hg).mono ?_; (case hg => repeat (first | exact HG.out | apply GW.alloc | apply GW.drewN | apply GW.drew)); rintro e w' ⟨rfl, rfl⟩)
  (first | go_ret | (apply bodyPost_ret; (exact results_tmp rfl _ _ _); rfl))
  exact ⟨by first | rfl | decide, by repeat (first | exact Below.refl _ _ | apply below_alloc | apply pw_below_drewN | apply below_drew)⟩
set_option maxRecDepth 100000 in
set_option maxHeartbeats 8000000 in
theorem impl_low.s3 (y p q : Nat) (s t : ByteArray) (eq : (y : Int).tmod 2 = (q : Int)) (ep : wrap64 ((y : Int) / 2) = (p : Int)) (hs : impl_low.pairsArr[p]? = some (.string s)) (ls : (p : Int) < 4) (zs : s.size ≤ 100) (ht : impl_low.incArr[q]? = some (.string t)) (lt : (q : Int) < 2) (zt : t.size ≤ 100) (w : World) (hG : GW w) : Calls Tryz.prog 34 #[.int .i64 (y : Int), .int .i64 3] w fun e w' => e = .returned (.string ((t ++ ⟨#[32]⟩) ++ s)) ∧ Below w.heap.size w w' := by
  have HG := Aside0.mk hG
  clear hG
  go_enter Tryz.func34, Tryz.ntmps34
  go_wp2
  go_region_with (first | (go_at_call 57; refine (impl_low.pairsC _ ?hg).mono ?_; (case hg => repeat (first | exact HG.out | apply GW.alloc | apply GW.drewN | apply GW.drew)); rintro e w' ⟨rfl, rfl⟩) | (go_at_call 38; refine (impl_low.incC _ ?hg).mono ?_; (case hg => repeat (first | exact HG.out | apply GW.alloc | apply GW.drewN | apply GW.drew)); rintro e w' ⟨rfl, rfl⟩))
  all_goals go_wp2
  all_goals ((first | go_ret | (apply bodyPost_ret; (exact results_tmp rfl _ _ _); rfl)); exact ⟨by first | rfl | decide, by repeat (first | exact Below.refl _ _ | apply below_alloc | apply pw_below_drewN | apply below_drew)⟩)
set_option maxRecDepth 100000 in
set_option maxHeartbeats 8000000 in
theorem impl_low.s4 (y : Nat) (s t : ByteArray) (hs : impl_low.regsArr[y]? = some (.string s)) (ls : (y : Int) < 8) (zs : s.size ≤ 100) (ht : impl_low.incArr[0]? = some (.string t)) (zt : t.size ≤ 100) (w : World) (hG : GW w) : Calls Tryz.prog 34 #[.int .i64 (y : Int), .int .i64 4] w fun e w' => e = .returned (.string ((t ++ ⟨#[32]⟩) ++ s)) ∧ Below w.heap.size w w' := by
  have HG := Aside0.mk hG
  clear hG
  go_enter Tryz.func34, Tryz.ntmps34
  go_wp2
  go_region_with (first | (go_at_call 37; refine (impl_low.regsC _ ?hg).mono ?_; (case hg => repeat (first | exact HG.out | apply GW.alloc | apply GW.drewN | apply GW.drew)); rintro e w' ⟨rfl, rfl⟩) | (go_at_call 38; refine (impl_low.incC _ ?hg).mono ?_; (case hg => repeat (first | exact HG.out | apply GW.alloc | apply GW.drewN | apply GW.drew)); rintro e w' ⟨rfl, rfl⟩))
  all_goals go_wp2
  all_goals ((first | go_ret | (apply bodyPost_ret; (exact results_tmp rfl _ _ _); rfl)); exact ⟨by first | rfl | decide, by repeat (first | exact Below.refl _ _ | apply below_alloc | apply pw_below_drewN | apply below_drew)⟩)
set_option maxRecDepth 100000 in
set_option maxHeartbeats 8000000 in
theorem impl_low.s5 (y : Nat) (s t : ByteArray) (hs : impl_low.regsArr[y]? = some (.string s)) (ls : (y : Int) < 8) (zs : s.size ≤ 100) (ht : impl_low.incArr[1]? = some (.string t)) (zt : t.size ≤ 100) (w : World) (hG : GW w) : Calls Tryz.prog 34 #[.int .i64 (y : Int), .int .i64 5] w fun e w' => e = .returned (.string ((t ++ ⟨#[32]⟩) ++ s)) ∧ Below w.heap.size w w' := by
  have HG := Aside0.mk hG
  clear hG
  go_enter Tryz.func34, Tryz.ntmps34
  go_wp2
  go_region_with (first | (go_at_call 37; refine (impl_low.regsC _ ?hg).mono ?_; (case hg => repeat (first | exact HG.out | apply GW.alloc | apply GW.drewN | apply GW.drew)); rintro e w' ⟨rfl, rfl⟩) | (go_at_call 38; refine (impl_low.incC _ ?hg).mono ?_; (case hg => repeat (first | exact HG.out | apply GW.alloc | apply GW.drewN | apply GW.drew)); rintro e w' ⟨rfl, rfl⟩))
  all_goals go_wp2
  all_goals ((first | go_ret | (apply bodyPost_ret; (exact results_tmp rfl _ _ _); rfl)); exact ⟨by first | rfl | decide, by repeat (first | exact Below.refl _ _ | apply below_alloc | apply pw_below_drewN | apply below_drew)⟩)
set_option maxRecDepth 100000 in
set_option maxHeartbeats 8000000 in
theorem impl_low.s6 (y : Nat) (s : ByteArray) (hs : impl_low.regsArr[y]? = some (.string s)) (ls : (y : Int) < 8) (zs : s.size ≤ 100) (w : World) (hG : GW w) : Calls Tryz.prog 34 #[.int .i64 (y : Int), .int .i64 6] w fun e w' => e = .returned (.string (((⟨#[108, 100, 32]⟩ : ByteArray) ++ s) ++ (⟨#[44, 110, 56]⟩ : ByteArray))) ∧ Below w.heap.size w w' := by
  have HG := Aside0.mk hG
  clear hG
  go_enter Tryz.func34, Tryz.ntmps34
  go_wp2_with (go_at_call 37; refine (impl_low.regsC _ ?hg).mono ?_; (case hg => repeat (first | exact HG.out | apply GW.alloc | apply GW.drewN | apply GW.drew)); rintro e w' ⟨rfl, rfl⟩)
  (first | go_ret | (apply bodyPost_ret; (exact results_tmp rfl _ _ _); rfl))
  exact ⟨by first | rfl | decide, by repeat (first | exact Below.refl _ _ | apply below_alloc | apply pw_below_drewN | apply below_drew)⟩
set_option maxRecDepth 100000 in
set_option maxHeartbeats 8000000 in
theorem impl_low.s7 (y : Nat) (s : ByteArray) (hs : impl_low.rotArr[y]? = some (.string s)) (ls : (y : Int) < 8) (zs : s.size ≤ 100) (w : World) (hG : GW w) : Calls Tryz.prog 34 #[.int .i64 (y : Int), .int .i64 7] w fun e w' => e = .returned (.string (s)) ∧ Below w.heap.size w w' := by
  have HG := Aside0.mk hG
  clear hG
  go_enter Tryz.func34, Tryz.ntmps34
  go_wp2_with (go_at_call 38; refine (impl_low.rotC _ ?hg).mono ?_; (case hg => repeat (first | exact HG.out | apply GW.alloc | apply GW.drewN | apply GW.drew)); rintro e w' ⟨rfl, rfl⟩)
  (first | go_ret | (apply bodyPost_ret; (exact results_tmp rfl _ _ _); rfl))
  exact ⟨by first | rfl | decide, by repeat (first | exact Below.refl _ _ | apply below_alloc | apply pw_below_drewN | apply below_drew)⟩
def impl_low.f (a0 a1 : Int) : Option ByteArray := if (0 ≤ a0 ∧ a0 < 8) ∧ (0 ≤ a1 ∧ a1 < 8) then some (lowL.getD (8 * a1 + a0).toNat ⟨#[]⟩) else none
theorem impl_low.calls (a0 a1 : Int) (r : ByteArray) (w : World) (hG : GW w) (h : impl_low.f a0 a1 = some r) :
 Calls Tryz.prog 34 #[.int .i64 a0, .int .i64 a1] w fun e w' => e = .returned (.string r) ∧ Below w.heap.size w w' := by
 unfold impl_low.f at h
 by_cases hr : (0 ≤ a0 ∧ a0 < 8) ∧ (0 ≤ a1 ∧ a1 < 8)
 ·rw [if_pos hr] at h
  obtain rfl := Option.some.inj h
  have hy : a0 = 0 ∨ a0 = 1 ∨ a0 = 2 ∨ a0 = 3 ∨ a0 = 4 ∨ a0 = 5 ∨ a0 = 6 ∨ a0 = 7 := by omega
  have hz : a1 = 0 ∨ a1 = 1 ∨ a1 = 2 ∨ a1 = 3 ∨ a1 = 4 ∨ a1 = 5 ∨ a1 = 6 ∨ a1 = 7 := by omega
  clear hr h
  rcases hz with rfl | rfl | rfl | rfl | rfl | rfl | rfl | rfl
  ·rcases hy with rfl | rfl | rfl | rfl | rfl | rfl | rfl | rfl
   ·exact (impl_low.w0_0 w).mono (by rintro e w' ⟨rfl, h⟩; exact ⟨by first | rfl | decide, h⟩)
   ·exact (impl_low.w1_0 w).mono (by rintro e w' ⟨rfl, h⟩; exact ⟨by first | rfl | decide, h⟩)
   ·exact (impl_low.w2_0 w).mono (by rintro e w' ⟨rfl, h⟩; exact ⟨by first | rfl | decide, h⟩)
   ·exact (impl_low.w3_0 w).mono (by rintro e w' ⟨rfl, h⟩; exact ⟨by first | rfl | decide, h⟩)
   ·exact (impl_low.s0 4 0 (⟨#[110, 122]⟩ : ByteArray) (by decide) (by decide) (by decide) rfl (by decide) (by decide) w hG).mono (by rintro e w' ⟨rfl, h⟩; exact ⟨by first | rfl | decide, h⟩)
   ·exact (impl_low.s0 5 1 (⟨#[122]⟩ : ByteArray) (by decide) (by decide) (by decide) rfl (by decide) (by decide) w hG).mono (by rintro e w' ⟨rfl, h⟩; exact ⟨by first | rfl | decide, h⟩)
   ·exact (impl_low.s0 6 2 (⟨#[110, 99]⟩ : ByteArray) (by decide) (by decide) (by decide) rfl (by decide) (by decide) w hG).mono (by rintro e w' ⟨rfl, h⟩; exact ⟨by first | rfl | decide, h⟩)
   ·exact (impl_low.s0 7 3 (⟨#[99]⟩ : ByteArray) (by decide) (by decide) (by decide) rfl (by decide) (by decide) w hG).mono (by rintro e w' ⟨rfl, h⟩; exact ⟨by first | rfl | decide, h⟩)
  ·rcases hy with rfl | rfl | rfl | rfl | rfl | rfl | rfl | rfl
   ·exact (impl_low.s1a 0 0 (⟨#[98, 99]⟩ : ByteArray) (by decide) (by unfold wrap64; decide) rfl (by decide) (by decide) w hG).mono (by rintro e w' ⟨rfl, h⟩; exact ⟨by first | rfl | decide, h⟩)
   ·exact (impl_low.s1b 1 0 (⟨#[98, 99]⟩ : ByteArray) (by decide) (by unfold wrap64; decide) rfl (by decide) (by decide) w hG).mono (by rintro e w' ⟨rfl, h⟩; exact ⟨by first | rfl | decide, h⟩)
   ·exact (impl_low.s1a 2 1 (⟨#[100, 101]⟩ : ByteArray) (by decide) (by unfold wrap64; decide) rfl (by decide) (by decide) w hG).mono (by rintro e w' ⟨rfl, h⟩; exact ⟨by first | rfl | decide, h⟩)
   ·exact (impl_low.s1b 3 1 (⟨#[100, 101]⟩ : ByteArray) (by decide) (by unfold wrap64; decide) rfl (by decide) (by decide) w hG).mono (by rintro e w' ⟨rfl, h⟩; exact ⟨by first | rfl | decide, h⟩)
   ·exact (impl_low.s1a 4 2 (⟨#[104, 108]⟩ : ByteArray) (by decide) (by unfold wrap64; decide) rfl (by decide) (by decide) w hG).mono (by rintro e w' ⟨rfl, h⟩; exact ⟨by first | rfl | decide, h⟩)
   ·exact (impl_low.s1b 5 2 (⟨#[104, 108]⟩ : ByteArray) (by decide) (by unfold wrap64; decide) rfl (by decide) (by decide) w hG).mono (by rintro e w' ⟨rfl, h⟩; exact ⟨by first | rfl | decide, h⟩)
   ·exact (impl_low.s1a 6 3 (⟨#[115, 112]⟩ : ByteArray) (by decide) (by unfold wrap64; decide) rfl (by decide) (by decide) w hG).mono (by rintro e w' ⟨rfl, h⟩; exact ⟨by first | rfl | decide, h⟩)
   ·exact (impl_low.s1b 7 3 (⟨#[115, 112]⟩ : ByteArray) (by decide) (by unfold wrap64; decide) rfl (by decide) (by decide) w hG).mono (by rintro e w' ⟨rfl, h⟩; exact ⟨by first | rfl | decide, h⟩)
  ·rcases hy with rfl | rfl | rfl | rfl | rfl | rfl | rfl | rfl
   ·exact (impl_low.s2a 0 0 (⟨#[91, 98, 99, 93]⟩ : ByteArray) (by decide) (by unfold wrap64; decide) rfl (by decide) (by decide) w hG).mono (by rintro e w' ⟨rfl, h⟩; exact ⟨by first | rfl | decide, h⟩)
   ·exact (impl_low.s2b 1 0 (⟨#[91, 98, 99, 93]⟩ : ByteArray) (by decide) (by unfold wrap64; decide) rfl (by decide) (by decide) w hG).mono (by rintro e w' ⟨rfl, h⟩; exact ⟨by first | rfl | decide, h⟩)
   ·exact (impl_low.s2a 2 1 (⟨#[91, 100, 101, 93]⟩ : ByteArray) (by decide) (by unfold wrap64; decide) rfl (by decide) (by decide) w hG).mono (by rintro e w' ⟨rfl, h⟩; exact ⟨by first | rfl | decide, h⟩)
   ·exact (impl_low.s2b 3 1 (⟨#[91, 100, 101, 93]⟩ : ByteArray) (by decide) (by unfold wrap64; decide) rfl (by decide) (by decide) w hG).mono (by rintro e w' ⟨rfl, h⟩; exact ⟨by first | rfl | decide, h⟩)
   ·exact (impl_low.s2a 4 2 (⟨#[91, 104, 108, 43, 93]⟩ : ByteArray) (by decide) (by unfold wrap64; decide) rfl (by decide) (by decide) w hG).mono (by rintro e w' ⟨rfl, h⟩; exact ⟨by first | rfl | decide, h⟩)
   ·exact (impl_low.s2b 5 2 (⟨#[91, 104, 108, 43, 93]⟩ : ByteArray) (by decide) (by unfold wrap64; decide) rfl (by decide) (by decide) w hG).mono (by rintro e w' ⟨rfl, h⟩; exact ⟨by first | rfl | decide, h⟩)
   ·exact (impl_low.s2a 6 3 (⟨#[91, 104, 108, 45, 93]⟩ : ByteArray) (by decide) (by unfold wrap64; decide) rfl (by decide) (by decide) w hG).mono (by rintro e w' ⟨rfl, h⟩; exact ⟨by first | rfl | decide, h⟩)
   ·exact (impl_low.s2b 7 3 (⟨#[91, 104, 108, 45, 93]⟩ : ByteArray) (by decide) (by unfold wrap64; decide) rfl (by decide) (by decide) w hG).mono (by rintro e w' ⟨rfl, h⟩; exact ⟨by first | rfl | decide, h⟩)
  ·rcases hy with rfl | rfl | rfl | rfl | rfl | rfl | rfl | rfl
   ·exact (impl_low.s3 0 0 0 (⟨#[98, 99]⟩ : ByteArray) (⟨#[105, 110, 99]⟩ : ByteArray) (by decide) (by unfold wrap64; decide) rfl (by decide) (by decide) rfl (by decide) (by decide) w hG).mono (by rintro e w' ⟨rfl, h⟩; exact ⟨by first | rfl | decide, h⟩)
   ·exact (impl_low.s3 1 0 1 (⟨#[98, 99]⟩ : ByteArray) (⟨#[100, 101, 99]⟩ : ByteArray) (by decide) (by unfold wrap64; decide) rfl (by decide) (by decide) rfl (by decide) (by decide) w hG).mono (by rintro e w' ⟨rfl, h⟩; exact ⟨by first | rfl | decide, h⟩)
   ·exact (impl_low.s3 2 1 0 (⟨#[100, 101]⟩ : ByteArray) (⟨#[105, 110, 99]⟩ : ByteArray) (by decide) (by unfold wrap64; decide) rfl (by decide) (by decide) rfl (by decide) (by decide) w hG).mono (by rintro e w' ⟨rfl, h⟩; exact ⟨by first | rfl | decide, h⟩)
   ·exact (impl_low.s3 3 1 1 (⟨#[100, 101]⟩ : ByteArray) (⟨#[100, 101, 99]⟩ : ByteArray) (by decide) (by unfold wrap64; decide) rfl (by decide) (by decide) rfl (by decide) (by decide) w hG).mono (by rintro e w' ⟨rfl, h⟩; exact ⟨by first | rfl | decide, h⟩)
   ·exact (impl_low.s3 4 2 0 (⟨#[104, 108]⟩ : ByteArray) (⟨#[105, 110, 99]⟩ : ByteArray) (by decide) (by unfold wrap64; decide) rfl (by decide) (by decide) rfl (by decide) (by decide) w hG).mono (by rintro e w' ⟨rfl, h⟩; exact ⟨by first | rfl | decide, h⟩)
   ·exact (impl_low.s3 5 2 1 (⟨#[104, 108]⟩ : ByteArray) (⟨#[100, 101, 99]⟩ : ByteArray) (by decide) (by unfold wrap64; decide) rfl (by decide) (by decide) rfl (by decide) (by decide) w hG).mono (by rintro e w' ⟨rfl, h⟩; exact ⟨by first | rfl | decide, h⟩)
   ·exact (impl_low.s3 6 3 0 (⟨#[115, 112]⟩ : ByteArray) (⟨#[105, 110, 99]⟩ : ByteArray) (by decide) (by unfold wrap64; decide) rfl (by decide) (by decide) rfl (by decide) (by decide) w hG).mono (by rintro e w' ⟨rfl, h⟩; exact ⟨by first | rfl | decide, h⟩)
   ·exact (impl_low.s3 7 3 1 (⟨#[115, 112]⟩ : ByteArray) (⟨#[100, 101, 99]⟩ : ByteArray) (by decide) (by unfold wrap64; decide) rfl (by decide) (by decide) rfl (by decide) (by decide) w hG).mono (by rintro e w' ⟨rfl, h⟩; exact ⟨by first | rfl | decide, h⟩)
  ·rcases hy with rfl | rfl | rfl | rfl | rfl | rfl | rfl | rfl
   ·exact (impl_low.s4 0 (⟨#[98]⟩ : ByteArray) (⟨#[105, 110, 99]⟩ : ByteArray) rfl (by decide) (by decide) rfl (by decide) w hG).mono (by rintro e w' ⟨rfl, h⟩; exact ⟨by first | rfl | decide, h⟩)
   ·exact (impl_low.s4 1 (⟨#[99]⟩ : ByteArray) (⟨#[105, 110, 99]⟩ : ByteArray) rfl (by decide) (by decide) rfl (by decide) w hG).mono (by rintro e w' ⟨rfl, h⟩; exact ⟨by first | rfl | decide, h⟩)
   ·exact (impl_low.s4 2 (⟨#[100]⟩ : ByteArray) (⟨#[105, 110, 99]⟩ : ByteArray) rfl (by decide) (by decide) rfl (by decide) w hG).mono (by rintro e w' ⟨rfl, h⟩; exact ⟨by first | rfl | decide, h⟩)
   ·exact (impl_low.s4 3 (⟨#[101]⟩ : ByteArray) (⟨#[105, 110, 99]⟩ : ByteArray) rfl (by decide) (by decide) rfl (by decide) w hG).mono (by rintro e w' ⟨rfl, h⟩; exact ⟨by first | rfl | decide, h⟩)
   ·exact (impl_low.s4 4 (⟨#[104]⟩ : ByteArray) (⟨#[105, 110, 99]⟩ : ByteArray) rfl (by decide) (by decide) rfl (by decide) w hG).mono (by rintro e w' ⟨rfl, h⟩; exact ⟨by first | rfl | decide, h⟩)
   ·exact (impl_low.s4 5 (⟨#[108]⟩ : ByteArray) (⟨#[105, 110, 99]⟩ : ByteArray) rfl (by decide) (by decide) rfl (by decide) w hG).mono (by rintro e w' ⟨rfl, h⟩; exact ⟨by first | rfl | decide, h⟩)
   ·exact (impl_low.s4 6 (⟨#[91, 104, 108, 93]⟩ : ByteArray) (⟨#[105, 110, 99]⟩ : ByteArray) rfl (by decide) (by decide) rfl (by decide) w hG).mono (by rintro e w' ⟨rfl, h⟩; exact ⟨by first | rfl | decide, h⟩)
   ·exact (impl_low.s4 7 (⟨#[97]⟩ : ByteArray) (⟨#[105, 110, 99]⟩ : ByteArray) rfl (by decide) (by decide) rfl (by decide) w hG).mono (by rintro e w' ⟨rfl, h⟩; exact ⟨by first | rfl | decide, h⟩)
  ·rcases hy with rfl | rfl | rfl | rfl | rfl | rfl | rfl | rfl
   ·exact (impl_low.s5 0 (⟨#[98]⟩ : ByteArray) (⟨#[100, 101, 99]⟩ : ByteArray) rfl (by decide) (by decide) rfl (by decide) w hG).mono (by rintro e w' ⟨rfl, h⟩; exact ⟨by first | rfl | decide, h⟩)
   ·exact (impl_low.s5 1 (⟨#[99]⟩ : ByteArray) (⟨#[100, 101, 99]⟩ : ByteArray) rfl (by decide) (by decide) rfl (by decide) w hG).mono (by rintro e w' ⟨rfl, h⟩; exact ⟨by first | rfl | decide, h⟩)
   ·exact (impl_low.s5 2 (⟨#[100]⟩ : ByteArray) (⟨#[100, 101, 99]⟩ : ByteArray) rfl (by decide) (by decide) rfl (by decide) w hG).mono (by rintro e w' ⟨rfl, h⟩; exact ⟨by first | rfl | decide, h⟩)
   ·exact (impl_low.s5 3 (⟨#[101]⟩ : ByteArray) (⟨#[100, 101, 99]⟩ : ByteArray) rfl (by decide) (by decide) rfl (by decide) w hG).mono (by rintro e w' ⟨rfl, h⟩; exact ⟨by first | rfl | decide, h⟩)
   ·exact (impl_low.s5 4 (⟨#[104]⟩ : ByteArray) (⟨#[100, 101, 99]⟩ : ByteArray) rfl (by decide) (by decide) rfl (by decide) w hG).mono (by rintro e w' ⟨rfl, h⟩; exact ⟨by first | rfl | decide, h⟩)
   ·exact (impl_low.s5 5 (⟨#[108]⟩ : ByteArray) (⟨#[100, 101, 99]⟩ : ByteArray) rfl (by decide) (by decide) rfl (by decide) w hG).mono (by rintro e w' ⟨rfl, h⟩; exact ⟨by first | rfl | decide, h⟩)
   ·exact (impl_low.s5 6 (⟨#[91, 104, 108, 93]⟩ : ByteArray) (⟨#[100, 101, 99]⟩ : ByteArray) rfl (by decide) (by decide) rfl (by decide) w hG).mono (by rintro e w' ⟨rfl, h⟩; exact ⟨by first | rfl | decide, h⟩)
   ·exact (impl_low.s5 7 (⟨#[97]⟩ : ByteArray) (⟨#[100, 101, 99]⟩ : ByteArray) rfl (by decide) (by decide) rfl (by decide) w hG).mono (by rintro e w' ⟨rfl, h⟩; exact ⟨by first | rfl | decide, h⟩)
  ·rcases hy with rfl | rfl | rfl | rfl | rfl | rfl | rfl | rfl
   ·exact (impl_low.s6 0 (⟨#[98]⟩ : ByteArray) rfl (by decide) (by decide) w hG).mono (by rintro e w' ⟨rfl, h⟩; exact ⟨by first | rfl | decide, h⟩)
   ·exact (impl_low.s6 1 (⟨#[99]⟩ : ByteArray) rfl (by decide) (by decide) w hG).mono (by rintro e w' ⟨rfl, h⟩; exact ⟨by first | rfl | decide, h⟩)
   ·exact (impl_low.s6 2 (⟨#[100]⟩ : ByteArray) rfl (by decide) (by decide) w hG).mono (by rintro e w' ⟨rfl, h⟩; exact ⟨by first | rfl | decide, h⟩)
   ·exact (impl_low.s6 3 (⟨#[101]⟩ : ByteArray) rfl (by decide) (by decide) w hG).mono (by rintro e w' ⟨rfl, h⟩; exact ⟨by first | rfl | decide, h⟩)
   ·exact (impl_low.s6 4 (⟨#[104]⟩ : ByteArray) rfl (by decide) (by decide) w hG).mono (by rintro e w' ⟨rfl, h⟩; exact ⟨by first | rfl | decide, h⟩)
   ·exact (impl_low.s6 5 (⟨#[108]⟩ : ByteArray) rfl (by decide) (by decide) w hG).mono (by rintro e w' ⟨rfl, h⟩; exact ⟨by first | rfl | decide, h⟩)
   ·exact (impl_low.s6 6 (⟨#[91, 104, 108, 93]⟩ : ByteArray) rfl (by decide) (by decide) w hG).mono (by rintro e w' ⟨rfl, h⟩; exact ⟨by first | rfl | decide, h⟩)
   ·exact (impl_low.s6 7 (⟨#[97]⟩ : ByteArray) rfl (by decide) (by decide) w hG).mono (by rintro e w' ⟨rfl, h⟩; exact ⟨by first | rfl | decide, h⟩)
  ·rcases hy with rfl | rfl | rfl | rfl | rfl | rfl | rfl | rfl
   ·exact (impl_low.s7 0 (⟨#[114, 108, 99, 97]⟩ : ByteArray) rfl (by decide) (by decide) w hG).mono (by rintro e w' ⟨rfl, h⟩; exact ⟨by first | rfl | decide, h⟩)
   ·exact (impl_low.s7 1 (⟨#[114, 114, 99, 97]⟩ : ByteArray) rfl (by decide) (by decide) w hG).mono (by rintro e w' ⟨rfl, h⟩; exact ⟨by first | rfl | decide, h⟩)
   ·exact (impl_low.s7 2 (⟨#[114, 108, 97]⟩ : ByteArray) rfl (by decide) (by decide) w hG).mono (by rintro e w' ⟨rfl, h⟩; exact ⟨by first | rfl | decide, h⟩)
   ·exact (impl_low.s7 3 (⟨#[114, 114, 97]⟩ : ByteArray) rfl (by decide) (by decide) w hG).mono (by rintro e w' ⟨rfl, h⟩; exact ⟨by first | rfl | decide, h⟩)
   ·exact (impl_low.s7 4 (⟨#[100, 97, 97]⟩ : ByteArray) rfl (by decide) (by decide) w hG).mono (by rintro e w' ⟨rfl, h⟩; exact ⟨by first | rfl | decide, h⟩)
   ·exact (impl_low.s7 5 (⟨#[99, 112, 108]⟩ : ByteArray) rfl (by decide) (by decide) w hG).mono (by rintro e w' ⟨rfl, h⟩; exact ⟨by first | rfl | decide, h⟩)
   ·exact (impl_low.s7 6 (⟨#[115, 99, 102]⟩ : ByteArray) rfl (by decide) (by decide) w hG).mono (by rintro e w' ⟨rfl, h⟩; exact ⟨by first | rfl | decide, h⟩)
   ·exact (impl_low.s7 7 (⟨#[99, 99, 102]⟩ : ByteArray) rfl (by decide) (by decide) w hG).mono (by rintro e w' ⟨rfl, h⟩; exact ⟨by first | rfl | decide, h⟩)
 ·rw [if_neg hr] at h
  cases h

/-! ### strings_Split: function 59 -/
def strings_Split.f (a0 a1 : ByteArray) : Option (List ByteArray) := if a0.size < 4294967281 then (if 1 ≤ a1.size then some (Go.Lib.splitB a1 0 (Go.Lib.countB a0 a1) a0) else none) else none
open Go.Proofs.YtmiebnpmckjidaaGreatDoor.Aid in
theorem strings_Split.calls (a0 a1 : ByteArray) (r : List ByteArray) (w : World) (hG : GW w) (h : strings_Split.f a0 a1 = some r) :
 Calls Tryz.prog 59 #[.string a0, .string a1] w fun e w' => ∃ v0_ : Value, e = .returned (v0_) ∧ Kd.R Kd.string 9 w' w.heap.size (fun _ => True) v0_ r ∧ Below w.heap.size w w' := by
 unfold strings_Split.f at h
 by_cases h0 : a0.size < 4294967281
 ·by_cases h1 : 1 ≤ a1.size
  ·rw [if_pos h0, if_pos h1] at h
   obtain rfl := Option.some.inj h
   obtain ⟨m, hm⟩ := hG.maxlen
   refine (Tryz.strings_Split a0 a1 m w h0 hm h1).mono ?_
   rintro e w' ⟨rfl, rfl⟩
   have hlen := Go.Lib.splitB_all a1 h1 0 _ a0 rfl
   have hle := Go.Lib.countB_le a1 h1 a0.size a0 (Nat.le_refl _)
   refine ⟨_, rfl, ?_, below_alloc (Below.refl _ _) _⟩
   have := R_of_cells (e := 9) (base := w.heap.size) (g := w.heap.size) (cap := Go.Lib.countB a0 a1 + 1) (W := w.alloc (.cells ((Go.Lib.splitB a1 0 (Go.Lib.countB a0 a1) a0).map Value.string).toArray 9)) (ok := fun _ => True) (cur := ((Go.Lib.splitB a1 0 (Go.Lib.countB a0 a1) a0).map Value.string).toArray) (Go.Lib.splitB a1 0 (Go.Lib.countB a0 a1) a0) (Nat.le_refl _) trivial (by show (w.heap.push _)[w.heap.size]? = _; rw [Array.getElem?_push_size]) (by omega) (by unfold maxLen; omega) (by simp [hlen]) (by rw [List.take_of_length_le (by simp)])
   rw [hlen] at this
   exact this
  ·rw [if_pos h0, if_neg h1] at h
   cases h
 ·rw [if_neg h0] at h
  cases h

/-! ### impl_names: function 38 -/
def impl_names.f (a0 : ByteArray) : Option (List ByteArray) := (strings_Split.f a0 (⟨#[32]⟩ : ByteArray)).bind fun t176 => (some t176)
set_option maxHeartbeats 8000000 in
set_option maxRecDepth 100000 in
theorem impl_names.calls (a0 : ByteArray) (r : List ByteArray) (w : World) (hG : GW w) (h : impl_names.f a0 = some r) :
 Calls Tryz.prog 38 #[.string a0] w fun e w' => ∃ v0_ : Value, e = .returned (v0_) ∧ Kd.R Kd.string 9 w' w.heap.size (fun _ => True) v0_ r ∧ Below w.heap.size w w' := by
 have HB := Aside0.mk (Below.refl w.heap.size w)
 have HG := Aside0.mk hG
 clear hG
 have H : ((strings_Split.f a0 (⟨#[32]⟩ : ByteArray)).bind fun t176 => (some t176)) = some r := h
 clear h
 obtain ⟨t176, A20, H⟩ := Option.bind_eq_some_iff.mp H
 have A2 := Aside0.mk A20
 clear A20
 obtain rfl := Option.some.inj H
 go_enter Tryz.func38, Tryz.ntmps38
 go_wp2_with (first | ((with_reducible refine gate_callee (f := 59) rfl ?_); refine zc (some 4) Tryz.func59 #[.string a0, .string (⟨#[32]⟩ : ByteArray)] ?_; (with_reducible refine (strings_Split.calls a0 (⟨#[32]⟩ : ByteArray) t176 _ ?side1 A2.out).mono ?_); (case side1 => exact GW.below HG.out (zb _)); rintro e w3 ⟨v177, rfl, ho0, hb⟩; refine ⟨_, rfl, ?_⟩; have HO178 := Aside0.mk (Kd.R_lower ho0 (below_size (zb _))); replace HB := zt w hb; (try clear hb); (try clear hb2); (try clear hk); (try clear hi); (try clear ho0)))
 first | go_ret | ((try simp only [Exit.inBlock, Exit.then]); apply bodyPost_ret; (exact results_tmp rfl _ _ _); rfl)
 exact ⟨_, by first | rfl | (simp [errW_none, errW_some] <;> rfl) | (simp [*, errW_none, errW_some] <;> rfl), by (with_reducible repeat (first | apply Kd.R_alloc | apply Kd.R_drewN | apply Kd.R_drew)); exact HO178.out, zb _⟩

end Go.Proofs.YtmiebnpmckjidaaGreatDoor.PFnExactReadInsText
