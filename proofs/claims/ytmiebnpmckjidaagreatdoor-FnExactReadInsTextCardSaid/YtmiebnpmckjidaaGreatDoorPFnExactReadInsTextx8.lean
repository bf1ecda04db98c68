/- What the Go functions that the law FnExactReadInsText reaches compute, function by function, and that Go comes to just that. -/
import Derived.Test.YtmiebnpmckjidaaGreatDoorPFnExactReadInsTextx0
import Derived.Test.YtmiebnpmckjidaaGreatDoorAidZ
import Derived.Test.YtmiebnpmckjidaaGreatDoorPFnExactReadInsTextx6
import Derived.Test.YtmiebnpmckjidaaGreatDoorPFnExactReadInsTextx7
namespace Go.Proofs.YtmiebnpmckjidaaGreatDoor.PFnExactReadInsText
open Go.RowKit Go.Proofs.YtmiebnpmckjidaaGreatDoor.Z Go.Proofs.YtmiebnpmckjidaaGreatDoorW.PrintWords Go.Proofs.YtmiebnpmckjidaaGreatDoorW.PrintLast Go.Proofs.YtmiebnpmckjidaaGreatDoorW.PrintMore
attribute [local go_sem] max2_int min2_int max_two min_two max_three min_three max_four min_four   -- for this text's walks alone
set_option linter.unusedVariables false
set_option linter.unusedSimpArgs false

/-! ### impl_high: function 35 -/
open Go.Proofs.YtmiebnpmckjidaaGreatDoor.Aid
set_option maxRecDepth 100000 in
set_option maxHeartbeats 8000000 in
theorem impl_high.namesC (s : ByteArray) (arr : Array Value) (k : Nat) (hk : Go.Lib.countB s ⟨#[32]⟩ + 1 = k) (harr : ((Go.Lib.splitB ⟨#[32]⟩ 0 (Go.Lib.countB s ⟨#[32]⟩) s).map Value.string).toArray = arr) (hs : s.size < 4294967281) (w : World) (hG : GW w) :
    Calls Tryz.prog 38 #[.string s] w fun e w' => e = .returned (.slice (some ⟨w.heap.size, 0, none⟩) k k) ∧ w' = w.alloc (.cells arr 9) := by
  obtain ⟨m, hm⟩ := hG.maxlen
  have hc := Tryz.strings_Split s ⟨#[32]⟩ m w hs hm (by decide)
  rw [hk, harr] at hc
  clear hk harr
  go_enter Tryz.func38, Tryz.ntmps38
  go_wp2_with (go_at_call 59; refine hc.mono ?_; rintro e w' ⟨rfl, rfl⟩)
  (first | go_ret | (apply bodyPost_ret; (exact results_tmp rfl _ _ _); rfl))
  exact ⟨rfl, rfl⟩
def impl_high.alusArr : Array Value := #[.string (⟨#[97, 100, 100]⟩ : ByteArray), .string (⟨#[97, 100, 99]⟩ : ByteArray), .string (⟨#[115, 117, 98]⟩ : ByteArray), .string (⟨#[115, 98, 99]⟩ : ByteArray), .string (⟨#[97, 110, 100]⟩ : ByteArray), .string (⟨#[120, 111, 114]⟩ : ByteArray), .string (⟨#[111, 114]⟩ : ByteArray), .string (⟨#[99, 112]⟩ : ByteArray)]
theorem impl_high.alusC (w : World) (hG : GW w) : Calls Tryz.prog 36 #[] w fun e w' => e = .returned (.slice (some ⟨w.heap.size, 0, none⟩) 8 8) ∧ w' = w.alloc (.cells impl_high.alusArr 9) := by
  have hc := impl_high.namesC (⟨#[97, 100, 100, 32, 97, 100, 99, 32, 115, 117, 98, 32, 115, 98, 99, 32, 97, 110, 100, 32, 120, 111, 114, 32, 111, 114, 32, 99, 112]⟩ : ByteArray) impl_high.alusArr 8 (by kernel_rfl) (by kernel_rfl) (by decide) w hG
  go_enter Tryz.func36, Tryz.ntmps36
  go_wp2_with (go_at_call 38; refine hc.mono ?_; rintro e w' ⟨rfl, rfl⟩)
  (first | go_ret | (apply bodyPost_ret; (exact results_tmp rfl _ _ _); rfl))
  exact ⟨rfl, rfl⟩
def impl_high.condsArr : Array Value := #[.string (⟨#[110, 122]⟩ : ByteArray), .string (⟨#[122]⟩ : ByteArray), .string (⟨#[110, 99]⟩ : ByteArray), .string (⟨#[99]⟩ : ByteArray)]
theorem impl_high.condsC (w : World) (hG : GW w) : Calls Tryz.prog 56 #[] w fun e w' => e = .returned (.slice (some ⟨w.heap.size, 0, none⟩) 4 4) ∧ w' = w.alloc (.cells impl_high.condsArr 9) := by
  have hc := impl_high.namesC (⟨#[110, 122, 32, 122, 32, 110, 99, 32, 99]⟩ : ByteArray) impl_high.condsArr 4 (by kernel_rfl) (by kernel_rfl) (by decide) w hG
  go_enter Tryz.func56, Tryz.ntmps56
  go_wp2_with (go_at_call 38; refine hc.mono ?_; rintro e w' ⟨rfl, rfl⟩)
  (first | go_ret | (apply bodyPost_ret; (exact results_tmp rfl _ _ _); rfl))
  exact ⟨rfl, rfl⟩
def impl_high.stackArr : Array Value := #[.string (⟨#[98, 99]⟩ : ByteArray), .string (⟨#[100, 101]⟩ : ByteArray), .string (⟨#[104, 108]⟩ : ByteArray), .string (⟨#[97, 102]⟩ : ByteArray)]
theorem impl_high.stackC (w : World) (hG : GW w) : Calls Tryz.prog 38 #[.string (⟨#[98, 99, 32, 100, 101, 32, 104, 108, 32, 97, 102]⟩ : ByteArray)] w fun e w' => e = .returned (.slice (some ⟨w.heap.size, 0, none⟩) 4 4) ∧ w' = w.alloc (.cells impl_high.stackArr 9) :=
  impl_high.namesC _ _ _ (by kernel_rfl) (by kernel_rfl) (by decide) w hG
set_option maxRecDepth 100000 in
set_option maxHeartbeats 8000000 in
theorem impl_high.s0 (y : Nat) (s u : ByteArray) (h4 : (y : Int) < 4) (hu : impl_high.stackArr[y / 2]? = some (.string u)) (lu : (y : Int) / 2 < 4) (zu : u.size ≤ 100) (hs : impl_high.condsArr[y]? = some (.string s)) (ls : (y : Int) < 4) (zs : s.size ≤ 100) (w : World) (hG : GW w) : Calls Tryz.prog 35 #[.int .i64 (y : Int), .int .i64 0] w fun e w' => e = .returned (.string ((⟨#[114, 101, 116, 32]⟩ : ByteArray) ++ s)) ∧ Below w.heap.size w w' := by
  have HG := Aside0.mk hG
  clear hG
  go_enter Tryz.func35, Tryz.ntmps35
  go_wp2_with (first | (go_at_call 56; refine (impl_high.condsC _ ?hg).mono ?_; (case hg => repeat (first | exact HG.out | apply GW.alloc | apply GW.drewN | apply GW.drew)); rintro e w' ⟨rfl, rfl⟩) | (go_at_call 38; refine (impl_high.stackC _ ?hg).mono ?_; (case hg => repeat (first | exact HG.out | apply GW.alloc | apply GW.drewN | apply GW.drew)); rintro e w' ⟨rfl, rfl⟩))
  (first | go_ret | (apply bodyPost_ret; (exact results_tmp rfl _ _ _); rfl))
  exact ⟨by first | rfl | decide, by repeat (first | exact Below.refl _ _ | apply below_alloc | apply pw_below_drewN | apply below_drew)⟩
set_option maxRecDepth 100000 in
set_option maxHeartbeats 8000000 in
theorem impl_high.w4_0 (w : World) (hG : GW w) : Calls Tryz.prog 35 #[.int .i64 4, .int .i64 0] w fun e w' => e = .returned (.string (⟨#[108, 100, 104, 32, 91, 110, 56, 93, 44, 97]⟩ : ByteArray)) ∧ Below w.heap.size w w' := by
  have HG := Aside0.mk hG
  clear hG
  have hst : impl_high.stackArr[2]? = some (.string (⟨#[104, 108]⟩ : ByteArray)) := rfl
  go_enter Tryz.func35, Tryz.ntmps35
  go_wp2_with (go_at_call 38; refine (impl_high.stackC _ ?hg).mono ?_; (case hg => repeat (first | exact HG.out | apply GW.alloc | apply GW.drewN | apply GW.drew)); rintro e w' ⟨rfl, rfl⟩)
  (first | go_ret | (apply bodyPost_ret; (exact results_tmp rfl _ _ _); rfl))
  exact ⟨by first | rfl | decide, by repeat (first | exact Below.refl _ _ | apply below_alloc | apply pw_below_drewN | apply below_drew)⟩
set_option maxRecDepth 100000 in
set_option maxHeartbeats 8000000 in
theorem impl_high.w5_0 (w : World) (hG : GW w) : Calls Tryz.prog 35 #[.int .i64 5, .int .i64 0] w fun e w' => e = .returned (.string (⟨#[97, 100, 100, 32, 115, 112, 44, 101, 56]⟩ : ByteArray)) ∧ Below w.heap.size w w' := by
  have HG := Aside0.mk hG
  clear hG
  have hst : impl_high.stackArr[2]? = some (.string (⟨#[104, 108]⟩ : ByteArray)) := rfl
  go_enter Tryz.func35, Tryz.ntmps35
  go_wp2_with (go_at_call 38; refine (impl_high.stackC _ ?hg).mono ?_; (case hg => repeat (first | exact HG.out | apply GW.alloc | apply GW.drewN | apply GW.drew)); rintro e w' ⟨rfl, rfl⟩)
  (first | go_ret | (apply bodyPost_ret; (exact results_tmp rfl _ _ _); rfl))
  exact ⟨by first | rfl | decide, by repeat (first | exact Below.refl _ _ | apply below_alloc | apply pw_below_drewN | apply below_drew)⟩
set_option maxRecDepth 100000 in
set_option maxHeartbeats 8000000 in
theorem impl_high.w6_0 (w : World) (hG : GW w) : Calls Tryz.prog 35 #[.int .i64 6, .int .i64 0] w fun e w' => e = .returned (.string (⟨#[108, 100, 104, 32, 97, 44, 91, 110, 56, 93]⟩ : ByteArray)) ∧ Below w.heap.size w w' := by
  have HG := Aside0.mk hG
  clear hG
  have hst : impl_high.stackArr[3]? = some (.string (⟨#[97, 102]⟩ : ByteArray)) := rfl
  go_enter Tryz.func35, Tryz.ntmps35
  go_wp2_with (go_at_call 38; refine (impl_high.stackC _ ?hg).mono ?_; (case hg => repeat (first | exact HG.out | apply GW.alloc | apply GW.drewN | apply GW.drew)); rintro e w' ⟨rfl, rfl⟩)
  (first | go_ret | (apply bodyPost_ret; (exact results_tmp rfl _ _ _); rfl))
  exact ⟨by first | rfl | decide, by repeat (first | exact Below.refl _ _ | apply below_alloc | apply pw_below_drewN | apply below_drew)⟩
set_option maxRecDepth 100000 in
set_option maxHeartbeats 8000000 in
theorem impl_high.w7_0 (w : World) (hG : GW w) : Calls Tryz.prog 35 #[.int .i64 7, .int .i64 0] w fun e w' => e = .returned (.string (⟨#[108, 100, 32, 104, 108, 44, 115, 112, 43, 101, 56]⟩ : ByteArray)) ∧ Below w.heap.size w w' := by
  have HG := Aside0.mk hG
  clear hG
  have hst : impl_high.stackArr[3]? = some (.string (⟨#[97, 102]⟩ : ByteArray)) := rfl
  go_enter Tryz.func35, Tryz.ntmps35
  go_wp2_with (go_at_call 38; refine (impl_high.stackC _ ?hg).mono ?_; (case hg => repeat (first | exact HG.out | apply GW.alloc | apply GW.drewN | apply GW.drew)); rintro e w' ⟨rfl, rfl⟩)
  (first | go_ret | (apply bodyPost_ret; (exact results_tmp rfl _ _ _); rfl))
  exact ⟨by first | rfl | decide, by repeat (first | exact Below.refl _ _ | apply below_alloc | apply pw_below_drewN | apply below_drew)⟩
set_option maxRecDepth 100000 in
set_option maxHeartbeats 8000000 in
theorem impl_high.s2 (y : Nat) (s u : ByteArray) (h4 : (y : Int) < 4) (hu : impl_high.stackArr[y / 2]? = some (.string u)) (lu : (y : Int) / 2 < 4) (zu : u.size ≤ 100) (hs : impl_high.condsArr[y]? = some (.string s)) (ls : (y : Int) < 4) (zs : s.size ≤ 100) (w : World) (hG : GW w) : Calls Tryz.prog 35 #[.int .i64 (y : Int), .int .i64 2] w fun e w' => e = .returned (.string (((⟨#[106, 112, 32]⟩ : ByteArray) ++ s) ++ (⟨#[44, 110, 49, 54]⟩ : ByteArray))) ∧ Below w.heap.size w w' := by
  have HG := Aside0.mk hG
  clear hG
  go_enter Tryz.func35, Tryz.ntmps35
  go_wp2_with (first | (go_at_call 56; refine (impl_high.condsC _ ?hg).mono ?_; (case hg => repeat (first | exact HG.out | apply GW.alloc | apply GW.drewN | apply GW.drew)); rintro e w' ⟨rfl, rfl⟩) | (go_at_call 38; refine (impl_high.stackC _ ?hg).mono ?_; (case hg => repeat (first | exact HG.out | apply GW.alloc | apply GW.drewN | apply GW.drew)); rintro e w' ⟨rfl, rfl⟩))
  (first | go_ret | (apply bodyPost_ret; (exact results_tmp rfl _ _ _); rfl))
  exact ⟨by first | rfl | decide, by repeat (first | exact Below.refl _ _ | apply below_alloc | apply pw_below_drewN | apply below_drew)⟩
set_option maxRecDepth 100000 in
set_option maxHeartbeats 8000000 in
theorem impl_high.w4_2 (w : World) (hG : GW w) : Calls Tryz.prog 35 #[.int .i64 4, .int .i64 2] w fun e w' => e = .returned (.string (⟨#[108, 100, 104, 32, 91, 99, 93, 44, 97]⟩ : ByteArray)) ∧ Below w.heap.size w w' := by
  have HG := Aside0.mk hG
  clear hG
  have hst : impl_high.stackArr[2]? = some (.string (⟨#[104, 108]⟩ : ByteArray)) := rfl
  go_enter Tryz.func35, Tryz.ntmps35
  go_wp2_with (go_at_call 38; refine (impl_high.stackC _ ?hg).mono ?_; (case hg => repeat (first | exact HG.out | apply GW.alloc | apply GW.drewN | apply GW.drew)); rintro e w' ⟨rfl, rfl⟩)
  (first | go_ret | (apply bodyPost_ret; (exact results_tmp rfl _ _ _); rfl))
  exact ⟨by first | rfl | decide, by repeat (first | exact Below.refl _ _ | apply below_alloc | apply pw_below_drewN | apply below_drew)⟩
set_option maxRecDepth 100000 in
set_option maxHeartbeats 8000000 in
theorem impl_high.w5_2 (w : World) (hG : GW w) : Calls Tryz.prog 35 #[.int .i64 5, .int .i64 2] w fun e w' => e = .returned (.string (⟨#[108, 100, 32, 91, 110, 49, 54, 93, 44, 97]⟩ : ByteArray)) ∧ Below w.heap.size w w' := by
  have HG := Aside0.mk hG
  clear hG
  have hst : impl_high.stackArr[2]? = some (.string (⟨#[104, 108]⟩ : ByteArray)) := rfl
  go_enter Tryz.func35, Tryz.ntmps35
  go_wp2_with (go_at_call 38; refine (impl_high.stackC _ ?hg).mono ?_; (case hg => repeat (first | exact HG.out | apply GW.alloc | apply GW.drewN | apply GW.drew)); rintro e w' ⟨rfl, rfl⟩)
  (first | go_ret | (apply bodyPost_ret; (exact results_tmp rfl _ _ _); rfl))
  exact ⟨by first | rfl | decide, by repeat (first | exact Below.refl _ _ | apply below_alloc | apply pw_below_drewN | apply below_drew)⟩
set_option maxRecDepth 100000 in
set_option maxHeartbeats 8000000 in
theorem impl_high.w6_2 (w : World) (hG : GW w) : Calls Tryz.prog 35 #[.int .i64 6, .int .i64 2] w fun e w' => e = .returned (.string (⟨#[108, 100, 104, 32, 97, 44, 91, 99, 93]⟩ : ByteArray)) ∧ Below w.heap.size w w' := by
  have HG := Aside0.mk hG
  clear hG
  have hst : impl_high.stackArr[3]? = some (.string (⟨#[97, 102]⟩ : ByteArray)) := rfl
  go_enter Tryz.func35, Tryz.ntmps35
  go_wp2_with (go_at_call 38; refine (impl_high.stackC _ ?hg).mono ?_; (case hg => repeat (first | exact HG.out | apply GW.alloc | apply GW.drewN | apply GW.drew)); rintro e w' ⟨rfl, rfl⟩)
  (first | go_ret | (apply bodyPost_ret; (exact results_tmp rfl _ _ _); rfl))
  exact ⟨by first | rfl | decide, by repeat (first | exact Below.refl _ _ | apply below_alloc | apply pw_below_drewN | apply below_drew)⟩
set_option maxRecDepth 100000 in
set_option maxHeartbeats 8000000 in
theorem impl_high.w7_2 (w : World) (hG : GW w) : Calls Tryz.prog 35 #[.int .i64 7, .int .i64 2] w fun e w' => e = .returned (.string (⟨#[108, 100, 32, 97, 44, 91, 110, 49, 54, 93]⟩ : ByteArray)) ∧ Below w.heap.size w w' := by
  have HG := Aside0.mk hG
  clear hG
  have hst : impl_high.stackArr[3]? = some (.string (⟨#[97, 102]⟩ : ByteArray)) := rfl
  go_enter Tryz.func35, Tryz.ntmps35
  go_wp2_with (go_at_call 38; refine (impl_high.stackC _ ?hg).mono ?_; (case hg => repeat (first | exact HG.out | apply GW.alloc | apply GW.drewN | apply GW.drew)); rintro e w' ⟨rfl, rfl⟩)
  (first | go_ret | (apply bodyPost_ret; (exact results_tmp rfl _ _ _); rfl))
  exact ⟨by first | rfl | decide, by repeat (first | exact Below.refl _ _ | apply below_alloc | apply pw_below_drewN | apply below_drew)⟩
set_option maxRecDepth 100000 in
set_option maxHeartbeats 8000000 in
theorem impl_high.s4 (y : Nat) (s u : ByteArray) (h4 : (y : Int) < 4) (hu : impl_high.stackArr[y / 2]? = some (.string u)) (lu : (y : Int) / 2 < 4) (zu : u.size ≤ 100) (hs : impl_high.condsArr[y]? = some (.string s)) (ls : (y : Int) < 4) (zs : s.size ≤ 100) (w : World) (hG : GW w) : Calls Tryz.prog 35 #[.int .i64 (y : Int), .int .i64 4] w fun e w' => e = .returned (.string (((⟨#[99, 97, 108, 108, 32]⟩ : ByteArray) ++ s) ++ (⟨#[44, 110, 49, 54]⟩ : ByteArray))) ∧ Below w.heap.size w w' := by
  have HG := Aside0.mk hG
  clear hG
  go_enter Tryz.func35, Tryz.ntmps35
  go_wp2_with (first | (go_at_call 56; refine (impl_high.condsC _ ?hg).mono ?_; (case hg => repeat (first | exact HG.out | apply GW.alloc | apply GW.drewN | apply GW.drew)); rintro e w' ⟨rfl, rfl⟩) | (go_at_call 38; refine (impl_high.stackC _ ?hg).mono ?_; (case hg => repeat (first | exact HG.out | apply GW.alloc | apply GW.drewN | apply GW.drew)); rintro e w' ⟨rfl, rfl⟩))
  (first | go_ret | (apply bodyPost_ret; (exact results_tmp rfl _ _ _); rfl))
  exact ⟨by first | rfl | decide, by repeat (first | exact Below.refl _ _ | apply below_alloc | apply pw_below_drewN | apply below_drew)⟩
set_option maxRecDepth 100000 in
set_option maxHeartbeats 8000000 in
theorem impl_high.w4_4 (w : World) (hG : GW w) : Calls Tryz.prog 35 #[.int .i64 4, .int .i64 4] w fun e w' => e = .returned (.string (⟨#[]⟩ : ByteArray)) ∧ Below w.heap.size w w' := by
  have HG := Aside0.mk hG
  clear hG
  have hst : impl_high.stackArr[2]? = some (.string (⟨#[104, 108]⟩ : ByteArray)) := rfl
  go_enter Tryz.func35, Tryz.ntmps35
  go_wp2_with (go_at_call 38; refine (impl_high.stackC _ ?hg).mono ?_; (case hg => repeat (first | exact HG.out | apply GW.alloc | apply GW.drewN | apply GW.drew)); rintro e w' ⟨rfl, rfl⟩)
  (first | go_ret | (apply bodyPost_ret; (exact results_tmp rfl _ _ _); rfl))
  exact ⟨by first | rfl | decide, by repeat (first | exact Below.refl _ _ | apply below_alloc | apply pw_below_drewN | apply below_drew)⟩
set_option maxRecDepth 100000 in
set_option maxHeartbeats 8000000 in
theorem impl_high.w5_4 (w : World) (hG : GW w) : Calls Tryz.prog 35 #[.int .i64 5, .int .i64 4] w fun e w' => e = .returned (.string (⟨#[]⟩ : ByteArray)) ∧ Below w.heap.size w w' := by
  have HG := Aside0.mk hG
  clear hG
  have hst : impl_high.stackArr[2]? = some (.string (⟨#[104, 108]⟩ : ByteArray)) := rfl
  go_enter Tryz.func35, Tryz.ntmps35
  go_wp2_with (go_at_call 38; refine (impl_high.stackC _ ?hg).mono ?_; (case hg => repeat (first | exact HG.out | apply GW.alloc | apply GW.drewN | apply GW.drew)); rintro e w' ⟨rfl, rfl⟩)
  (first | go_ret | (apply bodyPost_ret; (exact results_tmp rfl _ _ _); rfl))
  exact ⟨by first | rfl | decide, by repeat (first | exact Below.refl _ _ | apply below_alloc | apply pw_below_drewN | apply below_drew)⟩
set_option maxRecDepth 100000 in
set_option maxHeartbeats 8000000 in
theorem impl_high.w6_4 (w : World) (hG : GW w) : Calls Tryz.prog 35 #[.int .i64 6, .int .i64 4] w fun e w' => e = .returned (.string (⟨#[]⟩ : ByteArray)) ∧ Below w.heap.size w w' := by
  have HG := Aside0.mk hG
  clear hG
  have hst : impl_high.stackArr[3]? = some (.string (⟨#[97, 102]⟩ : ByteArray)) := rfl
  go_enter Tryz.func35, Tryz.ntmps35
  go_wp2_with (go_at_call 38; refine (impl_high.stackC _ ?hg).mono ?_; (case hg => repeat (first | exact HG.out | apply GW.alloc | apply GW.drewN | apply GW.drew)); rintro e w' ⟨rfl, rfl⟩)
  (first | go_ret | (apply bodyPost_ret; (exact results_tmp rfl _ _ _); rfl))
  exact ⟨by first | rfl | decide, by repeat (first | exact Below.refl _ _ | apply below_alloc | apply pw_below_drewN | apply below_drew)⟩
set_option maxRecDepth 100000 in
set_option maxHeartbeats 8000000 in
theorem impl_high.w7_4 (w : World) (hG : GW w) : Calls Tryz.prog 35 #[.int .i64 7, .int .i64 4] w fun e w' => e = .returned (.string (⟨#[]⟩ : ByteArray)) ∧ Below w.heap.size w w' := by
  have HG := Aside0.mk hG
  clear hG
  have hst : impl_high.stackArr[3]? = some (.string (⟨#[97, 102]⟩ : ByteArray)) := rfl
  go_enter Tryz.func35, Tryz.ntmps35
  go_wp2_with (go_at_call 38; refine (impl_high.stackC _ ?hg).mono ?_; (case hg => repeat (first | exact HG.out | apply GW.alloc | apply GW.drewN | apply GW.drew)); rintro e w' ⟨rfl, rfl⟩)
  (first | go_ret | (apply bodyPost_ret; (exact results_tmp rfl _ _ _); rfl))
  exact ⟨by first | rfl | decide, by repeat (first | exact Below.refl _ _ | apply below_alloc | apply pw_below_drewN | apply below_drew)⟩
set_option maxRecDepth 100000 in
set_option maxHeartbeats 8000000 in
theorem impl_high.w0_1 (w : World) (hG : GW w) : Calls Tryz.prog 35 #[.int .i64 0, .int .i64 1] w fun e w' => e = .returned (.string (⟨#[112, 111, 112, 32, 98, 99]⟩ : ByteArray)) ∧ Below w.heap.size w w' := by
  have HG := Aside0.mk hG
  clear hG
  have hst : impl_high.stackArr[0]? = some (.string (⟨#[98, 99]⟩ : ByteArray)) := rfl
  go_enter Tryz.func35, Tryz.ntmps35
  go_wp2_with (go_at_call 38; refine (impl_high.stackC _ ?hg).mono ?_; (case hg => repeat (first | exact HG.out | apply GW.alloc | apply GW.drewN | apply GW.drew)); rintro e w' ⟨rfl, rfl⟩)
  (first | go_ret | (apply bodyPost_ret; (exact results_tmp rfl _ _ _); rfl))
  exact ⟨by first | rfl | decide, by repeat (first | exact Below.refl _ _ | apply below_alloc | apply pw_below_drewN | apply below_drew)⟩
set_option maxRecDepth 100000 in
set_option maxHeartbeats 8000000 in
theorem impl_high.w1_1 (w : World) (hG : GW w) : Calls Tryz.prog 35 #[.int .i64 1, .int .i64 1] w fun e w' => e = .returned (.string (⟨#[114, 101, 116]⟩ : ByteArray)) ∧ Below w.heap.size w w' := by
  have HG := Aside0.mk hG
  clear hG
  have hst : impl_high.stackArr[0]? = some (.string (⟨#[98, 99]⟩ : ByteArray)) := rfl
  go_enter Tryz.func35, Tryz.ntmps35
  go_wp2_with (go_at_call 38; refine (impl_high.stackC _ ?hg).mono ?_; (case hg => repeat (first | exact HG.out | apply GW.alloc | apply GW.drewN | apply GW.drew)); rintro e w' ⟨rfl, rfl⟩)
  (first | go_ret | (apply bodyPost_ret; (exact results_tmp rfl _ _ _); rfl))
  exact ⟨by first | rfl | decide, by repeat (first | exact Below.refl _ _ | apply below_alloc | apply pw_below_drewN | apply below_drew)⟩
set_option maxRecDepth 100000 in
set_option maxHeartbeats 8000000 in
theorem impl_high.w2_1 (w : World) (hG : GW w) : Calls Tryz.prog 35 #[.int .i64 2, .int .i64 1] w fun e w' => e = .returned (.string (⟨#[112, 111, 112, 32, 100, 101]⟩ : ByteArray)) ∧ Below w.heap.size w w' := by
  have HG := Aside0.mk hG
  clear hG
  have hst : impl_high.stackArr[1]? = some (.string (⟨#[100, 101]⟩ : ByteArray)) := rfl
  go_enter Tryz.func35, Tryz.ntmps35
  go_wp2_with (go_at_call 38; refine (impl_high.stackC _ ?hg).mono ?_; (case hg => repeat (first | exact HG.out | apply GW.alloc | apply GW.drewN | apply GW.drew)); rintro e w' ⟨rfl, rfl⟩)
  (first | go_ret | (apply bodyPost_ret; (exact results_tmp rfl _ _ _); rfl))
  exact ⟨by first | rfl | decide, by repeat (first | exact Below.refl _ _ | apply below_alloc | apply pw_below_drewN | apply below_drew)⟩
set_option maxRecDepth 100000 in
set_option maxHeartbeats 8000000 in
theorem impl_high.w3_1 (w : World) (hG : GW w) : Calls Tryz.prog 35 #[.int .i64 3, .int .i64 1] w fun e w' => e = .returned (.string (⟨#[114, 101, 116, 105]⟩ : ByteArray)) ∧ Below w.heap.size w w' := by
  have HG := Aside0.mk hG
  clear hG
  have hst : impl_high.stackArr[1]? = some (.string (⟨#[100, 101]⟩ : ByteArray)) := rfl
  go_enter Tryz.func35, Tryz.ntmps35
  go_wp2_with (go_at_call 38; refine (impl_high.stackC _ ?hg).mono ?_; (case hg => repeat (first | exact HG.out | apply GW.alloc | apply GW.drewN | apply GW.drew)); rintro e w' ⟨rfl, rfl⟩)
  (first | go_ret | (apply bodyPost_ret; (exact results_tmp rfl _ _ _); rfl))
  exact ⟨by first | rfl | decide, by repeat (first | exact Below.refl _ _ | apply below_alloc | apply pw_below_drewN | apply below_drew)⟩
set_option maxRecDepth 100000 in
set_option maxHeartbeats 8000000 in
theorem impl_high.w4_1 (w : World) (hG : GW w) : Calls Tryz.prog 35 #[.int .i64 4, .int .i64 1] w fun e w' => e = .returned (.string (⟨#[112, 111, 112, 32, 104, 108]⟩ : ByteArray)) ∧ Below w.heap.size w w' := by
  have HG := Aside0.mk hG
  clear hG
  have hst : impl_high.stackArr[2]? = some (.string (⟨#[104, 108]⟩ : ByteArray)) := rfl
  go_enter Tryz.func35, Tryz.ntmps35
  go_wp2_with (go_at_call 38; refine (impl_high.stackC _ ?hg).mono ?_; (case hg => repeat (first | exact HG.out | apply GW.alloc | apply GW.drewN | apply GW.drew)); rintro e w' ⟨rfl, rfl⟩)
  (first | go_ret | (apply bodyPost_ret; (exact results_tmp rfl _ _ _); rfl))
  exact ⟨by first | rfl | decide, by repeat (first | exact Below.refl _ _ | apply below_alloc | apply pw_below_drewN | apply below_drew)⟩
set_option maxRecDepth 100000 in
set_option maxHeartbeats 8000000 in
theorem impl_high.w5_1 (w : World) (hG : GW w) : Calls Tryz.prog 35 #[.int .i64 5, .int .i64 1] w fun e w' => e = .returned (.string (⟨#[106, 112, 32, 104, 108]⟩ : ByteArray)) ∧ Below w.heap.size w w' := by
  have HG := Aside0.mk hG
  clear hG
  have hst : impl_high.stackArr[2]? = some (.string (⟨#[104, 108]⟩ : ByteArray)) := rfl
  go_enter Tryz.func35, Tryz.ntmps35
  go_wp2_with (go_at_call 38; refine (impl_high.stackC _ ?hg).mono ?_; (case hg => repeat (first | exact HG.out | apply GW.alloc | apply GW.drewN | apply GW.drew)); rintro e w' ⟨rfl, rfl⟩)
  (first | go_ret | (apply bodyPost_ret; (exact results_tmp rfl _ _ _); rfl))
  exact ⟨by first | rfl | decide, by repeat (first | exact Below.refl _ _ | apply below_alloc | apply pw_below_drewN | apply below_drew)⟩
set_option maxRecDepth 100000 in
set_option maxHeartbeats 8000000 in
theorem impl_high.w6_1 (w : World) (hG : GW w) : Calls Tryz.prog 35 #[.int .i64 6, .int .i64 1] w fun e w' => e = .returned (.string (⟨#[112, 111, 112, 32, 97, 102]⟩ : ByteArray)) ∧ Below w.heap.size w w' := by
  have HG := Aside0.mk hG
  clear hG
  have hst : impl_high.stackArr[3]? = some (.string (⟨#[97, 102]⟩ : ByteArray)) := rfl
  go_enter Tryz.func35, Tryz.ntmps35
  go_wp2_with (go_at_call 38; refine (impl_high.stackC _ ?hg).mono ?_; (case hg => repeat (first | exact HG.out | apply GW.alloc | apply GW.drewN | apply GW.drew)); rintro e w' ⟨rfl, rfl⟩)
  (first | go_ret | (apply bodyPost_ret; (exact results_tmp rfl _ _ _); rfl))
  exact ⟨by first | rfl | decide, by repeat (first | exact Below.refl _ _ | apply below_alloc | apply pw_below_drewN | apply below_drew)⟩
set_option maxRecDepth 100000 in
set_option maxHeartbeats 8000000 in
theorem impl_high.w7_1 (w : World) (hG : GW w) : Calls Tryz.prog 35 #[.int .i64 7, .int .i64 1] w fun e w' => e = .returned (.string (⟨#[108, 100, 32, 115, 112, 44, 104, 108]⟩ : ByteArray)) ∧ Below w.heap.size w w' := by
  have HG := Aside0.mk hG
  clear hG
  have hst : impl_high.stackArr[3]? = some (.string (⟨#[97, 102]⟩ : ByteArray)) := rfl
  go_enter Tryz.func35, Tryz.ntmps35
  go_wp2_with (go_at_call 38; refine (impl_high.stackC _ ?hg).mono ?_; (case hg => repeat (first | exact HG.out | apply GW.alloc | apply GW.drewN | apply GW.drew)); rintro e w' ⟨rfl, rfl⟩)
  (first | go_ret | (apply bodyPost_ret; (exact results_tmp rfl _ _ _); rfl))
  exact ⟨by first | rfl | decide, by repeat (first | exact Below.refl _ _ | apply below_alloc | apply pw_below_drewN | apply below_drew)⟩
set_option maxRecDepth 100000 in
set_option maxHeartbeats 8000000 in
theorem impl_high.w0_3 (w : World) (hG : GW w) : Calls Tryz.prog 35 #[.int .i64 0, .int .i64 3] w fun e w' => e = .returned (.string (⟨#[106, 112, 32, 110, 49, 54]⟩ : ByteArray)) ∧ Below w.heap.size w w' := by
  have HG := Aside0.mk hG
  clear hG
  have hst : impl_high.stackArr[0]? = some (.string (⟨#[98, 99]⟩ : ByteArray)) := rfl
  go_enter Tryz.func35, Tryz.ntmps35
  go_wp2_with (go_at_call 38; refine (impl_high.stackC _ ?hg).mono ?_; (case hg => repeat (first | exact HG.out | apply GW.alloc | apply GW.drewN | apply GW.drew)); rintro e w' ⟨rfl, rfl⟩)
  (first | go_ret | (apply bodyPost_ret; (exact results_tmp rfl _ _ _); rfl))
  exact ⟨by first | rfl | decide, by repeat (first | exact Below.refl _ _ | apply below_alloc | apply pw_below_drewN | apply below_drew)⟩
set_option maxRecDepth 100000 in
set_option maxHeartbeats 8000000 in
theorem impl_high.w1_3 (w : World) (hG : GW w) : Calls Tryz.prog 35 #[.int .i64 1, .int .i64 3] w fun e w' => e = .returned (.string (⟨#[]⟩ : ByteArray)) ∧ Below w.heap.size w w' := by
  have HG := Aside0.mk hG
  clear hG
  have hst : impl_high.stackArr[0]? = some (.string (⟨#[98, 99]⟩ : ByteArray)) := rfl
  go_enter Tryz.func35, Tryz.ntmps35
  go_wp2_with (go_at_call 38; refine (impl_high.stackC _ ?hg).mono ?_; (case hg => repeat (first | exact HG.out | apply GW.alloc | apply GW.drewN | apply GW.drew)); rintro e w' ⟨rfl, rfl⟩)
  (first | go_ret | (apply bodyPost_ret; (exact results_tmp rfl _ _ _); rfl))
  exact ⟨by first | rfl | decide, by repeat (first | exact Below.refl _ _ | apply below_alloc | apply pw_below_drewN | apply below_drew)⟩
set_option maxRecDepth 100000 in
set_option maxHeartbeats 8000000 in
theorem impl_high.w2_3 (w : World) (hG : GW w) : Calls Tryz.prog 35 #[.int .i64 2, .int .i64 3] w fun e w' => e = .returned (.string (⟨#[]⟩ : ByteArray)) ∧ Below w.heap.size w w' := by
  have HG := Aside0.mk hG
  clear hG
  have hst : impl_high.stackArr[1]? = some (.string (⟨#[100, 101]⟩ : ByteArray)) := rfl
  go_enter Tryz.func35, Tryz.ntmps35
  go_wp2_with (go_at_call 38; refine (impl_high.stackC _ ?hg).mono ?_; (case hg => repeat (first | exact HG.out | apply GW.alloc | apply GW.drewN | apply GW.drew)); rintro e w' ⟨rfl, rfl⟩)
  (first | go_ret | (apply bodyPost_ret; (exact results_tmp rfl _ _ _); rfl))
  exact ⟨by first | rfl | decide, by repeat (first | exact Below.refl _ _ | apply below_alloc | apply pw_below_drewN | apply below_drew)⟩
set_option maxRecDepth 100000 in
set_option maxHeartbeats 8000000 in
theorem impl_high.w3_3 (w : World) (hG : GW w) : Calls Tryz.prog 35 #[.int .i64 3, .int .i64 3] w fun e w' => e = .returned (.string (⟨#[]⟩ : ByteArray)) ∧ Below w.heap.size w w' := by
  have HG := Aside0.mk hG
  clear hG
  have hst : impl_high.stackArr[1]? = some (.string (⟨#[100, 101]⟩ : ByteArray)) := rfl
  go_enter Tryz.func35, Tryz.ntmps35
  go_wp2_with (go_at_call 38; refine (impl_high.stackC _ ?hg).mono ?_; (case hg => repeat (first | exact HG.out | apply GW.alloc | apply GW.drewN | apply GW.drew)); rintro e w' ⟨rfl, rfl⟩)
  (first | go_ret | (apply bodyPost_ret; (exact results_tmp rfl _ _ _); rfl))
  exact ⟨by first | rfl | decide, by repeat (first | exact Below.refl _ _ | apply below_alloc | apply pw_below_drewN | apply below_drew)⟩
set_option maxRecDepth 100000 in
set_option maxHeartbeats 8000000 in
theorem impl_high.w4_3 (w : World) (hG : GW w) : Calls Tryz.prog 35 #[.int .i64 4, .int .i64 3] w fun e w' => e = .returned (.string (⟨#[]⟩ : ByteArray)) ∧ Below w.heap.size w w' := by
  have HG := Aside0.mk hG
  clear hG
  have hst : impl_high.stackArr[2]? = some (.string (⟨#[104, 108]⟩ : ByteArray)) := rfl
  go_enter Tryz.func35, Tryz.ntmps35
  go_wp2_with (go_at_call 38; refine (impl_high.stackC _ ?hg).mono ?_; (case hg => repeat (first | exact HG.out | apply GW.alloc | apply GW.drewN | apply GW.drew)); rintro e w' ⟨rfl, rfl⟩)
  (first | go_ret | (apply bodyPost_ret; (exact results_tmp rfl _ _ _); rfl))
  exact ⟨by first | rfl | decide, by repeat (first | exact Below.refl _ _ | apply below_alloc | apply pw_below_drewN | apply below_drew)⟩
set_option maxRecDepth 100000 in
set_option maxHeartbeats 8000000 in
theorem impl_high.w5_3 (w : World) (hG : GW w) : Calls Tryz.prog 35 #[.int .i64 5, .int .i64 3] w fun e w' => e = .returned (.string (⟨#[]⟩ : ByteArray)) ∧ Below w.heap.size w w' := by
  have HG := Aside0.mk hG
  clear hG
  have hst : impl_high.stackArr[2]? = some (.string (⟨#[104, 108]⟩ : ByteArray)) := rfl
  go_enter Tryz.func35, Tryz.ntmps35
  go_wp2_with (go_at_call 38; refine (impl_high.stackC _ ?hg).mono ?_; (case hg => repeat (first | exact HG.out | apply GW.alloc | apply GW.drewN | apply GW.drew)); rintro e w' ⟨rfl, rfl⟩)
  (first | go_ret | (apply bodyPost_ret; (exact results_tmp rfl _ _ _); rfl))
  exact ⟨by first | rfl | decide, by repeat (first | exact Below.refl _ _ | apply below_alloc | apply pw_below_drewN | apply below_drew)⟩
set_option maxRecDepth 100000 in
set_option maxHeartbeats 8000000 in
theorem impl_high.w6_3 (w : World) (hG : GW w) : Calls Tryz.prog 35 #[.int .i64 6, .int .i64 3] w fun e w' => e = .returned (.string (⟨#[100, 105]⟩ : ByteArray)) ∧ Below w.heap.size w w' := by
  have HG := Aside0.mk hG
  clear hG
  have hst : impl_high.stackArr[3]? = some (.string (⟨#[97, 102]⟩ : ByteArray)) := rfl
  go_enter Tryz.func35, Tryz.ntmps35
  go_wp2_with (go_at_call 38; refine (impl_high.stackC _ ?hg).mono ?_; (case hg => repeat (first | exact HG.out | apply GW.alloc | apply GW.drewN | apply GW.drew)); rintro e w' ⟨rfl, rfl⟩)
  (first | go_ret | (apply bodyPost_ret; (exact results_tmp rfl _ _ _); rfl))
  exact ⟨by first | rfl | decide, by repeat (first | exact Below.refl _ _ | apply below_alloc | apply pw_below_drewN | apply below_drew)⟩
set_option maxRecDepth 100000 in
set_option maxHeartbeats 8000000 in
theorem impl_high.w7_3 (w : World) (hG : GW w) : Calls Tryz.prog 35 #[.int .i64 7, .int .i64 3] w fun e w' => e = .returned (.string (⟨#[101, 105]⟩ : ByteArray)) ∧ Below w.heap.size w w' := by
  have HG := Aside0.mk hG
  clear hG
  have hst : impl_high.stackArr[3]? = some (.string (⟨#[97, 102]⟩ : ByteArray)) := rfl
  go_enter Tryz.func35, Tryz.ntmps35
  go_wp2_with (go_at_call 38; refine (impl_high.stackC _ ?hg).mono ?_; (case hg => repeat (first | exact HG.out | apply GW.alloc | apply GW.drewN | apply GW.drew)); rintro e w' ⟨rfl, rfl⟩)
  (first | go_ret | (apply bodyPost_ret; (exact results_tmp rfl _ _ _); rfl))
  exact ⟨by first | rfl | decide, by repeat (first | exact Below.refl _ _ | apply below_alloc | apply pw_below_drewN | apply below_drew)⟩
set_option maxRecDepth 100000 in
set_option maxHeartbeats 8000000 in
theorem impl_high.w0_5 (w : World) (hG : GW w) : Calls Tryz.prog 35 #[.int .i64 0, .int .i64 5] w fun e w' => e = .returned (.string (⟨#[112, 117, 115, 104, 32, 98, 99]⟩ : ByteArray)) ∧ Below w.heap.size w w' := by
  have HG := Aside0.mk hG
  clear hG
  have hst : impl_high.stackArr[0]? = some (.string (⟨#[98, 99]⟩ : ByteArray)) := rfl
  go_enter Tryz.func35, Tryz.ntmps35
  go_wp2_with (go_at_call 38; refine (impl_high.stackC _ ?hg).mono ?_; (case hg => repeat (first | exact HG.out | apply GW.alloc | apply GW.drewN | apply GW.drew)); rintro e w' ⟨rfl, rfl⟩)
  (first | go_ret | (apply bodyPost_ret; (exact results_tmp rfl _ _ _); rfl))
  exact ⟨by first | rfl | decide, by repeat (first | exact Below.refl _ _ | apply below_alloc | apply pw_below_drewN | apply below_drew)⟩
set_option maxRecDepth 100000 in
set_option maxHeartbeats 8000000 in
theorem impl_high.w1_5 (w : World) (hG : GW w) : Calls Tryz.prog 35 #[.int .i64 1, .int .i64 5] w fun e w' => e = .returned (.string (⟨#[99, 97, 108, 108, 32, 110, 49, 54]⟩ : ByteArray)) ∧ Below w.heap.size w w' := by
  have HG := Aside0.mk hG
  clear hG
  have hst : impl_high.stackArr[0]? = some (.string (⟨#[98, 99]⟩ : ByteArray)) := rfl
  go_enter Tryz.func35, Tryz.ntmps35
  go_wp2_with (go_at_call 38; refine (impl_high.stackC _ ?hg).mono ?_; (case hg => repeat (first | exact HG.out | apply GW.alloc | apply GW.drewN | apply GW.drew)); rintro e w' ⟨rfl, rfl⟩)
  (first | go_ret | (apply bodyPost_ret; (exact results_tmp rfl _ _ _); rfl))
  exact ⟨by first | rfl | decide, by repeat (first | exact Below.refl _ _ | apply below_alloc | apply pw_below_drewN | apply below_drew)⟩
set_option maxRecDepth 100000 in
set_option maxHeartbeats 8000000 in
theorem impl_high.w2_5 (w : World) (hG : GW w) : Calls Tryz.prog 35 #[.int .i64 2, .int .i64 5] w fun e w' => e = .returned (.string (⟨#[112, 117, 115, 104, 32, 100, 101]⟩ : ByteArray)) ∧ Below w.heap.size w w' := by
  have HG := Aside0.mk hG
  clear hG
  have hst : impl_high.stackArr[1]? = some (.string (⟨#[100, 101]⟩ : ByteArray)) := rfl
  go_enter Tryz.func35, Tryz.ntmps35
  go_wp2_with (go_at_call 38; refine (impl_high.stackC _ ?hg).mono ?_; (case hg => repeat (first | exact HG.out | apply GW.alloc | apply GW.drewN | apply GW.drew)); rintro e w' ⟨rfl, rfl⟩)
  (first | go_ret | (apply bodyPost_ret; (exact results_tmp rfl _ _ _); rfl))
  exact ⟨by first | rfl | decide, by repeat (first | exact Below.refl _ _ | apply below_alloc | apply pw_below_drewN | apply below_drew)⟩
set_option maxRecDepth 100000 in
set_option maxHeartbeats 8000000 in
theorem impl_high.w3_5 (w : World) (hG : GW w) : Calls Tryz.prog 35 #[.int .i64 3, .int .i64 5] w fun e w' => e = .returned (.string (⟨#[]⟩ : ByteArray)) ∧ Below w.heap.size w w' := by
  have HG := Aside0.mk hG
  clear hG
  have hst : impl_high.stackArr[1]? = some (.string (⟨#[100, 101]⟩ : ByteArray)) := rfl
  go_enter Tryz.func35, Tryz.ntmps35
  go_wp2_with (go_at_call 38; refine (impl_high.stackC _ ?hg).mono ?_; (case hg => repeat (first | exact HG.out | apply GW.alloc | apply GW.drewN | apply GW.drew)); rintro e w' ⟨rfl, rfl⟩)
  (first | go_ret | (apply bodyPost_ret; (exact results_tmp rfl _ _ _); rfl))
  exact ⟨by first | rfl | decide, by repeat (first | exact Below.refl _ _ | apply below_alloc | apply pw_below_drewN | apply below_drew)⟩
set_option maxRecDepth 100000 in
set_option maxHeartbeats 8000000 in
theorem impl_high.w4_5 (w : World) (hG : GW w) : Calls Tryz.prog 35 #[.int .i64 4, .int .i64 5] w fun e w' => e = .returned (.string (⟨#[112, 117, 115, 104, 32, 104, 108]⟩ : ByteArray)) ∧ Below w.heap.size w w' := by
  have HG := Aside0.mk hG
  clear hG
  have hst : impl_high.stackArr[2]? = some (.string (⟨#[104, 108]⟩ : ByteArray)) := rfl
  go_enter Tryz.func35, Tryz.ntmps35
  go_wp2_with (go_at_call 38; refine (impl_high.stackC _ ?hg).mono ?_; (case hg => repeat (first | exact HG.out | apply GW.alloc | apply GW.drewN | apply GW.drew)); rintro e w' ⟨rfl, rfl⟩)
  (first | go_ret | (apply bodyPost_ret; (exact results_tmp rfl _ _ _); rfl))
  exact ⟨by first | rfl | decide, by repeat (first | exact Below.refl _ _ | apply below_alloc | apply pw_below_drewN | apply below_drew)⟩
set_option maxRecDepth 100000 in
set_option maxHeartbeats 8000000 in
theorem impl_high.w5_5 (w : World) (hG : GW w) : Calls Tryz.prog 35 #[.int .i64 5, .int .i64 5] w fun e w' => e = .returned (.string (⟨#[]⟩ : ByteArray)) ∧ Below w.heap.size w w' := by
  have HG := Aside0.mk hG
  clear hG
  have hst : impl_high.stackArr[2]? = some (.string (⟨#[104, 108]⟩ : ByteArray)) := rfl
  go_enter Tryz.func35, Tryz.ntmps35
  go_wp2_with (go_at_call 38; refine (impl_high.stackC _ ?hg).mono ?_; (case hg => repeat (first | exact HG.out | apply GW.alloc | apply GW.drewN | apply GW.drew)); rintro e w' ⟨rfl, rfl⟩)
  (first | go_ret | (apply bodyPost_ret; (exact results_tmp rfl _ _ _); rfl))
  exact ⟨by first | rfl | decide, by repeat (first | exact Below.refl _ _ | apply below_alloc | apply pw_below_drewN | apply below_drew)⟩
set_option maxRecDepth 100000 in
set_option maxHeartbeats 8000000 in
theorem impl_high.w6_5 (w : World) (hG : GW w) : Calls Tryz.prog 35 #[.int .i64 6, .int .i64 5] w fun e w' => e = .returned (.string (⟨#[112, 117, 115, 104, 32, 97, 102]⟩ : ByteArray)) ∧ Below w.heap.size w w' := by
  have HG := Aside0.mk hG
  clear hG
  have hst : impl_high.stackArr[3]? = some (.string (⟨#[97, 102]⟩ : ByteArray)) := rfl
  go_enter Tryz.func35, Tryz.ntmps35
  go_wp2_with (go_at_call 38; refine (impl_high.stackC _ ?hg).mono ?_; (case hg => repeat (first | exact HG.out | apply GW.alloc | apply GW.drewN | apply GW.drew)); rintro e w' ⟨rfl, rfl⟩)
  (first | go_ret | (apply bodyPost_ret; (exact results_tmp rfl _ _ _); rfl))
  exact ⟨by first | rfl | decide, by repeat (first | exact Below.refl _ _ | apply below_alloc | apply pw_below_drewN | apply below_drew)⟩
set_option maxRecDepth 100000 in
set_option maxHeartbeats 8000000 in
theorem impl_high.w7_5 (w : World) (hG : GW w) : Calls Tryz.prog 35 #[.int .i64 7, .int .i64 5] w fun e w' => e = .returned (.string (⟨#[]⟩ : ByteArray)) ∧ Below w.heap.size w w' := by
  have HG := Aside0.mk hG
  clear hG
  have hst : impl_high.stackArr[3]? = some (.string (⟨#[97, 102]⟩ : ByteArray)) := rfl
  go_enter Tryz.func35, Tryz.ntmps35
  go_wp2_with (go_at_call 38; refine (impl_high.stackC _ ?hg).mono ?_; (case hg => repeat (first | exact HG.out | apply GW.alloc | apply GW.drewN | apply GW.drew)); rintro e w' ⟨rfl, rfl⟩)
  (first | go_ret | (apply bodyPost_ret; (exact results_tmp rfl _ _ _); rfl))
  exact ⟨by first | rfl | decide, by repeat (first | exact Below.refl _ _ | apply below_alloc | apply pw_below_drewN | apply below_drew)⟩
set_option maxRecDepth 100000 in
set_option maxHeartbeats 8000000 in
theorem impl_high.s6 (y : Nat) (s u : ByteArray) (hu : impl_high.stackArr[y / 2]? = some (.string u)) (lu : (y : Int) / 2 < 4) (zu : u.size ≤ 100) (hs : impl_high.alusArr[y]? = some (.string s)) (ls : (y : Int) < 8) (zs : s.size ≤ 100) (w : World) (hG : GW w) : Calls Tryz.prog 35 #[.int .i64 (y : Int), .int .i64 6] w fun e w' => e = .returned (.string (s ++ (⟨#[32, 97, 44, 110, 56]⟩ : ByteArray))) ∧ Below w.heap.size w w' := by
  have HG := Aside0.mk hG
  clear hG
  go_enter Tryz.func35, Tryz.ntmps35
  go_wp2_with (first | (go_at_call 36; refine (impl_high.alusC _ ?hg).mono ?_; (case hg => repeat (first | exact HG.out | apply GW.alloc | apply GW.drewN | apply GW.drew)); rintro e w' ⟨rfl, rfl⟩) | (go_at_call 38; refine (impl_high.stackC _ ?hg).mono ?_; (case hg => repeat (first | exact HG.out | apply GW.alloc | apply GW.drewN | apply GW.drew)); rintro e w' ⟨rfl, rfl⟩))
  (first | go_ret | (apply bodyPost_ret; (exact results_tmp rfl _ _ _); rfl))
  exact ⟨by first | rfl | decide, by repeat (first | exact Below.refl _ _ | apply below_alloc | apply pw_below_drewN | apply below_drew)⟩
set_option maxRecDepth 100000 in
set_option maxHeartbeats 8000000 in
theorem impl_high.w0_7 (w : World) (hG : GW w) : Calls Tryz.prog 35 #[.int .i64 0, .int .i64 7] w fun e w' => e = .returned (.string (⟨#[114, 115, 116, 32, 36, 48, 48]⟩ : ByteArray)) ∧ Below w.heap.size w w' := by
  have HG := Aside0.mk hG
  clear hG
  have hst : impl_high.stackArr[0]? = some (.string (⟨#[98, 99]⟩ : ByteArray)) := rfl
  go_enter Tryz.func35, Tryz.ntmps35
  go_wp2_with (first | (go_at_call 38; refine (impl_high.stackC _ ?hg).mono ?_; (case hg => repeat (first | exact HG.out | apply GW.alloc | apply GW.drewN | apply GW.drew)); rintro e w' ⟨rfl, rfl⟩) | (go_at_call 58; refine (impl_HexOf.calls _ _ (⟨#[36, 48, 48]⟩ : ByteArray) _ ?hg (by decide +kernel)).mono ?_; (case hg => repeat (first | exact HG.out | apply GW.alloc | apply GW.drewN | apply GW.drew)); rintro e w' ⟨rfl, hb⟩))
  (first | go_ret | (apply bodyPost_ret; (exact results_tmp rfl _ _ _); rfl))
  exact ⟨by first | rfl | decide, by repeat (first | exact Below.refl _ _ | exact below_step (by repeat (first | exact Below.refl _ _ | apply below_alloc | apply pw_below_drewN | apply below_drew)) hb | apply below_alloc | apply pw_below_drewN | apply below_drew)⟩
set_option maxRecDepth 100000 in
set_option maxHeartbeats 8000000 in
theorem impl_high.w1_7 (w : World) (hG : GW w) : Calls Tryz.prog 35 #[.int .i64 1, .int .i64 7] w fun e w' => e = .returned (.string (⟨#[114, 115, 116, 32, 36, 48, 56]⟩ : ByteArray)) ∧ Below w.heap.size w w' := by
  have HG := Aside0.mk hG
  clear hG
  have hst : impl_high.stackArr[0]? = some (.string (⟨#[98, 99]⟩ : ByteArray)) := rfl
  go_enter Tryz.func35, Tryz.ntmps35
  go_wp2_with (first | (go_at_call 38; refine (impl_high.stackC _ ?hg).mono ?_; (case hg => repeat (first | exact HG.out | apply GW.alloc | apply GW.drewN | apply GW.drew)); rintro e w' ⟨rfl, rfl⟩) | (go_at_call 58; refine (impl_HexOf.calls _ _ (⟨#[36, 48, 56]⟩ : ByteArray) _ ?hg (by decide +kernel)).mono ?_; (case hg => repeat (first | exact HG.out | apply GW.alloc | apply GW.drewN | apply GW.drew)); rintro e w' ⟨rfl, hb⟩))
  (first | go_ret | (apply bodyPost_ret; (exact results_tmp rfl _ _ _); rfl))
  exact ⟨by first | rfl | decide, by repeat (first | exact Below.refl _ _ | exact below_step (by repeat (first | exact Below.refl _ _ | apply below_alloc | apply pw_below_drewN | apply below_drew)) hb | apply below_alloc | apply pw_below_drewN | apply below_drew)⟩
set_option maxRecDepth 100000 in
set_option maxHeartbeats 8000000 in
theorem impl_high.w2_7 (w : World) (hG : GW w) : Calls Tryz.prog 35 #[.int .i64 2, .int .i64 7] w fun e w' => e = .returned (.string (⟨#[114, 115, 116, 32, 36, 49, 48]⟩ : ByteArray)) ∧ Below w.heap.size w w' := by
  have HG := Aside0.mk hG
  clear hG
  have hst : impl_high.stackArr[1]? = some (.string (⟨#[100, 101]⟩ : ByteArray)) := rfl
  go_enter Tryz.func35, Tryz.ntmps35
  go_wp2_with (first | (go_at_call 38; refine (impl_high.stackC _ ?hg).mono ?_; (case hg => repeat (first | exact HG.out | apply GW.alloc | apply GW.drewN | apply GW.drew)); rintro e w' ⟨rfl, rfl⟩) | (go_at_call 58; refine (impl_HexOf.calls _ _ (⟨#[36, 49, 48]⟩ : ByteArray) _ ?hg (by decide +kernel)).mono ?_; (case hg => repeat (first | exact HG.out | apply GW.alloc | apply GW.drewN | apply GW.drew)); rintro e w' ⟨rfl, hb⟩))
  (first | go_ret | (apply bodyPost_ret; (exact results_tmp rfl _ _ _); rfl))
  exact ⟨by first | rfl | decide, by repeat (first | exact Below.refl _ _ | exact below_step (by repeat (first | exact Below.refl _ _ | apply below_alloc | apply pw_below_drewN | apply below_drew)) hb | apply below_alloc | apply pw_below_drewN | apply below_drew)⟩
set_option maxRecDepth 100000 in
set_option maxHeartbeats 8000000 in
theorem impl_high.w3_7 (w : World) (hG : GW w) : Calls Tryz.prog 35 #[.int .i64 3, .int .i64 7] w fun e w' => e = .returned (.string (⟨#[114, 115, 116, 32, 36, 49, 56]⟩ : ByteArray)) ∧ Below w.heap.size w w' := by
  have HG := Aside0.mk hG
  clear hG
  have hst : impl_high.stackArr[1]? = some (.string (⟨#[100, 101]⟩ : ByteArray)) := rfl
  go_enter Tryz.func35, Tryz.ntmps35
  go_wp2_with (first | (go_at_call 38; refine (impl_high.stackC _ ?hg).mono ?_; (case hg => repeat (first | exact HG.out | apply GW.alloc | apply GW.drewN | apply GW.drew)); rintro e w' ⟨rfl, rfl⟩) | (go_at_call 58; refine (impl_HexOf.calls _ _ (⟨#[36, 49, 56]⟩ : ByteArray) _ ?hg (by decide +kernel)).mono ?_; (case hg => repeat (first | exact HG.out | apply GW.alloc | apply GW.drewN | apply GW.drew)); rintro e w' ⟨rfl, hb⟩))
  (first | go_ret | (apply bodyPost_ret; (exact results_tmp rfl _ _ _); rfl))
  exact ⟨by first | rfl | decide, by repeat (first | exact Below.refl _ _ | exact below_step (by repeat (first | exact Below.refl _ _ | apply below_alloc | apply pw_below_drewN | apply below_drew)) hb | apply below_alloc | apply pw_below_drewN | apply below_drew)⟩
set_option maxRecDepth 100000 in
set_option maxHeartbeats 8000000 in
theorem impl_high.w4_7 (w : World) (hG : GW w) : Calls Tryz.prog 35 #[.int .i64 4, .int .i64 7] w fun e w' => e = .returned (.string (⟨#[114, 115, 116, 32, 36, 50, 48]⟩ : ByteArray)) ∧ Below w.heap.size w w' := by
  have HG := Aside0.mk hG
  clear hG
  have hst : impl_high.stackArr[2]? = some (.string (⟨#[104, 108]⟩ : ByteArray)) := rfl
  go_enter Tryz.func35, Tryz.ntmps35
  go_wp2_with (first | (go_at_call 38; refine (impl_high.stackC _ ?hg).mono ?_; (case hg => repeat (first | exact HG.out | apply GW.alloc | apply GW.drewN | apply GW.drew)); rintro e w' ⟨rfl, rfl⟩) | (go_at_call 58; refine (impl_HexOf.calls _ _ (⟨#[36, 50, 48]⟩ : ByteArray) _ ?hg (by decide +kernel)).mono ?_; (case hg => repeat (first | exact HG.out | apply GW.alloc | apply GW.drewN | apply GW.drew)); rintro e w' ⟨rfl, hb⟩))
  (first | go_ret | (apply bodyPost_ret; (exact results_tmp rfl _ _ _); rfl))
  exact ⟨by first | rfl | decide, by repeat (first | exact Below.refl _ _ | exact below_step (by repeat (first | exact Below.refl _ _ | apply below_alloc | apply pw_below_drewN | apply below_drew)) hb | apply below_alloc | apply pw_below_drewN | apply below_drew)⟩
set_option maxRecDepth 100000 in
set_option maxHeartbeats 8000000 in
theorem impl_high.w5_7 (w : World) (hG : GW w) : Calls Tryz.prog 35 #[.int .i64 5, .int .i64 7] w fun e w' => e = .returned (.string (⟨#[114, 115, 116, 32, 36, 50, 56]⟩ : ByteArray)) ∧ Below w.heap.size w w' := by
  have HG := Aside0.mk hG
  clear hG
  have hst : impl_high.stackArr[2]? = some (.string (⟨#[104, 108]⟩ : ByteArray)) := rfl
  go_enter Tryz.func35, Tryz.ntmps35
  go_wp2_with (first | (go_at_call 38; refine (impl_high.stackC _ ?hg).mono ?_; (case hg => repeat (first | exact HG.out | apply GW.alloc | apply GW.drewN | apply GW.drew)); rintro e w' ⟨rfl, rfl⟩) | (go_at_call 58; refine (impl_HexOf.calls _ _ (⟨#[36, 50, 56]⟩ : ByteArray) _ ?hg (by decide +kernel)).mono ?_; (case hg => repeat (first | exact HG.out | apply GW.alloc | apply GW.drewN | apply GW.drew)); rintro e w' ⟨rfl, hb⟩))
  (first | go_ret | (apply bodyPost_ret; (exact results_tmp rfl _ _ _); rfl))
  exact ⟨by first | rfl | decide, by repeat (first | exact Below.refl _ _ | exact below_step (by repeat (first | exact Below.refl _ _ | apply below_alloc | apply pw_below_drewN | apply below_drew)) hb | apply below_alloc | apply pw_below_drewN | apply below_drew)⟩
set_option maxRecDepth 100000 in
set_option maxHeartbeats 8000000 in
theorem impl_high.w6_7 (w : World) (hG : GW w) : Calls Tryz.prog 35 #[.int .i64 6, .int .i64 7] w fun e w' => e = .returned (.string (⟨#[114, 115, 116, 32, 36, 51, 48]⟩ : ByteArray)) ∧ Below w.heap.size w w' := by
  have HG := Aside0.mk hG
  clear hG
  have hst : impl_high.stackArr[3]? = some (.string (⟨#[97, 102]⟩ : ByteArray)) := rfl
  go_enter Tryz.func35, Tryz.ntmps35
  go_wp2_with (first | (go_at_call 38; refine (impl_high.stackC _ ?hg).mono ?_; (case hg => repeat (first | exact HG.out | apply GW.alloc | apply GW.drewN | apply GW.drew)); rintro e w' ⟨rfl, rfl⟩) | (go_at_call 58; refine (impl_HexOf.calls _ _ (⟨#[36, 51, 48]⟩ : ByteArray) _ ?hg (by decide +kernel)).mono ?_; (case hg => repeat (first | exact HG.out | apply GW.alloc | apply GW.drewN | apply GW.drew)); rintro e w' ⟨rfl, hb⟩))
  (first | go_ret | (apply bodyPost_ret; (exact results_tmp rfl _ _ _); rfl))
  exact ⟨by first | rfl | decide, by repeat (first | exact Below.refl _ _ | exact below_step (by repeat (first | exact Below.refl _ _ | apply below_alloc | apply pw_below_drewN | apply below_drew)) hb | apply below_alloc | apply pw_below_drewN | apply below_drew)⟩
set_option maxRecDepth 100000 in
set_option maxHeartbeats 8000000 in
theorem impl_high.w7_7 (w : World) (hG : GW w) : Calls Tryz.prog 35 #[.int .i64 7, .int .i64 7] w fun e w' => e = .returned (.string (⟨#[114, 115, 116, 32, 36, 51, 56]⟩ : ByteArray)) ∧ Below w.heap.size w w' := by
  have HG := Aside0.mk hG
  clear hG
  have hst : impl_high.stackArr[3]? = some (.string (⟨#[97, 102]⟩ : ByteArray)) := rfl
  go_enter Tryz.func35, Tryz.ntmps35
  go_wp2_with (first | (go_at_call 38; refine (impl_high.stackC _ ?hg).mono ?_; (case hg => repeat (first | exact HG.out | apply GW.alloc | apply GW.drewN | apply GW.drew)); rintro e w' ⟨rfl, rfl⟩) | (go_at_call 58; refine (impl_HexOf.calls _ _ (⟨#[36, 51, 56]⟩ : ByteArray) _ ?hg (by decide +kernel)).mono ?_; (case hg => repeat (first | exact HG.out | apply GW.alloc | apply GW.drewN | apply GW.drew)); rintro e w' ⟨rfl, hb⟩))
  (first | go_ret | (apply bodyPost_ret; (exact results_tmp rfl _ _ _); rfl))
  exact ⟨by first | rfl | decide, by repeat (first | exact Below.refl _ _ | exact below_step (by repeat (first | exact Below.refl _ _ | apply below_alloc | apply pw_below_drewN | apply below_drew)) hb | apply below_alloc | apply pw_below_drewN | apply below_drew)⟩
def impl_high.f (a0 a1 : Int) : Option ByteArray := if (0 ≤ a0 ∧ a0 < 8) ∧ (0 ≤ a1 ∧ a1 < 8) then some (topL.getD (8 * a1 + a0).toNat ⟨#[]⟩) else none
theorem impl_high.calls (a0 a1 : Int) (r : ByteArray) (w : World) (hG : GW w) (h : impl_high.f a0 a1 = some r) :
 Calls Tryz.prog 35 #[.int .i64 a0, .int .i64 a1] w fun e w' => e = .returned (.string r) ∧ Below w.heap.size w w' := by
 unfold impl_high.f at h
 by_cases hr : (0 ≤ a0 ∧ a0 < 8) ∧ (0 ≤ a1 ∧ a1 < 8)
 ·rw [if_pos hr] at h
  obtain rfl := Option.some.inj h
  have hy : a0 = 0 ∨ a0 = 1 ∨ a0 = 2 ∨ a0 = 3 ∨ a0 = 4 ∨ a0 = 5 ∨ a0 = 6 ∨ a0 = 7 := by omega
  have hz : a1 = 0 ∨ a1 = 1 ∨ a1 = 2 ∨ a1 = 3 ∨ a1 = 4 ∨ a1 = 5 ∨ a1 = 6 ∨ a1 = 7 := by omega
  clear hr h
  rcases hz with rfl | rfl | rfl | rfl | rfl | rfl | rfl | rfl
  ·rcases hy with rfl | rfl | rfl | rfl | rfl | rfl | rfl | rfl
   ·exact (impl_high.s0 0 (⟨#[110, 122]⟩ : ByteArray) (⟨#[98, 99]⟩ : ByteArray) (by decide) rfl (by decide) (by decide) rfl (by decide) (by decide) w hG).mono (by rintro e w' ⟨rfl, h⟩; exact ⟨by first | rfl | decide, h⟩)
   ·exact (impl_high.s0 1 (⟨#[122]⟩ : ByteArray) (⟨#[98, 99]⟩ : ByteArray) (by decide) rfl (by decide) (by decide) rfl (by decide) (by decide) w hG).mono (by rintro e w' ⟨rfl, h⟩; exact ⟨by first | rfl | decide, h⟩)
   ·exact (impl_high.s0 2 (⟨#[110, 99]⟩ : ByteArray) (⟨#[100, 101]⟩ : ByteArray) (by decide) rfl (by decide) (by decide) rfl (by decide) (by decide) w hG).mono (by rintro e w' ⟨rfl, h⟩; exact ⟨by first | rfl | decide, h⟩)
   ·exact (impl_high.s0 3 (⟨#[99]⟩ : ByteArray) (⟨#[100, 101]⟩ : ByteArray) (by decide) rfl (by decide) (by decide) rfl (by decide) (by decide) w hG).mono (by rintro e w' ⟨rfl, h⟩; exact ⟨by first | rfl | decide, h⟩)
   ·exact (impl_high.w4_0 w hG).mono (by rintro e w' ⟨rfl, h⟩; exact ⟨by first | rfl | decide, h⟩)
   ·exact (impl_high.w5_0 w hG).mono (by rintro e w' ⟨rfl, h⟩; exact ⟨by first | rfl | decide, h⟩)
   ·exact (impl_high.w6_0 w hG).mono (by rintro e w' ⟨rfl, h⟩; exact ⟨by first | rfl | decide, h⟩)
   ·exact (impl_high.w7_0 w hG).mono (by rintro e w' ⟨rfl, h⟩; exact ⟨by first | rfl | decide, h⟩)
  ·rcases hy with rfl | rfl | rfl | rfl | rfl | rfl | rfl | rfl
   ·exact (impl_high.w0_1 w hG).mono (by rintro e w' ⟨rfl, h⟩; exact ⟨by first | rfl | decide, h⟩)
   ·exact (impl_high.w1_1 w hG).mono (by rintro e w' ⟨rfl, h⟩; exact ⟨by first | rfl | decide, h⟩)
   ·exact (impl_high.w2_1 w hG).mono (by rintro e w' ⟨rfl, h⟩; exact ⟨by first | rfl | decide, h⟩)
   ·exact (impl_high.w3_1 w hG).mono (by rintro e w' ⟨rfl, h⟩; exact ⟨by first | rfl | decide, h⟩)
   ·exact (impl_high.w4_1 w hG).mono (by rintro e w' ⟨rfl, h⟩; exact ⟨by first | rfl | decide, h⟩)
   ·exact (impl_high.w5_1 w hG).mono (by rintro e w' ⟨rfl, h⟩; exact ⟨by first | rfl | decide, h⟩)
   ·exact (impl_high.w6_1 w hG).mono (by rintro e w' ⟨rfl, h⟩; exact ⟨by first | rfl | decide, h⟩)
   ·exact (impl_high.w7_1 w hG).mono (by rintro e w' ⟨rfl, h⟩; exact ⟨by first | rfl | decide, h⟩)
  ·rcases hy with rfl | rfl | rfl | rfl | rfl | rfl | rfl | rfl
   ·exact (impl_high.s2 0 (⟨#[110, 122]⟩ : ByteArray) (⟨#[98, 99]⟩ : ByteArray) (by decide) rfl (by decide) (by decide) rfl (by decide) (by decide) w hG).mono (by rintro e w' ⟨rfl, h⟩; exact ⟨by first | rfl | decide, h⟩)
   ·exact (impl_high.s2 1 (⟨#[122]⟩ : ByteArray) (⟨#[98, 99]⟩ : ByteArray) (by decide) rfl (by decide) (by decide) rfl (by decide) (by decide) w hG).mono (by rintro e w' ⟨rfl, h⟩; exact ⟨by first | rfl | decide, h⟩)
   ·exact (impl_high.s2 2 (⟨#[110, 99]⟩ : ByteArray) (⟨#[100, 101]⟩ : ByteArray) (by decide) rfl (by decide) (by decide) rfl (by decide) (by decide) w hG).mono (by rintro e w' ⟨rfl, h⟩; exact ⟨by first | rfl | decide, h⟩)
   ·exact (impl_high.s2 3 (⟨#[99]⟩ : ByteArray) (⟨#[100, 101]⟩ : ByteArray) (by decide) rfl (by decide) (by decide) rfl (by decide) (by decide) w hG).mono (by rintro e w' ⟨rfl, h⟩; exact ⟨by first | rfl | decide, h⟩)
   ·exact (impl_high.w4_2 w hG).mono (by rintro e w' ⟨rfl, h⟩; exact ⟨by first | rfl | decide, h⟩)
   ·exact (impl_high.w5_2 w hG).mono (by rintro e w' ⟨rfl, h⟩; exact ⟨by first | rfl | decide, h⟩)
   ·exact (impl_high.w6_2 w hG).mono (by rintro e w' ⟨rfl, h⟩; exact ⟨by first | rfl | decide, h⟩)
   ·exact (impl_high.w7_2 w hG).mono (by rintro e w' ⟨rfl, h⟩; exact ⟨by first | rfl | decide, h⟩)
  ·rcases hy with rfl | rfl | rfl | rfl | rfl | rfl | rfl | rfl
   ·exact (impl_high.w0_3 w hG).mono (by rintro e w' ⟨rfl, h⟩; exact ⟨by first | rfl | decide, h⟩)
   ·exact (impl_high.w1_3 w hG).mono (by rintro e w' ⟨rfl, h⟩; exact ⟨by first | rfl | decide, h⟩)
   ·exact (impl_high.w2_3 w hG).mono (by rintro e w' ⟨rfl, h⟩; exact ⟨by first | rfl | decide, h⟩)
   ·exact (impl_high.w3_3 w hG).mono (by rintro e w' ⟨rfl, h⟩; exact ⟨by first | rfl | decide, h⟩)
   ·exact (impl_high.w4_3 w hG).mono (by rintro e w' ⟨rfl, h⟩; exact ⟨by first | rfl | decide, h⟩)
   ·exact (impl_high.w5_3 w hG).mono (by rintro e w' ⟨rfl, h⟩; exact ⟨by first | rfl | decide, h⟩)
   ·exact (impl_high.w6_3 w hG).mono (by rintro e w' ⟨rfl, h⟩; exact ⟨by first | rfl | decide, h⟩)
   ·exact (impl_high.w7_3 w hG).mono (by rintro e w' ⟨rfl, h⟩; exact ⟨by first | rfl | decide, h⟩)
  ·rcases hy with rfl | rfl | rfl | rfl | rfl | rfl | rfl | rfl
   ·exact (impl_high.s4 0 (⟨#[110, 122]⟩ : ByteArray) (⟨#[98, 99]⟩ : ByteArray) (by decide) rfl (by decide) (by decide) rfl (by decide) (by decide) w hG).mono (by rintro e w' ⟨rfl, h⟩; exact ⟨by first | rfl | decide, h⟩)
   ·exact (impl_high.s4 1 (⟨#[122]⟩ : ByteArray) (⟨#[98, 99]⟩ : ByteArray) (by decide) rfl (by decide) (by decide) rfl (by decide) (by decide) w hG).mono (by rintro e w' ⟨rfl, h⟩; exact ⟨by first | rfl | decide, h⟩)
   ·exact (impl_high.s4 2 (⟨#[110, 99]⟩ : ByteArray) (⟨#[100, 101]⟩ : ByteArray) (by decide) rfl (by decide) (by decide) rfl (by decide) (by decide) w hG).mono (by rintro e w' ⟨rfl, h⟩; exact ⟨by first | rfl | decide, h⟩)
   ·exact (impl_high.s4 3 (⟨#[99]⟩ : ByteArray) (⟨#[100, 101]⟩ : ByteArray) (by decide) rfl (by decide) (by decide) rfl (by decide) (by decide) w hG).mono (by rintro e w' ⟨rfl, h⟩; exact ⟨by first | rfl | decide, h⟩)
   ·exact (impl_high.w4_4 w hG).mono (by rintro e w' ⟨rfl, h⟩; exact ⟨by first | rfl | decide, h⟩)
   ·exact (impl_high.w5_4 w hG).mono (by rintro e w' ⟨rfl, h⟩; exact ⟨by first | rfl | decide, h⟩)
   ·exact (impl_high.w6_4 w hG).mono (by rintro e w' ⟨rfl, h⟩; exact ⟨by first | rfl | decide, h⟩)
   ·exact (impl_high.w7_4 w hG).mono (by rintro e w' ⟨rfl, h⟩; exact ⟨by first | rfl | decide, h⟩)
  ·rcases hy with rfl | rfl | rfl | rfl | rfl | rfl | rfl | rfl
   ·exact (impl_high.w0_5 w hG).mono (by rintro e w' ⟨rfl, h⟩; exact ⟨by first | rfl | decide, h⟩)
   ·exact (impl_high.w1_5 w hG).mono (by rintro e w' ⟨rfl, h⟩; exact ⟨by first | rfl | decide, h⟩)
   ·exact (impl_high.w2_5 w hG).mono (by rintro e w' ⟨rfl, h⟩; exact ⟨by first | rfl | decide, h⟩)
   ·exact (impl_high.w3_5 w hG).mono (by rintro e w' ⟨rfl, h⟩; exact ⟨by first | rfl | decide, h⟩)
   ·exact (impl_high.w4_5 w hG).mono (by rintro e w' ⟨rfl, h⟩; exact ⟨by first | rfl | decide, h⟩)
   ·exact (impl_high.w5_5 w hG).mono (by rintro e w' ⟨rfl, h⟩; exact ⟨by first | rfl | decide, h⟩)
   ·exact (impl_high.w6_5 w hG).mono (by rintro e w' ⟨rfl, h⟩; exact ⟨by first | rfl | decide, h⟩)
   ·exact (impl_high.w7_5 w hG).mono (by rintro e w' ⟨rfl, h⟩; exact ⟨by first | rfl | decide, h⟩)
  ·rcases hy with rfl | rfl | rfl | rfl | rfl | rfl | rfl | rfl
   ·exact (impl_high.s6 0 (⟨#[97, 100, 100]⟩ : ByteArray) (⟨#[98, 99]⟩ : ByteArray) rfl (by decide) (by decide) rfl (by decide) (by decide) w hG).mono (by rintro e w' ⟨rfl, h⟩; exact ⟨by first | rfl | decide, h⟩)
   ·exact (impl_high.s6 1 (⟨#[97, 100, 99]⟩ : ByteArray) (⟨#[98, 99]⟩ : ByteArray) rfl (by decide) (by decide) rfl (by decide) (by decide) w hG).mono (by rintro e w' ⟨rfl, h⟩; exact ⟨by first | rfl | decide, h⟩)
   ·exact (impl_high.s6 2 (⟨#[115, 117, 98]⟩ : ByteArray) (⟨#[100, 101]⟩ : ByteArray) rfl (by decide) (by decide) rfl (by decide) (by decide) w hG).mono (by rintro e w' ⟨rfl, h⟩; exact ⟨by first | rfl | decide, h⟩)
   ·exact (impl_high.s6 3 (⟨#[115, 98, 99]⟩ : ByteArray) (⟨#[100, 101]⟩ : ByteArray) rfl (by decide) (by decide) rfl (by decide) (by decide) w hG).mono (by rintro e w' ⟨rfl, h⟩; exact ⟨by first | rfl | decide, h⟩)
   ·exact (impl_high.s6 4 (⟨#[97, 110, 100]⟩ : ByteArray) (⟨#[104, 108]⟩ : ByteArray) rfl (by decide) (by decide) rfl (by decide) (by decide) w hG).mono (by rintro e w' ⟨rfl, h⟩; exact ⟨by first | rfl | decide, h⟩)
   ·exact (impl_high.s6 5 (⟨#[120, 111, 114]⟩ : ByteArray) (⟨#[104, 108]⟩ : ByteArray) rfl (by decide) (by decide) rfl (by decide) (by decide) w hG).mono (by rintro e w' ⟨rfl, h⟩; exact ⟨by first | rfl | decide, h⟩)
   ·exact (impl_high.s6 6 (⟨#[111, 114]⟩ : ByteArray) (⟨#[97, 102]⟩ : ByteArray) rfl (by decide) (by decide) rfl (by decide) (by decide) w hG).mono (by rintro e w' ⟨rfl, h⟩; exact ⟨by first | rfl | decide, h⟩)
   ·exact (impl_high.s6 7 (⟨#[99, 112]⟩ : ByteArray) (⟨#[97, 102]⟩ : ByteArray) rfl (by decide) (by decide) rfl (by decide) (by decide) w hG).mono (by rintro e w' ⟨rfl, h⟩; exact ⟨by first | rfl | decide, h⟩)
  ·rcases hy with rfl | rfl | rfl | rfl | rfl | rfl | rfl | rfl
   ·exact (impl_high.w0_7 w hG).mono (by rintro e w' ⟨rfl, h⟩; exact ⟨by first | rfl | decide, h⟩)
   ·exact (impl_high.w1_7 w hG).mono (by rintro e w' ⟨rfl, h⟩; exact ⟨by first | rfl | decide, h⟩)
   ·exact (impl_high.w2_7 w hG).mono (by rintro e w' ⟨rfl, h⟩; exact ⟨by first | rfl | decide, h⟩)
   ·exact (impl_high.w3_7 w hG).mono (by rintro e w' ⟨rfl, h⟩; exact ⟨by first | rfl | decide, h⟩)
   ·exact (impl_high.w4_7 w hG).mono (by rintro e w' ⟨rfl, h⟩; exact ⟨by first | rfl | decide, h⟩)
   ·exact (impl_high.w5_7 w hG).mono (by rintro e w' ⟨rfl, h⟩; exact ⟨by first | rfl | decide, h⟩)
   ·exact (impl_high.w6_7 w hG).mono (by rintro e w' ⟨rfl, h⟩; exact ⟨by first | rfl | decide, h⟩)
   ·exact (impl_high.w7_7 w hG).mono (by rintro e w' ⟨rfl, h⟩; exact ⟨by first | rfl | decide, h⟩)
 ·rw [if_neg hr] at h
  cases h

/-! ### impl_regs: function 37 -/
/-! ### impl_TemplateOf: function 13 -/
open Go.Proofs.YtmiebnpmckjidaaGreatDoor.Aid
set_option maxRecDepth 100000 in
set_option maxHeartbeats 8000000 in
theorem impl_TemplateOf.namesC (s : ByteArray) (arr : Array Value) (k : Nat) (hk : Go.Lib.countB s ⟨#[32]⟩ + 1 = k) (harr : ((Go.Lib.splitB ⟨#[32]⟩ 0 (Go.Lib.countB s ⟨#[32]⟩) s).map Value.string).toArray = arr) (hs : s.size < 4294967281) (w : World) (hG : GW w) :
    Calls Tryz.prog 38 #[.string s] w fun e w' => e = .returned (.slice (some ⟨w.heap.size, 0, none⟩) k k) ∧ w' = w.alloc (.cells arr 9) := by
  obtain ⟨m, hm⟩ := hG.maxlen
  have hc := Tryz.strings_Split s ⟨#[32]⟩ m w hs hm (by decide)
  rw [hk, harr] at hc
  clear hk harr
  go_enter Tryz.func38, Tryz.ntmps38
  go_wp2_with (go_at_call 59; refine hc.mono ?_; rintro e w' ⟨rfl, rfl⟩)
  (first | go_ret | (apply bodyPost_ret; (exact results_tmp rfl _ _ _); rfl))
  exact ⟨rfl, rfl⟩
def impl_TemplateOf.regsArr : Array Value := #[.string (⟨#[98]⟩ : ByteArray), .string (⟨#[99]⟩ : ByteArray), .string (⟨#[100]⟩ : ByteArray), .string (⟨#[101]⟩ : ByteArray), .string (⟨#[104]⟩ : ByteArray), .string (⟨#[108]⟩ : ByteArray), .string (⟨#[91, 104, 108, 93]⟩ : ByteArray), .string (⟨#[97]⟩ : ByteArray)]
theorem impl_TemplateOf.regsC (w : World) (hG : GW w) : Calls Tryz.prog 37 #[] w fun e w' => e = .returned (.slice (some ⟨w.heap.size, 0, none⟩) 8 8) ∧ w' = w.alloc (.cells impl_TemplateOf.regsArr 9) := by
  have hc := impl_TemplateOf.namesC (⟨#[98, 32, 99, 32, 100, 32, 101, 32, 104, 32, 108, 32, 91, 104, 108, 93, 32, 97]⟩ : ByteArray) impl_TemplateOf.regsArr 8 (by kernel_rfl) (by kernel_rfl) (by decide) w hG
  go_enter Tryz.func37, Tryz.ntmps37
  go_wp2_with (go_at_call 38; refine hc.mono ?_; rintro e w' ⟨rfl, rfl⟩)
  (first | go_ret | (apply bodyPost_ret; (exact results_tmp rfl _ _ _); rfl))
  exact ⟨rfl, rfl⟩
def impl_TemplateOf.alusArr : Array Value := #[.string (⟨#[97, 100, 100]⟩ : ByteArray), .string (⟨#[97, 100, 99]⟩ : ByteArray), .string (⟨#[115, 117, 98]⟩ : ByteArray), .string (⟨#[115, 98, 99]⟩ : ByteArray), .string (⟨#[97, 110, 100]⟩ : ByteArray), .string (⟨#[120, 111, 114]⟩ : ByteArray), .string (⟨#[111, 114]⟩ : ByteArray), .string (⟨#[99, 112]⟩ : ByteArray)]
theorem impl_TemplateOf.alusC (w : World) (hG : GW w) : Calls Tryz.prog 36 #[] w fun e w' => e = .returned (.slice (some ⟨w.heap.size, 0, none⟩) 8 8) ∧ w' = w.alloc (.cells impl_TemplateOf.alusArr 9) := by
  have hc := impl_TemplateOf.namesC (⟨#[97, 100, 100, 32, 97, 100, 99, 32, 115, 117, 98, 32, 115, 98, 99, 32, 97, 110, 100, 32, 120, 111, 114, 32, 111, 114, 32, 99, 112]⟩ : ByteArray) impl_TemplateOf.alusArr 8 (by kernel_rfl) (by kernel_rfl) (by decide) w hG
  go_enter Tryz.func36, Tryz.ntmps36
  go_wp2_with (go_at_call 38; refine hc.mono ?_; rintro e w' ⟨rfl, rfl⟩)
  (first | go_ret | (apply bodyPost_ret; (exact results_tmp rfl _ _ _); rfl))
  exact ⟨rfl, rfl⟩
theorem impl_TemplateOf.regs_at : ∀ y : Nat, y < 8 → impl_TemplateOf.regsArr[y]? = some (.string (regsL.getD y ⟨#[]⟩)) ∧ (regsL.getD y ⟨#[]⟩).size ≤ 100
  | 0, _ => ⟨rfl, by decide⟩
  | 1, _ => ⟨rfl, by decide⟩
  | 2, _ => ⟨rfl, by decide⟩
  | 3, _ => ⟨rfl, by decide⟩
  | 4, _ => ⟨rfl, by decide⟩
  | 5, _ => ⟨rfl, by decide⟩
  | 6, _ => ⟨rfl, by decide⟩
  | 7, _ => ⟨rfl, by decide⟩
  | n + 8, h => absurd h (by omega)
theorem impl_TemplateOf.alus_at : ∀ y : Nat, y < 8 → impl_TemplateOf.alusArr[y]? = some (.string (alusL.getD y ⟨#[]⟩)) ∧ (alusL.getD y ⟨#[]⟩).size ≤ 100
  | 0, _ => ⟨rfl, by decide⟩
  | 1, _ => ⟨rfl, by decide⟩
  | 2, _ => ⟨rfl, by decide⟩
  | 3, _ => ⟨rfl, by decide⟩
  | 4, _ => ⟨rfl, by decide⟩
  | 5, _ => ⟨rfl, by decide⟩
  | 6, _ => ⟨rfl, by decide⟩
  | 7, _ => ⟨rfl, by decide⟩
  | n + 8, h => absurd h (by omega)
set_option maxRecDepth 100000 in
set_option maxHeartbeats 8000000 in
theorem impl_TemplateOf.pf (c d : Int) (x y z : Nat) (r : ByteArray) (b0 : 0 ≤ c) (b1 : c ≤ 255) (e1 : IntKind.i64.wrap (c.tdiv 64) = (x : Int)) (e2 : IntKind.i64.wrap (c.tdiv 8) = d) (e3 : d.tmod 8 = (y : Int)) (e4 : c.tmod 8 = (z : Int)) (hr : impl_prefixed.f (x : Int) (y : Int) (z : Int) = some r)  (w : World) (hG : GW w) : Calls Tryz.prog 13 #[.int .i64 c, .bool true] w fun e w' => e = .returned (.string (r)) ∧ Below w.heap.size w w' := by
  have HG := Aside0.mk hG
  clear hG
  go_enter Tryz.func13, Tryz.ntmps13
  go_wp2_with (first | (go_at_call 33; refine (impl_prefixed.calls _ _ _ r _ ?hg hr).mono ?_; (case hg => repeat (first | exact HG.out | apply GW.alloc | apply GW.drewN | apply GW.drew)); rintro e w' ⟨rfl, hb⟩) | go_in)
  (first | go_ret | (apply bodyPost_ret; (exact results_tmp rfl _ _ _); rfl))
  exact ⟨by first | rfl | decide, by repeat (first | exact Below.refl _ _ | exact below_step (by repeat (first | exact Below.refl _ _ | apply below_alloc | apply pw_below_drewN | apply below_drew)) hb | apply below_alloc | apply pw_below_drewN | apply below_drew)⟩
set_option maxRecDepth 100000 in
set_option maxHeartbeats 8000000 in
theorem impl_TemplateOf.lo (c d : Int) (y z : Nat) (r : ByteArray) (b0 : 0 ≤ c) (b1 : c ≤ 255) (e1 : IntKind.i64.wrap (c.tdiv 64) = 0) (e2 : IntKind.i64.wrap (c.tdiv 8) = d) (e3 : d.tmod 8 = (y : Int)) (e4 : c.tmod 8 = (z : Int)) (hr : impl_low.f (y : Int) (z : Int) = some r)  (w : World) (hG : GW w) : Calls Tryz.prog 13 #[.int .i64 c, .bool false] w fun e w' => e = .returned (.string (r)) ∧ Below w.heap.size w w' := by
  have HG := Aside0.mk hG
  clear hG
  go_enter Tryz.func13, Tryz.ntmps13
  go_wp2_with (first | (go_at_call 34; refine (impl_low.calls _ _ r _ ?hg hr).mono ?_; (case hg => repeat (first | exact HG.out | apply GW.alloc | apply GW.drewN | apply GW.drew)); rintro e w' ⟨rfl, hb⟩) | go_in)
  (first | go_ret | (apply bodyPost_ret; (exact results_tmp rfl _ _ _); rfl))
  exact ⟨by first | rfl | decide, by repeat (first | exact Below.refl _ _ | exact below_step (by repeat (first | exact Below.refl _ _ | apply below_alloc | apply pw_below_drewN | apply below_drew)) hb | apply below_alloc | apply pw_below_drewN | apply below_drew)⟩
set_option maxRecDepth 100000 in
set_option maxHeartbeats 8000000 in
theorem impl_TemplateOf.hi (c d : Int) (y z : Nat) (r : ByteArray) (b0 : 0 ≤ c) (b1 : c ≤ 255) (e1 : IntKind.i64.wrap (c.tdiv 64) = 3) (e2 : IntKind.i64.wrap (c.tdiv 8) = d) (e3 : d.tmod 8 = (y : Int)) (e4 : c.tmod 8 = (z : Int)) (hr : impl_high.f (y : Int) (z : Int) = some r)  (w : World) (hG : GW w) : Calls Tryz.prog 13 #[.int .i64 c, .bool false] w fun e w' => e = .returned (.string (r)) ∧ Below w.heap.size w w' := by
  have HG := Aside0.mk hG
  clear hG
  go_enter Tryz.func13, Tryz.ntmps13
  go_wp2_with (first | (go_at_call 35; refine (impl_high.calls _ _ r _ ?hg hr).mono ?_; (case hg => repeat (first | exact HG.out | apply GW.alloc | apply GW.drewN | apply GW.drew)); rintro e w' ⟨rfl, hb⟩) | go_in)
  (first | go_ret | (apply bodyPost_ret; (exact results_tmp rfl _ _ _); rfl))
  exact ⟨by first | rfl | decide, by repeat (first | exact Below.refl _ _ | exact below_step (by repeat (first | exact Below.refl _ _ | apply below_alloc | apply pw_below_drewN | apply below_drew)) hb | apply below_alloc | apply pw_below_drewN | apply below_drew)⟩
set_option maxRecDepth 100000 in
set_option maxHeartbeats 8000000 in
theorem impl_TemplateOf.alu (c d : Int) (y z : Nat) (s t : ByteArray) (b0 : 0 ≤ c) (b1 : c ≤ 255) (e1 : IntKind.i64.wrap (c.tdiv 64) = 2) (e2 : IntKind.i64.wrap (c.tdiv 8) = d) (e3 : d.tmod 8 = (y : Int)) (e4 : c.tmod 8 = (z : Int)) (hs : impl_TemplateOf.alusArr[y]? = some (.string s)) (ls : (y : Int) < 8) (zs : s.size ≤ 100) (ht : impl_TemplateOf.regsArr[z]? = some (.string t)) (lt : (z : Int) < 8) (zt : t.size ≤ 100) (w : World) (hG : GW w) : Calls Tryz.prog 13 #[.int .i64 c, .bool false] w fun e w' => e = .returned (.string ((s ++ (⟨#[32, 97, 44]⟩ : ByteArray)) ++ t)) ∧ Below w.heap.size w w' := by
  have HG := Aside0.mk hG
  clear hG
  go_enter Tryz.func13, Tryz.ntmps13
  go_wp2
  go_region_with (first | (go_at_call 36; refine (impl_TemplateOf.alusC _ ?hg).mono ?_; (case hg => repeat (first | exact HG.out | apply GW.alloc | apply GW.drewN | apply GW.drew)); rintro e w' ⟨rfl, rfl⟩) | (go_at_call 37; refine (impl_TemplateOf.regsC _ ?hg).mono ?_; (case hg => repeat (first | exact HG.out | apply GW.alloc | apply GW.drewN | apply GW.drew)); rintro e w' ⟨rfl, rfl⟩))
  all_goals go_wp2
  all_goals ((first | go_ret | (apply bodyPost_ret; (exact results_tmp rfl _ _ _); rfl)); exact ⟨by first | rfl | decide, by repeat (first | exact Below.refl _ _ | apply below_alloc | apply pw_below_drewN | apply below_drew)⟩)
set_option maxRecDepth 100000 in
set_option maxHeartbeats 8000000 in
theorem impl_TemplateOf.ld (c d : Int) (y z : Nat) (s t : ByteArray) (b0 : 0 ≤ c) (b1 : c ≤ 255) (h18 : ¬ c = 118) (e1 : IntKind.i64.wrap (c.tdiv 64) = 1) (e2 : IntKind.i64.wrap (c.tdiv 8) = d) (e3 : d.tmod 8 = (y : Int)) (e4 : c.tmod 8 = (z : Int)) (hs : impl_TemplateOf.regsArr[y]? = some (.string s)) (ls : (y : Int) < 8) (zs : s.size ≤ 100) (ht : impl_TemplateOf.regsArr[z]? = some (.string t)) (lt : (z : Int) < 8) (zt : t.size ≤ 100) (w : World) (hG : GW w) : Calls Tryz.prog 13 #[.int .i64 c, .bool false] w fun e w' => e = .returned (.string ((((⟨#[108, 100, 32]⟩ : ByteArray) ++ s) ++ ⟨#[44]⟩) ++ t)) ∧ Below w.heap.size w w' := by
  have HG := Aside0.mk hG
  clear hG
  go_enter Tryz.func13, Tryz.ntmps13
  go_wp2
  go_region_with (go_at_call 37; refine (impl_TemplateOf.regsC _ ?hg).mono ?_; (case hg => repeat (first | exact HG.out | apply GW.alloc | apply GW.drewN | apply GW.drew)); rintro e w' ⟨rfl, rfl⟩)
  all_goals go_wp2
  all_goals ((first | go_ret | (apply bodyPost_ret; (exact results_tmp rfl _ _ _); rfl)); exact ⟨by first | rfl | decide, by repeat (first | exact Below.refl _ _ | apply below_alloc | apply pw_below_drewN | apply below_drew)⟩)
set_option maxRecDepth 100000 in
set_option maxHeartbeats 8000000 in
theorem impl_TemplateOf.halt (w : World) : Calls Tryz.prog 13 #[.int .i64 118, .bool false] w fun e w' => e = .returned (.string (⟨#[104, 97, 108, 116]⟩ : ByteArray)) ∧ Below w.heap.size w w' := by
  go_enter Tryz.func13, Tryz.ntmps13
  go_wp2
  (first | go_ret | (apply bodyPost_ret; (exact results_tmp rfl _ _ _); rfl))
  exact ⟨by first | rfl | decide, by repeat (first | exact Below.refl _ _ | apply below_alloc | apply pw_below_drewN | apply below_drew)⟩
set_option maxRecDepth 100000 in
set_option maxHeartbeats 8000000 in
theorem impl_TemplateOf.out (c : Int) (cb : Bool) (h : c < 0 ∨ 255 < c) (w : World) : Calls Tryz.prog 13 #[.int .i64 c, .bool cb] w fun e w' => e = .returned (.string ⟨#[]⟩) ∧ Below w.heap.size w w' := by
  rcases h with h | h
  · have b0 : ¬ 0 ≤ c := by omega
    go_enter Tryz.func13, Tryz.ntmps13
    go_wp2
    (first | go_ret | (apply bodyPost_ret; (exact results_tmp rfl _ _ _); rfl))
    exact ⟨by first | rfl | decide, by repeat (first | exact Below.refl _ _ | apply below_alloc | apply pw_below_drewN | apply below_drew)⟩
  · have b0 : 0 ≤ c := by omega
    have b1 : ¬ c ≤ 255 := by omega
    go_enter Tryz.func13, Tryz.ntmps13
    go_wp2
    (first | go_ret | (apply bodyPost_ret; (exact results_tmp rfl _ _ _); rfl))
    exact ⟨by first | rfl | decide, by repeat (first | exact Below.refl _ _ | apply below_alloc | apply pw_below_drewN | apply below_drew)⟩
def impl_TemplateOf.f (a0 : Int) (a1 : Bool) : Option ByteArray := some (if 0 ≤ a0 ∧ a0 < 256 then tmplT a0.toNat a1 else ⟨#[]⟩)
theorem impl_TemplateOf.calls (a0 : Int) (a1 : Bool) (r : ByteArray) (w : World) (hG : GW w) (h : impl_TemplateOf.f a0 a1 = some r) :
 Calls Tryz.prog 13 #[.int .i64 a0, .bool a1] w fun e w' => e = .returned (.string r) ∧ Below w.heap.size w w' := by
 unfold impl_TemplateOf.f at h
 obtain rfl := Option.some.inj h
 by_cases hr : 0 ≤ a0 ∧ a0 < 256
 ·rw [if_pos hr]
  obtain ⟨n, rfl⟩ : ∃ n : Nat, a0 = (n : Int) := ⟨a0.toNat, by omega⟩
  have hn : n < 256 := by omega
  have e2 := div_w (n := n) (k := 8) hn (by decide)
  have e3 := mod_w (n / 8) 8
  have e4 := mod_w n 8
  have e1 := div_w (n := n) (k := 64) hn (by decide)
  have hy : n / 8 % 8 < 8 := by omega
  have hz : n % 8 < 8 := by omega
  have hyi : ((n / 8 % 8 : Nat) : Int) < 8 := by omega
  have hzi : ((n % 8 : Nat) : Int) < 8 := by omega
  rw [Int.toNat_natCast]
  cases a1 with
  | true =>
   have := impl_TemplateOf.pf (n : Int) _ (n / 64) _ _ _ (by omega) (by omega) e1 e2 e3 e4 (by unfold impl_prefixed.f; rw [if_pos ⟨⟨by omega, by omega⟩, ⟨by omega, hyi⟩, ⟨by omega, hzi⟩⟩, show (64 * ((n / 64 : Nat) : Int) + 8 * ((n / 8 % 8 : Nat) : Int) + ((n % 8 : Nat) : Int)).toNat = n by omega]) w hG
   exact this
  | false =>
   by_cases h1 : n < 64
   ·rw [show ((n / 64 : Nat) : Int) = 0 by omega] at e1
    rw [show tmplT n false = _ from by unfold tmplT; rw [if_neg (by decide), if_pos h1]]
    exact impl_TemplateOf.lo (n : Int) _ _ _ _ (by omega) (by omega) e1 e2 e3 e4 (by unfold impl_low.f; rw [if_pos ⟨⟨by omega, hyi⟩, ⟨by omega, hzi⟩⟩, show (8 * ((n % 8 : Nat) : Int) + ((n / 8 % 8 : Nat) : Int)).toNat = 8 * (n % 8) + n / 8 % 8 by omega]) w hG
   ·by_cases h18 : n = 118
    ·subst h18
     exact impl_TemplateOf.halt w
    ·have hc : ¬ (n : Int) = 118 := by omega
     by_cases h2 : n < 128
     ·rw [show ((n / 64 : Nat) : Int) = 1 by omega] at e1
      rw [show tmplT n false = _ from by unfold tmplT; rw [if_neg (by decide), if_neg h1, if_neg h18, if_pos h2]]
      exact impl_TemplateOf.ld (n : Int) _ _ _ _ _ (by omega) (by omega) hc e1 e2 e3 e4 (impl_TemplateOf.regs_at _ hy).1 hyi (impl_TemplateOf.regs_at _ hy).2 (impl_TemplateOf.regs_at _ hz).1 hzi (impl_TemplateOf.regs_at _ hz).2 w hG
     ·by_cases h3 : n < 192
      ·rw [show ((n / 64 : Nat) : Int) = 2 by omega] at e1
       rw [show tmplT n false = _ from by unfold tmplT; rw [if_neg (by decide), if_neg h1, if_neg h18, if_neg h2, if_pos h3]]
       exact impl_TemplateOf.alu (n : Int) _ _ _ _ _ (by omega) (by omega) e1 e2 e3 e4 (impl_TemplateOf.alus_at _ hy).1 hyi (impl_TemplateOf.alus_at _ hy).2 (impl_TemplateOf.regs_at _ hz).1 hzi (impl_TemplateOf.regs_at _ hz).2 w hG
      ·rw [show ((n / 64 : Nat) : Int) = 3 by omega] at e1
       rw [show tmplT n false = _ from by unfold tmplT; rw [if_neg (by decide), if_neg h1, if_neg h18, if_neg h2, if_neg h3]]
       exact impl_TemplateOf.hi (n : Int) _ _ _ _ (by omega) (by omega) e1 e2 e3 e4 (by unfold impl_high.f; rw [if_pos ⟨⟨by omega, hyi⟩, ⟨by omega, hzi⟩⟩, show (8 * ((n % 8 : Nat) : Int) + ((n / 8 % 8 : Nat) : Int)).toNat = 8 * (n % 8) + n / 8 % 8 by omega]) w hG
 ·rw [if_neg hr]
  exact impl_TemplateOf.out a0 a1 (by omega) w

/-! ### strings_Contains: function 39 -/
def strings_Contains.f (a0 a1 : ByteArray) : Option Bool := if a0.size < 4294967281 then some (Go.Lib.contains a0.data.toList a1.data.toList) else none
theorem strings_Contains.calls (a0 a1 : ByteArray) (r : Bool) (w : World) (hG : GW w) (h : strings_Contains.f a0 a1 = some r) :
 Calls Tryz.prog 39 #[.string a0, .string a1] w fun e w' => e = .returned (.bool r) ∧ Below w.heap.size w w' := by
 unfold strings_Contains.f at h
 by_cases h0 : a0.size < 4294967281
 ·rw [if_pos h0] at h
  obtain rfl := Option.some.inj h
  obtain ⟨m, hm⟩ := hG.maxlen
  refine (Tryz.strings_Contains a0 a1 m w h0 hm).mono ?_
  rintro e w' ⟨rfl, rfl⟩
  exact ⟨rfl, Below.refl _ _⟩
 ·rw [if_neg h0] at h
  cases h

end Go.Proofs.YtmiebnpmckjidaaGreatDoor.PFnExactReadInsText
