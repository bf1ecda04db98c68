/- What the Go functions that the law FnExactReadInsText reaches compute, function by function, and that Go comes to just that. -/
import Derived.Test.YtmiebnpmckjidaaGreatDoorPFnExactReadInsTextx0
import Derived.Test.YtmiebnpmckjidaaGreatDoorAidZ
import Derived.Test.YtmiebnpmckjidaaGreatDoorPFnExactReadInsTextx1
namespace Go.Proofs.YtmiebnpmckjidaaGreatDoor.PFnExactReadInsText
open Go.RowKit Go.Proofs.YtmiebnpmckjidaaGreatDoor.Z Go.Proofs.YtmiebnpmckjidaaGreatDoorW.PrintWords Go.Proofs.YtmiebnpmckjidaaGreatDoorW.PrintLast Go.Proofs.YtmiebnpmckjidaaGreatDoorW.PrintMore
attribute [local go_sem] max2_int min2_int max_two min_two max_three min_three max_four min_four   -- for this text's walks alone
set_option linter.unusedVariables false
set_option linter.unusedSimpArgs false

/-! ### spec_l3Top: function 26 -/
open Go.Proofs.YtmiebnpmckjidaaGreatDoor.Aid
def spec_l3Top.alusArr : Array Value := #[.string (⟨#[97, 100, 100]⟩ : ByteArray), .string (⟨#[97, 100, 99]⟩ : ByteArray), .string (⟨#[115, 117, 98]⟩ : ByteArray), .string (⟨#[115, 98, 99]⟩ : ByteArray), .string (⟨#[97, 110, 100]⟩ : ByteArray), .string (⟨#[120, 111, 114]⟩ : ByteArray), .string (⟨#[111, 114]⟩ : ByteArray), .string (⟨#[99, 112]⟩ : ByteArray)]
theorem spec_l3Top.alusC (w : World) : Calls Tryz.prog 25 #[] w fun e w' => e = .returned (.slice (some ⟨w.heap.size, 0, none⟩) 8 8) ∧ w' = w.alloc (.cells spec_l3Top.alusArr 9) := by
  go_enter Tryz.func25, Tryz.ntmps25
  go_wp2
  (first | go_ret | (apply bodyPost_ret; (exact results_tmp rfl _ _ _); rfl))
  exact ⟨rfl, rfl⟩
def spec_l3Top.condsArr : Array Value := #[.string (⟨#[110, 122]⟩ : ByteArray), .string (⟨#[122]⟩ : ByteArray), .string (⟨#[110, 99]⟩ : ByteArray), .string (⟨#[99]⟩ : ByteArray)]
theorem spec_l3Top.condsC (w : World) : Calls Tryz.prog 50 #[] w fun e w' => e = .returned (.slice (some ⟨w.heap.size, 0, none⟩) 4 4) ∧ w' = w.alloc (.cells spec_l3Top.condsArr 9) := by
  go_enter Tryz.func50, Tryz.ntmps50
  go_wp2
  (first | go_ret | (apply bodyPost_ret; (exact results_tmp rfl _ _ _); rfl))
  exact ⟨rfl, rfl⟩
set_option maxRecDepth 100000 in
set_option maxHeartbeats 8000000 in
theorem spec_l3Top.s0 (y : Nat) (s : ByteArray) (h4 : (y : Int) < 4) (hs : spec_l3Top.condsArr[y]? = some (.string s)) (ls : (y : Int) < 4) (zs : s.size ≤ 100) (w : World) : Calls Tryz.prog 26 #[.int .i64 (y : Int), .int .i64 0] w fun e w' => e = .returned (.string ((⟨#[114, 101, 116, 32]⟩ : ByteArray) ++ s)) ∧ Below w.heap.size w w' := by
  go_enter Tryz.func26, Tryz.ntmps26
  go_wp2_with (go_at_call 50; refine (spec_l3Top.condsC _).mono ?_; rintro e w' ⟨rfl, rfl⟩)
  (first | go_ret | (apply bodyPost_ret; (exact results_tmp rfl _ _ _); rfl))
  exact ⟨by first | rfl | decide, by repeat (first | exact Below.refl _ _ | apply below_alloc | apply pw_below_drewN | apply below_drew)⟩
set_option maxRecDepth 100000 in
set_option maxHeartbeats 8000000 in
theorem spec_l3Top.w4_0 (w : World) : Calls Tryz.prog 26 #[.int .i64 4, .int .i64 0] w fun e w' => e = .returned (.string (⟨#[108, 100, 104, 32, 91, 110, 56, 93, 44, 97]⟩ : ByteArray)) ∧ Below w.heap.size w w' := by
  go_enter Tryz.func26, Tryz.ntmps26
  go_wp2
  (first | go_ret | (apply bodyPost_ret; (exact results_tmp rfl _ _ _); rfl))
  exact ⟨by first | rfl | decide, by repeat (first | exact Below.refl _ _ | apply below_alloc | apply pw_below_drewN | apply below_drew)⟩
set_option maxRecDepth 100000 in
set_option maxHeartbeats 8000000 in
theorem spec_l3Top.w5_0 (w : World) : Calls Tryz.prog 26 #[.int .i64 5, .int .i64 0] w fun e w' => e = .returned (.string (⟨#[97, 100, 100, 32, 115, 112, 44, 101, 56]⟩ : ByteArray)) ∧ Below w.heap.size w w' := by
  go_enter Tryz.func26, Tryz.ntmps26
  go_wp2
  (first | go_ret | (apply bodyPost_ret; (exact results_tmp rfl _ _ _); rfl))
  exact ⟨by first | rfl | decide, by repeat (first | exact Below.refl _ _ | apply below_alloc | apply pw_below_drewN | apply below_drew)⟩
set_option maxRecDepth 100000 in
set_option maxHeartbeats 8000000 in
theorem spec_l3Top.w6_0 (w : World) : Calls Tryz.prog 26 #[.int .i64 6, .int .i64 0] w fun e w' => e = .returned (.string (⟨#[108, 100, 104, 32, 97, 44, 91, 110, 56, 93]⟩ : ByteArray)) ∧ Below w.heap.size w w' := by
  go_enter Tryz.func26, Tryz.ntmps26
  go_wp2
  (first | go_ret | (apply bodyPost_ret; (exact results_tmp rfl _ _ _); rfl))
  exact ⟨by first | rfl | decide, by repeat (first | exact Below.refl _ _ | apply below_alloc | apply pw_below_drewN | apply below_drew)⟩
set_option maxRecDepth 100000 in
set_option maxHeartbeats 8000000 in
theorem spec_l3Top.w7_0 (w : World) : Calls Tryz.prog 26 #[.int .i64 7, .int .i64 0] w fun e w' => e = .returned (.string (⟨#[108, 100, 32, 104, 108, 44, 115, 112, 43, 101, 56]⟩ : ByteArray)) ∧ Below w.heap.size w w' := by
  go_enter Tryz.func26, Tryz.ntmps26
  go_wp2
  (first | go_ret | (apply bodyPost_ret; (exact results_tmp rfl _ _ _); rfl))
  exact ⟨by first | rfl | decide, by repeat (first | exact Below.refl _ _ | apply below_alloc | apply pw_below_drewN | apply below_drew)⟩
set_option maxRecDepth 100000 in
set_option maxHeartbeats 8000000 in
theorem spec_l3Top.s2 (y : Nat) (s : ByteArray) (h4 : (y : Int) < 4) (hs : spec_l3Top.condsArr[y]? = some (.string s)) (ls : (y : Int) < 4) (zs : s.size ≤ 100) (w : World) : Calls Tryz.prog 26 #[.int .i64 (y : Int), .int .i64 2] w fun e w' => e = .returned (.string (((⟨#[106, 112, 32]⟩ : ByteArray) ++ s) ++ (⟨#[44, 110, 49, 54]⟩ : ByteArray))) ∧ Below w.heap.size w w' := by
  go_enter Tryz.func26, Tryz.ntmps26
  go_wp2_with (go_at_call 50; refine (spec_l3Top.condsC _).mono ?_; rintro e w' ⟨rfl, rfl⟩)
  (first | go_ret | (apply bodyPost_ret; (exact results_tmp rfl _ _ _); rfl))
  exact ⟨by first | rfl | decide, by repeat (first | exact Below.refl _ _ | apply below_alloc | apply pw_below_drewN | apply below_drew)⟩
set_option maxRecDepth 100000 in
set_option maxHeartbeats 8000000 in
theorem spec_l3Top.w4_2 (w : World) : Calls Tryz.prog 26 #[.int .i64 4, .int .i64 2] w fun e w' => e = .returned (.string (⟨#[108, 100, 104, 32, 91, 99, 93, 44, 97]⟩ : ByteArray)) ∧ Below w.heap.size w w' := by
  go_enter Tryz.func26, Tryz.ntmps26
  go_wp2
  (first | go_ret | (apply bodyPost_ret; (exact results_tmp rfl _ _ _); rfl))
  exact ⟨by first | rfl | decide, by repeat (first | exact Below.refl _ _ | apply below_alloc | apply pw_below_drewN | apply below_drew)⟩
set_option maxRecDepth 100000 in
set_option maxHeartbeats 8000000 in
theorem spec_l3Top.w5_2 (w : World) : Calls Tryz.prog 26 #[.int .i64 5, .int .i64 2] w fun e w' => e = .returned (.string (⟨#[108, 100, 32, 91, 110, 49, 54, 93, 44, 97]⟩ : ByteArray)) ∧ Below w.heap.size w w' := by
  go_enter Tryz.func26, Tryz.ntmps26
  go_wp2
  (first | go_ret | (apply bodyPost_ret; (exact results_tmp rfl _ _ _); rfl))
  exact ⟨by first | rfl | decide, by repeat (first | exact Below.refl _ _ | apply below_alloc | apply pw_below_drewN | apply below_drew)⟩
set_option maxRecDepth 100000 in
set_option maxHeartbeats 8000000 in
theorem spec_l3Top.w6_2 (w : World) : Calls Tryz.prog 26 #[.int .i64 6, .int .i64 2] w fun e w' => e = .returned (.string (⟨#[108, 100, 104, 32, 97, 44, 91, 99, 93]⟩ : ByteArray)) ∧ Below w.heap.size w w' := by
  go_enter Tryz.func26, Tryz.ntmps26
  go_wp2
  (first | go_ret | (apply bodyPost_ret; (exact results_tmp rfl _ _ _); rfl))
  exact ⟨by first | rfl | decide, by repeat (first | exact Below.refl _ _ | apply below_alloc | apply pw_below_drewN | apply below_drew)⟩
set_option maxRecDepth 100000 in
set_option maxHeartbeats 8000000 in
theorem spec_l3Top.w7_2 (w : World) : Calls Tryz.prog 26 #[.int .i64 7, .int .i64 2] w fun e w' => e = .returned (.string (⟨#[108, 100, 32, 97, 44, 91, 110, 49, 54, 93]⟩ : ByteArray)) ∧ Below w.heap.size w w' := by
  go_enter Tryz.func26, Tryz.ntmps26
  go_wp2
  (first | go_ret | (apply bodyPost_ret; (exact results_tmp rfl _ _ _); rfl))
  exact ⟨by first | rfl | decide, by repeat (first | exact Below.refl _ _ | apply below_alloc | apply pw_below_drewN | apply below_drew)⟩
set_option maxRecDepth 100000 in
set_option maxHeartbeats 8000000 in
theorem spec_l3Top.s4 (y : Nat) (s : ByteArray) (h4 : (y : Int) < 4) (hs : spec_l3Top.condsArr[y]? = some (.string s)) (ls : (y : Int) < 4) (zs : s.size ≤ 100) (w : World) : Calls Tryz.prog 26 #[.int .i64 (y : Int), .int .i64 4] w fun e w' => e = .returned (.string (((⟨#[99, 97, 108, 108, 32]⟩ : ByteArray) ++ s) ++ (⟨#[44, 110, 49, 54]⟩ : ByteArray))) ∧ Below w.heap.size w w' := by
  go_enter Tryz.func26, Tryz.ntmps26
  go_wp2_with (go_at_call 50; refine (spec_l3Top.condsC _).mono ?_; rintro e w' ⟨rfl, rfl⟩)
  (first | go_ret | (apply bodyPost_ret; (exact results_tmp rfl _ _ _); rfl))
  exact ⟨by first | rfl | decide, by repeat (first | exact Below.refl _ _ | apply below_alloc | apply pw_below_drewN | apply below_drew)⟩
set_option maxRecDepth 100000 in
set_option maxHeartbeats 8000000 in
theorem spec_l3Top.w4_4 (w : World) : Calls Tryz.prog 26 #[.int .i64 4, .int .i64 4] w fun e w' => e = .returned (.string (⟨#[]⟩ : ByteArray)) ∧ Below w.heap.size w w' := by
  go_enter Tryz.func26, Tryz.ntmps26
  go_wp2
  (first | go_ret | (apply bodyPost_ret; (exact results_tmp rfl _ _ _); rfl))
  exact ⟨by first | rfl | decide, by repeat (first | exact Below.refl _ _ | apply below_alloc | apply pw_below_drewN | apply below_drew)⟩
set_option maxRecDepth 100000 in
set_option maxHeartbeats 8000000 in
theorem spec_l3Top.w5_4 (w : World) : Calls Tryz.prog 26 #[.int .i64 5, .int .i64 4] w fun e w' => e = .returned (.string (⟨#[]⟩ : ByteArray)) ∧ Below w.heap.size w w' := by
  go_enter Tryz.func26, Tryz.ntmps26
  go_wp2
  (first | go_ret | (apply bodyPost_ret; (exact results_tmp rfl _ _ _); rfl))
  exact ⟨by first | rfl | decide, by repeat (first | exact Below.refl _ _ | apply below_alloc | apply pw_below_drewN | apply below_drew)⟩
set_option maxRecDepth 100000 in
set_option maxHeartbeats 8000000 in
theorem spec_l3Top.w6_4 (w : World) : Calls Tryz.prog 26 #[.int .i64 6, .int .i64 4] w fun e w' => e = .returned (.string (⟨#[]⟩ : ByteArray)) ∧ Below w.heap.size w w' := by
  go_enter Tryz.func26, Tryz.ntmps26
  go_wp2
  (first | go_ret | (apply bodyPost_ret; (exact results_tmp rfl _ _ _); rfl))
  exact ⟨by first | rfl | decide, by repeat (first | exact Below.refl _ _ | apply below_alloc | apply pw_below_drewN | apply below_drew)⟩
set_option maxRecDepth 100000 in
set_option maxHeartbeats 8000000 in
theorem spec_l3Top.w7_4 (w : World) : Calls Tryz.prog 26 #[.int .i64 7, .int .i64 4] w fun e w' => e = .returned (.string (⟨#[]⟩ : ByteArray)) ∧ Below w.heap.size w w' := by
  go_enter Tryz.func26, Tryz.ntmps26
  go_wp2
  (first | go_ret | (apply bodyPost_ret; (exact results_tmp rfl _ _ _); rfl))
  exact ⟨by first | rfl | decide, by repeat (first | exact Below.refl _ _ | apply below_alloc | apply pw_below_drewN | apply below_drew)⟩
set_option maxRecDepth 100000 in
set_option maxHeartbeats 8000000 in
theorem spec_l3Top.w0_1 (w : World) : Calls Tryz.prog 26 #[.int .i64 0, .int .i64 1] w fun e w' => e = .returned (.string (⟨#[112, 111, 112, 32, 98, 99]⟩ : ByteArray)) ∧ Below w.heap.size w w' := by
  go_enter Tryz.func26, Tryz.ntmps26
  go_wp2
  (first | go_ret | (apply bodyPost_ret; (exact results_tmp rfl _ _ _); rfl))
  exact ⟨by first | rfl | decide, by repeat (first | exact Below.refl _ _ | apply below_alloc | apply pw_below_drewN | apply below_drew)⟩
set_option maxRecDepth 100000 in
set_option maxHeartbeats 8000000 in
theorem spec_l3Top.w1_1 (w : World) : Calls Tryz.prog 26 #[.int .i64 1, .int .i64 1] w fun e w' => e = .returned (.string (⟨#[114, 101, 116]⟩ : ByteArray)) ∧ Below w.heap.size w w' := by
  go_enter Tryz.func26, Tryz.ntmps26
  go_wp2
  (first | go_ret | (apply bodyPost_ret; (exact results_tmp rfl _ _ _); rfl))
  exact ⟨by first | rfl | decide, by repeat (first | exact Below.refl _ _ | apply below_alloc | apply pw_below_drewN | apply below_drew)⟩
set_option maxRecDepth 100000 in
set_option maxHeartbeats 8000000 in
theorem spec_l3Top.w2_1 (w : World) : Calls Tryz.prog 26 #[.int .i64 2, .int .i64 1] w fun e w' => e = .returned (.string (⟨#[112, 111, 112, 32, 100, 101]⟩ : ByteArray)) ∧ Below w.heap.size w w' := by
  go_enter Tryz.func26, Tryz.ntmps26
  go_wp2
  (first | go_ret | (apply bodyPost_ret; (exact results_tmp rfl _ _ _); rfl))
  exact ⟨by first | rfl | decide, by repeat (first | exact Below.refl _ _ | apply below_alloc | apply pw_below_drewN | apply below_drew)⟩
set_option maxRecDepth 100000 in
set_option maxHeartbeats 8000000 in
theorem spec_l3Top.w3_1 (w : World) : Calls Tryz.prog 26 #[.int .i64 3, .int .i64 1] w fun e w' => e = .returned (.string (⟨#[114, 101, 116, 105]⟩ : ByteArray)) ∧ Below w.heap.size w w' := by
  go_enter Tryz.func26, Tryz.ntmps26
  go_wp2
  (first | go_ret | (apply bodyPost_ret; (exact results_tmp rfl _ _ _); rfl))
  exact ⟨by first | rfl | decide, by repeat (first | exact Below.refl _ _ | apply below_alloc | apply pw_below_drewN | apply below_drew)⟩
set_option maxRecDepth 100000 in
set_option maxHeartbeats 8000000 in
theorem spec_l3Top.w4_1 (w : World) : Calls Tryz.prog 26 #[.int .i64 4, .int .i64 1] w fun e w' => e = .returned (.string (⟨#[112, 111, 112, 32, 104, 108]⟩ : ByteArray)) ∧ Below w.heap.size w w' := by
  go_enter Tryz.func26, Tryz.ntmps26
  go_wp2
  (first | go_ret | (apply bodyPost_ret; (exact results_tmp rfl _ _ _); rfl))
  exact ⟨by first | rfl | decide, by repeat (first | exact Below.refl _ _ | apply below_alloc | apply pw_below_drewN | apply below_drew)⟩
set_option maxRecDepth 100000 in
set_option maxHeartbeats 8000000 in
theorem spec_l3Top.w5_1 (w : World) : Calls Tryz.prog 26 #[.int .i64 5, .int .i64 1] w fun e w' => e = .returned (.string (⟨#[106, 112, 32, 104, 108]⟩ : ByteArray)) ∧ Below w.heap.size w w' := by
  go_enter Tryz.func26, Tryz.ntmps26
  go_wp2
  (first | go_ret | (apply bodyPost_ret; (exact results_tmp rfl _ _ _); rfl))
  exact ⟨by first | rfl | decide, by repeat (first | exact Below.refl _ _ | apply below_alloc | apply pw_below_drewN | apply below_drew)⟩
set_option maxRecDepth 100000 in
set_option maxHeartbeats 8000000 in
theorem spec_l3Top.w6_1 (w : World) : Calls Tryz.prog 26 #[.int .i64 6, .int .i64 1] w fun e w' => e = .returned (.string (⟨#[112, 111, 112, 32, 97, 102]⟩ : ByteArray)) ∧ Below w.heap.size w w' := by
  go_enter Tryz.func26, Tryz.ntmps26
  go_wp2
  (first | go_ret | (apply bodyPost_ret; (exact results_tmp rfl _ _ _); rfl))
  exact ⟨by first | rfl | decide, by repeat (first | exact Below.refl _ _ | apply below_alloc | apply pw_below_drewN | apply below_drew)⟩
set_option maxRecDepth 100000 in
set_option maxHeartbeats 8000000 in
theorem spec_l3Top.w7_1 (w : World) : Calls Tryz.prog 26 #[.int .i64 7, .int .i64 1] w fun e w' => e = .returned (.string (⟨#[108, 100, 32, 115, 112, 44, 104, 108]⟩ : ByteArray)) ∧ Below w.heap.size w w' := by
  go_enter Tryz.func26, Tryz.ntmps26
  go_wp2
  (first | go_ret | (apply bodyPost_ret; (exact results_tmp rfl _ _ _); rfl))
  exact ⟨by first | rfl | decide, by repeat (first | exact Below.refl _ _ | apply below_alloc | apply pw_below_drewN | apply below_drew)⟩
set_option maxRecDepth 100000 in
set_option maxHeartbeats 8000000 in
theorem spec_l3Top.w0_3 (w : World) : Calls Tryz.prog 26 #[.int .i64 0, .int .i64 3] w fun e w' => e = .returned (.string (⟨#[106, 112, 32, 110, 49, 54]⟩ : ByteArray)) ∧ Below w.heap.size w w' := by
  go_enter Tryz.func26, Tryz.ntmps26
  go_wp2
  (first | go_ret | (apply bodyPost_ret; (exact results_tmp rfl _ _ _); rfl))
  exact ⟨by first | rfl | decide, by repeat (first | exact Below.refl _ _ | apply below_alloc | apply pw_below_drewN | apply below_drew)⟩
set_option maxRecDepth 100000 in
set_option maxHeartbeats 8000000 in
theorem spec_l3Top.w1_3 (w : World) : Calls Tryz.prog 26 #[.int .i64 1, .int .i64 3] w fun e w' => e = .returned (.string (⟨#[]⟩ : ByteArray)) ∧ Below w.heap.size w w' := by
  go_enter Tryz.func26, Tryz.ntmps26
  go_wp2
  (first | go_ret | (apply bodyPost_ret; (exact results_tmp rfl _ _ _); rfl))
  exact ⟨by first | rfl | decide, by repeat (first | exact Below.refl _ _ | apply below_alloc | apply pw_below_drewN | apply below_drew)⟩
set_option maxRecDepth 100000 in
set_option maxHeartbeats 8000000 in
theorem spec_l3Top.w2_3 (w : World) : Calls Tryz.prog 26 #[.int .i64 2, .int .i64 3] w fun e w' => e = .returned (.string (⟨#[]⟩ : ByteArray)) ∧ Below w.heap.size w w' := by
  go_enter Tryz.func26, Tryz.ntmps26
  go_wp2
  (first | go_ret | (apply bodyPost_ret; (exact results_tmp rfl _ _ _); rfl))
  exact ⟨by first | rfl | decide, by repeat (first | exact Below.refl _ _ | apply below_alloc | apply pw_below_drewN | apply below_drew)⟩
set_option maxRecDepth 100000 in
set_option maxHeartbeats 8000000 in
theorem spec_l3Top.w3_3 (w : World) : Calls Tryz.prog 26 #[.int .i64 3, .int .i64 3] w fun e w' => e = .returned (.string (⟨#[]⟩ : ByteArray)) ∧ Below w.heap.size w w' := by
  go_enter Tryz.func26, Tryz.ntmps26
  go_wp2
  (first | go_ret | (apply bodyPost_ret; (exact results_tmp rfl _ _ _); rfl))
  exact ⟨by first | rfl | decide, by repeat (first | exact Below.refl _ _ | apply below_alloc | apply pw_below_drewN | apply below_drew)⟩
set_option maxRecDepth 100000 in
set_option maxHeartbeats 8000000 in
theorem spec_l3Top.w4_3 (w : World) : Calls Tryz.prog 26 #[.int .i64 4, .int .i64 3] w fun e w' => e = .returned (.string (⟨#[]⟩ : ByteArray)) ∧ Below w.heap.size w w' := by
  go_enter Tryz.func26, Tryz.ntmps26
  go_wp2
  (first | go_ret | (apply bodyPost_ret; (exact results_tmp rfl _ _ _); rfl))
  exact ⟨by first | rfl | decide, by repeat (first | exact Below.refl _ _ | apply below_alloc | apply pw_below_drewN | apply below_drew)⟩
set_option maxRecDepth 100000 in
set_option maxHeartbeats 8000000 in
theorem spec_l3Top.w5_3 (w : World) : Calls Tryz.prog 26 #[.int .i64 5, .int .i64 3] w fun e w' => e = .returned (.string (⟨#[]⟩ : ByteArray)) ∧ Below w.heap.size w w' := by
  go_enter Tryz.func26, Tryz.ntmps26
  go_wp2
  (first | go_ret | (apply bodyPost_ret; (exact results_tmp rfl _ _ _); rfl))
  exact ⟨by first | rfl | decide, by repeat (first | exact Below.refl _ _ | apply below_alloc | apply pw_below_drewN | apply below_drew)⟩
set_option maxRecDepth 100000 in
set_option maxHeartbeats 8000000 in
theorem spec_l3Top.w6_3 (w : World) : Calls Tryz.prog 26 #[.int .i64 6, .int .i64 3] w fun e w' => e = .returned (.string (⟨#[100, 105]⟩ : ByteArray)) ∧ Below w.heap.size w w' := by
  go_enter Tryz.func26, Tryz.ntmps26
  go_wp2
  (first | go_ret | (apply bodyPost_ret; (exact results_tmp rfl _ _ _); rfl))
  exact ⟨by first | rfl | decide, by repeat (first | exact Below.refl _ _ | apply below_alloc | apply pw_below_drewN | apply below_drew)⟩
set_option maxRecDepth 100000 in
set_option maxHeartbeats 8000000 in
theorem spec_l3Top.w7_3 (w : World) : Calls Tryz.prog 26 #[.int .i64 7, .int .i64 3] w fun e w' => e = .returned (.string (⟨#[101, 105]⟩ : ByteArray)) ∧ Below w.heap.size w w' := by
  go_enter Tryz.func26, Tryz.ntmps26
  go_wp2
  (first | go_ret | (apply bodyPost_ret; (exact results_tmp rfl _ _ _); rfl))
  exact ⟨by first | rfl | decide, by repeat (first | exact Below.refl _ _ | apply below_alloc | apply pw_below_drewN | apply below_drew)⟩
set_option maxRecDepth 100000 in
set_option maxHeartbeats 8000000 in
theorem spec_l3Top.w0_5 (w : World) : Calls Tryz.prog 26 #[.int .i64 0, .int .i64 5] w fun e w' => e = .returned (.string (⟨#[112, 117, 115, 104, 32, 98, 99]⟩ : ByteArray)) ∧ Below w.heap.size w w' := by
  go_enter Tryz.func26, Tryz.ntmps26
  go_wp2
  (first | go_ret | (apply bodyPost_ret; (exact results_tmp rfl _ _ _); rfl))
  exact ⟨by first | rfl | decide, by repeat (first | exact Below.refl _ _ | apply below_alloc | apply pw_below_drewN | apply below_drew)⟩
set_option maxRecDepth 100000 in
set_option maxHeartbeats 8000000 in
theorem spec_l3Top.w1_5 (w : World) : Calls Tryz.prog 26 #[.int .i64 1, .int .i64 5] w fun e w' => e = .returned (.string (⟨#[99, 97, 108, 108, 32, 110, 49, 54]⟩ : ByteArray)) ∧ Below w.heap.size w w' := by
  go_enter Tryz.func26, Tryz.ntmps26
  go_wp2
  (first | go_ret | (apply bodyPost_ret; (exact results_tmp rfl _ _ _); rfl))
  exact ⟨by first | rfl | decide, by repeat (first | exact Below.refl _ _ | apply below_alloc | apply pw_below_drewN | apply below_drew)⟩
set_option maxRecDepth 100000 in
set_option maxHeartbeats 8000000 in
theorem spec_l3Top.w2_5 (w : World) : Calls Tryz.prog 26 #[.int .i64 2, .int .i64 5] w fun e w' => e = .returned (.string (⟨#[112, 117, 115, 104, 32, 100, 101]⟩ : ByteArray)) ∧ Below w.heap.size w w' := by
  go_enter Tryz.func26, Tryz.ntmps26
  go_wp2
  (first | go_ret | (apply bodyPost_ret; (exact results_tmp rfl _ _ _); rfl))
  exact ⟨by first | rfl | decide, by repeat (first | exact Below.refl _ _ | apply below_alloc | apply pw_below_drewN | apply below_drew)⟩
set_option maxRecDepth 100000 in
set_option maxHeartbeats 8000000 in
theorem spec_l3Top.w3_5 (w : World) : Calls Tryz.prog 26 #[.int .i64 3, .int .i64 5] w fun e w' => e = .returned (.string (⟨#[]⟩ : ByteArray)) ∧ Below w.heap.size w w' := by
  go_enter Tryz.func26, Tryz.ntmps26
  go_wp2
  (first | go_ret | (apply bodyPost_ret; (exact results_tmp rfl _ _ _); rfl))
  exact ⟨by first | rfl | decide, by repeat (first | exact Below.refl _ _ | apply below_alloc | apply pw_below_drewN | apply below_drew)⟩
set_option maxRecDepth 100000 in
set_option maxHeartbeats 8000000 in
theorem spec_l3Top.w4_5 (w : World) : Calls Tryz.prog 26 #[.int .i64 4, .int .i64 5] w fun e w' => e = .returned (.string (⟨#[112, 117, 115, 104, 32, 104, 108]⟩ : ByteArray)) ∧ Below w.heap.size w w' := by
  go_enter Tryz.func26, Tryz.ntmps26
  go_wp2
  (first | go_ret | (apply bodyPost_ret; (exact results_tmp rfl _ _ _); rfl))
  exact ⟨by first | rfl | decide, by repeat (first | exact Below.refl _ _ | apply below_alloc | apply pw_below_drewN | apply below_drew)⟩
set_option maxRecDepth 100000 in
set_option maxHeartbeats 8000000 in
theorem spec_l3Top.w5_5 (w : World) : Calls Tryz.prog 26 #[.int .i64 5, .int .i64 5] w fun e w' => e = .returned (.string (⟨#[]⟩ : ByteArray)) ∧ Below w.heap.size w w' := by
  go_enter Tryz.func26, Tryz.ntmps26
  go_wp2
  (first | go_ret | (apply bodyPost_ret; (exact results_tmp rfl _ _ _); rfl))
  exact ⟨by first | rfl | decide, by repeat (first | exact Below.refl _ _ | apply below_alloc | apply pw_below_drewN | apply below_drew)⟩
set_option maxRecDepth 100000 in
set_option maxHeartbeats 8000000 in
theorem spec_l3Top.w6_5 (w : World) : Calls Tryz.prog 26 #[.int .i64 6, .int .i64 5] w fun e w' => e = .returned (.string (⟨#[112, 117, 115, 104, 32, 97, 102]⟩ : ByteArray)) ∧ Below w.heap.size w w' := by
  go_enter Tryz.func26, Tryz.ntmps26
  go_wp2
  (first | go_ret | (apply bodyPost_ret; (exact results_tmp rfl _ _ _); rfl))
  exact ⟨by first | rfl | decide, by repeat (first | exact Below.refl _ _ | apply below_alloc | apply pw_below_drewN | apply below_drew)⟩
set_option maxRecDepth 100000 in
set_option maxHeartbeats 8000000 in
theorem spec_l3Top.w7_5 (w : World) : Calls Tryz.prog 26 #[.int .i64 7, .int .i64 5] w fun e w' => e = .returned (.string (⟨#[]⟩ : ByteArray)) ∧ Below w.heap.size w w' := by
  go_enter Tryz.func26, Tryz.ntmps26
  go_wp2
  (first | go_ret | (apply bodyPost_ret; (exact results_tmp rfl _ _ _); rfl))
  exact ⟨by first | rfl | decide, by repeat (first | exact Below.refl _ _ | apply below_alloc | apply pw_below_drewN | apply below_drew)⟩
set_option maxRecDepth 100000 in
set_option maxHeartbeats 8000000 in
theorem spec_l3Top.s6 (y : Nat) (s : ByteArray) (hs : spec_l3Top.alusArr[y]? = some (.string s)) (ls : (y : Int) < 8) (zs : s.size ≤ 100) (w : World) : Calls Tryz.prog 26 #[.int .i64 (y : Int), .int .i64 6] w fun e w' => e = .returned (.string (s ++ (⟨#[32, 97, 44, 110, 56]⟩ : ByteArray))) ∧ Below w.heap.size w w' := by
  go_enter Tryz.func26, Tryz.ntmps26
  go_wp2_with (go_at_call 25; refine (spec_l3Top.alusC _).mono ?_; rintro e w' ⟨rfl, rfl⟩)
  (first | go_ret | (apply bodyPost_ret; (exact results_tmp rfl _ _ _); rfl))
  exact ⟨by first | rfl | decide, by repeat (first | exact Below.refl _ _ | apply below_alloc | apply pw_below_drewN | apply below_drew)⟩
set_option maxRecDepth 100000 in
set_option maxHeartbeats 8000000 in
theorem spec_l3Top.w0_7 (w : World) : Calls Tryz.prog 26 #[.int .i64 0, .int .i64 7] w fun e w' => e = .returned (.string (⟨#[114, 115, 116, 32, 36, 48, 48]⟩ : ByteArray)) ∧ Below w.heap.size w w' := by
  go_enter Tryz.func26, Tryz.ntmps26
  go_wp2_with (go_at_call 30; refine (spec_HexOf.calls 10 _ _ (⟨#[36, 48, 48]⟩ : ByteArray) _ (by decide +kernel)).mono ?_; rintro e w' ⟨rfl, hdr⟩; have hb := hdr.below)
  (first | go_ret | (apply bodyPost_ret; (exact results_tmp rfl _ _ _); rfl))
  exact ⟨by first | rfl | decide, by repeat (first | exact Below.refl _ _ | exact below_step (by repeat (first | exact Below.refl _ _ | apply below_alloc | apply pw_below_drewN | apply below_drew)) hb | apply below_alloc | apply pw_below_drewN | apply below_drew)⟩
set_option maxRecDepth 100000 in
set_option maxHeartbeats 8000000 in
theorem spec_l3Top.w1_7 (w : World) : Calls Tryz.prog 26 #[.int .i64 1, .int .i64 7] w fun e w' => e = .returned (.string (⟨#[114, 115, 116, 32, 36, 48, 56]⟩ : ByteArray)) ∧ Below w.heap.size w w' := by
  go_enter Tryz.func26, Tryz.ntmps26
  go_wp2_with (go_at_call 30; refine (spec_HexOf.calls 10 _ _ (⟨#[36, 48, 56]⟩ : ByteArray) _ (by decide +kernel)).mono ?_; rintro e w' ⟨rfl, hdr⟩; have hb := hdr.below)
  (first | go_ret | (apply bodyPost_ret; (exact results_tmp rfl _ _ _); rfl))
  exact ⟨by first | rfl | decide, by repeat (first | exact Below.refl _ _ | exact below_step (by repeat (first | exact Below.refl _ _ | apply below_alloc | apply pw_below_drewN | apply below_drew)) hb | apply below_alloc | apply pw_below_drewN | apply below_drew)⟩
set_option maxRecDepth 100000 in
set_option maxHeartbeats 8000000 in
theorem spec_l3Top.w2_7 (w : World) : Calls Tryz.prog 26 #[.int .i64 2, .int .i64 7] w fun e w' => e = .returned (.string (⟨#[114, 115, 116, 32, 36, 49, 48]⟩ : ByteArray)) ∧ Below w.heap.size w w' := by
  go_enter Tryz.func26, Tryz.ntmps26
  go_wp2_with (go_at_call 30; refine (spec_HexOf.calls 10 _ _ (⟨#[36, 49, 48]⟩ : ByteArray) _ (by decide +kernel)).mono ?_; rintro e w' ⟨rfl, hdr⟩; have hb := hdr.below)
  (first | go_ret | (apply bodyPost_ret; (exact results_tmp rfl _ _ _); rfl))
  exact ⟨by first | rfl | decide, by repeat (first | exact Below.refl _ _ | exact below_step (by repeat (first | exact Below.refl _ _ | apply below_alloc | apply pw_below_drewN | apply below_drew)) hb | apply below_alloc | apply pw_below_drewN | apply below_drew)⟩
set_option maxRecDepth 100000 in
set_option maxHeartbeats 8000000 in
theorem spec_l3Top.w3_7 (w : World) : Calls Tryz.prog 26 #[.int .i64 3, .int .i64 7] w fun e w' => e = .returned (.string (⟨#[114, 115, 116, 32, 36, 49, 56]⟩ : ByteArray)) ∧ Below w.heap.size w w' := by
  go_enter Tryz.func26, Tryz.ntmps26
  go_wp2_with (go_at_call 30; refine (spec_HexOf.calls 10 _ _ (⟨#[36, 49, 56]⟩ : ByteArray) _ (by decide +kernel)).mono ?_; rintro e w' ⟨rfl, hdr⟩; have hb := hdr.below)
  (first | go_ret | (apply bodyPost_ret; (exact results_tmp rfl _ _ _); rfl))
  exact ⟨by first | rfl | decide, by repeat (first | exact Below.refl _ _ | exact below_step (by repeat (first | exact Below.refl _ _ | apply below_alloc | apply pw_below_drewN | apply below_drew)) hb | apply below_alloc | apply pw_below_drewN | apply below_drew)⟩
set_option maxRecDepth 100000 in
set_option maxHeartbeats 8000000 in
theorem spec_l3Top.w4_7 (w : World) : Calls Tryz.prog 26 #[.int .i64 4, .int .i64 7] w fun e w' => e = .returned (.string (⟨#[114, 115, 116, 32, 36, 50, 48]⟩ : ByteArray)) ∧ Below w.heap.size w w' := by
  go_enter Tryz.func26, Tryz.ntmps26
  go_wp2_with (go_at_call 30; refine (spec_HexOf.calls 10 _ _ (⟨#[36, 50, 48]⟩ : ByteArray) _ (by decide +kernel)).mono ?_; rintro e w' ⟨rfl, hdr⟩; have hb := hdr.below)
  (first | go_ret | (apply bodyPost_ret; (exact results_tmp rfl _ _ _); rfl))
  exact ⟨by first | rfl | decide, by repeat (first | exact Below.refl _ _ | exact below_step (by repeat (first | exact Below.refl _ _ | apply below_alloc | apply pw_below_drewN | apply below_drew)) hb | apply below_alloc | apply pw_below_drewN | apply below_drew)⟩
set_option maxRecDepth 100000 in
set_option maxHeartbeats 8000000 in
theorem spec_l3Top.w5_7 (w : World) : Calls Tryz.prog 26 #[.int .i64 5, .int .i64 7] w fun e w' => e = .returned (.string (⟨#[114, 115, 116, 32, 36, 50, 56]⟩ : ByteArray)) ∧ Below w.heap.size w w' := by
  go_enter Tryz.func26, Tryz.ntmps26
  go_wp2_with (go_at_call 30; refine (spec_HexOf.calls 10 _ _ (⟨#[36, 50, 56]⟩ : ByteArray) _ (by decide +kernel)).mono ?_; rintro e w' ⟨rfl, hdr⟩; have hb := hdr.below)
  (first | go_ret | (apply bodyPost_ret; (exact results_tmp rfl _ _ _); rfl))
  exact ⟨by first | rfl | decide, by repeat (first | exact Below.refl _ _ | exact below_step (by repeat (first | exact Below.refl _ _ | apply below_alloc | apply pw_below_drewN | apply below_drew)) hb | apply below_alloc | apply pw_below_drewN | apply below_drew)⟩
set_option maxRecDepth 100000 in
set_option maxHeartbeats 8000000 in
theorem spec_l3Top.w6_7 (w : World) : Calls Tryz.prog 26 #[.int .i64 6, .int .i64 7] w fun e w' => e = .returned (.string (⟨#[114, 115, 116, 32, 36, 51, 48]⟩ : ByteArray)) ∧ Below w.heap.size w w' := by
  go_enter Tryz.func26, Tryz.ntmps26
  go_wp2_with (go_at_call 30; refine (spec_HexOf.calls 10 _ _ (⟨#[36, 51, 48]⟩ : ByteArray) _ (by decide +kernel)).mono ?_; rintro e w' ⟨rfl, hdr⟩; have hb := hdr.below)
  (first | go_ret | (apply bodyPost_ret; (exact results_tmp rfl _ _ _); rfl))
  exact ⟨by first | rfl | decide, by repeat (first | exact Below.refl _ _ | exact below_step (by repeat (first | exact Below.refl _ _ | apply below_alloc | apply pw_below_drewN | apply below_drew)) hb | apply below_alloc | apply pw_below_drewN | apply below_drew)⟩
set_option maxRecDepth 100000 in
set_option maxHeartbeats 8000000 in
theorem spec_l3Top.w7_7 (w : World) : Calls Tryz.prog 26 #[.int .i64 7, .int .i64 7] w fun e w' => e = .returned (.string (⟨#[114, 115, 116, 32, 36, 51, 56]⟩ : ByteArray)) ∧ Below w.heap.size w w' := by
  go_enter Tryz.func26, Tryz.ntmps26
  go_wp2_with (go_at_call 30; refine (spec_HexOf.calls 10 _ _ (⟨#[36, 51, 56]⟩ : ByteArray) _ (by decide +kernel)).mono ?_; rintro e w' ⟨rfl, hdr⟩; have hb := hdr.below)
  (first | go_ret | (apply bodyPost_ret; (exact results_tmp rfl _ _ _); rfl))
  exact ⟨by first | rfl | decide, by repeat (first | exact Below.refl _ _ | exact below_step (by repeat (first | exact Below.refl _ _ | apply below_alloc | apply pw_below_drewN | apply below_drew)) hb | apply below_alloc | apply pw_below_drewN | apply below_drew)⟩
def spec_l3Top.f (a0 a1 : Int) : Option ByteArray := if (0 ≤ a0 ∧ a0 < 8) ∧ (0 ≤ a1 ∧ a1 < 8) then some (topL.getD (8 * a1 + a0).toNat ⟨#[]⟩) else none
theorem spec_l3Top.calls (a0 a1 : Int) (r : ByteArray) (w : World) (h : spec_l3Top.f a0 a1 = some r) :
 Calls Tryz.prog 26 #[.int .i64 a0, .int .i64 a1] w fun e w' => e = .returned (.string r) ∧ Below w.heap.size w w' := by
 unfold spec_l3Top.f at h
 by_cases hr : (0 ≤ a0 ∧ a0 < 8) ∧ (0 ≤ a1 ∧ a1 < 8)
 ·rw [if_pos hr] at h
  obtain rfl := Option.some.inj h
  have hy : a0 = 0 ∨ a0 = 1 ∨ a0 = 2 ∨ a0 = 3 ∨ a0 = 4 ∨ a0 = 5 ∨ a0 = 6 ∨ a0 = 7 := by omega
  have hz : a1 = 0 ∨ a1 = 1 ∨ a1 = 2 ∨ a1 = 3 ∨ a1 = 4 ∨ a1 = 5 ∨ a1 = 6 ∨ a1 = 7 := by omega
  clear hr h
  rcases hz with rfl | rfl | rfl | rfl | rfl | rfl | rfl | rfl
  ·rcases hy with rfl | rfl | rfl | rfl | rfl | rfl | rfl | rfl
   ·exact (spec_l3Top.s0 0 (⟨#[110, 122]⟩ : ByteArray) (by decide) rfl (by decide) (by decide) w).mono (by rintro e w' ⟨rfl, h⟩; exact ⟨by first | rfl | decide, h⟩)
   ·exact (spec_l3Top.s0 1 (⟨#[122]⟩ : ByteArray) (by decide) rfl (by decide) (by decide) w).mono (by rintro e w' ⟨rfl, h⟩; exact ⟨by first | rfl | decide, h⟩)
   ·exact (spec_l3Top.s0 2 (⟨#[110, 99]⟩ : ByteArray) (by decide) rfl (by decide) (by decide) w).mono (by rintro e w' ⟨rfl, h⟩; exact ⟨by first | rfl | decide, h⟩)
   ·exact (spec_l3Top.s0 3 (⟨#[99]⟩ : ByteArray) (by decide) rfl (by decide) (by decide) w).mono (by rintro e w' ⟨rfl, h⟩; exact ⟨by first | rfl | decide, h⟩)
   ·exact (spec_l3Top.w4_0 w).mono (by rintro e w' ⟨rfl, h⟩; exact ⟨by first | rfl | decide, h⟩)
   ·exact (spec_l3Top.w5_0 w).mono (by rintro e w' ⟨rfl, h⟩; exact ⟨by first | rfl | decide, h⟩)
   ·exact (spec_l3Top.w6_0 w).mono (by rintro e w' ⟨rfl, h⟩; exact ⟨by first | rfl | decide, h⟩)
   ·exact (spec_l3Top.w7_0 w).mono (by rintro e w' ⟨rfl, h⟩; exact ⟨by first | rfl | decide, h⟩)
  ·rcases hy with rfl | rfl | rfl | rfl | rfl | rfl | rfl | rfl
   ·exact (spec_l3Top.w0_1 w).mono (by rintro e w' ⟨rfl, h⟩; exact ⟨by first | rfl | decide, h⟩)
   ·exact (spec_l3Top.w1_1 w).mono (by rintro e w' ⟨rfl, h⟩; exact ⟨by first | rfl | decide, h⟩)
   ·exact (spec_l3Top.w2_1 w).mono (by rintro e w' ⟨rfl, h⟩; exact ⟨by first | rfl | decide, h⟩)
   ·exact (spec_l3Top.w3_1 w).mono (by rintro e w' ⟨rfl, h⟩; exact ⟨by first | rfl | decide, h⟩)
   ·exact (spec_l3Top.w4_1 w).mono (by rintro e w' ⟨rfl, h⟩; exact ⟨by first | rfl | decide, h⟩)
   ·exact (spec_l3Top.w5_1 w).mono (by rintro e w' ⟨rfl, h⟩; exact ⟨by first | rfl | decide, h⟩)
   ·exact (spec_l3Top.w6_1 w).mono (by rintro e w' ⟨rfl, h⟩; exact ⟨by first | rfl | decide, h⟩)
   ·exact (spec_l3Top.w7_1 w).mono (by rintro e w' ⟨rfl, h⟩; exact ⟨by first | rfl | decide, h⟩)
  ·rcases hy with rfl | rfl | rfl | rfl | rfl | rfl | rfl | rfl
   ·exact (spec_l3Top.s2 0 (⟨#[110, 122]⟩ : ByteArray) (by decide) rfl (by decide) (by decide) w).mono (by rintro e w' ⟨rfl, h⟩; exact ⟨by first | rfl | decide, h⟩)
   ·exact (spec_l3Top.s2 1 (⟨#[122]⟩ : ByteArray) (by decide) rfl (by decide) (by decide) w).mono (by rintro e w' ⟨rfl, h⟩; exact ⟨by first | rfl | decide, h⟩)
   ·exact (spec_l3Top.s2 2 (⟨#[110, 99]⟩ : ByteArray) (by decide) rfl (by decide) (by decide) w).mono (by rintro e w' ⟨rfl, h⟩; exact ⟨by first | rfl | decide, h⟩)
   ·exact (spec_l3Top.s2 3 (⟨#[99]⟩ : ByteArray) (by decide) rfl (by decide) (by decide) w).mono (by rintro e w' ⟨rfl, h⟩; exact ⟨by first | rfl | decide, h⟩)
   ·exact (spec_l3Top.w4_2 w).mono (by rintro e w' ⟨rfl, h⟩; exact ⟨by first | rfl | decide, h⟩)
   ·exact (spec_l3Top.w5_2 w).mono (by rintro e w' ⟨rfl, h⟩; exact ⟨by first | rfl | decide, h⟩)
   ·exact (spec_l3Top.w6_2 w).mono (by rintro e w' ⟨rfl, h⟩; exact ⟨by first | rfl | decide, h⟩)
   ·exact (spec_l3Top.w7_2 w).mono (by rintro e w' ⟨rfl, h⟩; exact ⟨by first | rfl | decide, h⟩)
  ·rcases hy with rfl | rfl | rfl | rfl | rfl | rfl | rfl | rfl
   ·exact (spec_l3Top.w0_3 w).mono (by rintro e w' ⟨rfl, h⟩; exact ⟨by first | rfl | decide, h⟩)
   ·exact (spec_l3Top.w1_3 w).mono (by rintro e w' ⟨rfl, h⟩; exact ⟨by first | rfl | decide, h⟩)
   ·exact (spec_l3Top.w2_3 w).mono (by rintro e w' ⟨rfl, h⟩; exact ⟨by first | rfl | decide, h⟩)
   ·exact (spec_l3Top.w3_3 w).mono (by rintro e w' ⟨rfl, h⟩; exact ⟨by first | rfl | decide, h⟩)
   ·exact (spec_l3Top.w4_3 w).mono (by rintro e w' ⟨rfl, h⟩; exact ⟨by first | rfl | decide, h⟩)
   ·exact (spec_l3Top.w5_3 w).mono (by rintro e w' ⟨rfl, h⟩; exact ⟨by first | rfl | decide, h⟩)
   ·exact (spec_l3Top.w6_3 w).mono (by rintro e w' ⟨rfl, h⟩; exact ⟨by first | rfl | decide, h⟩)
   ·exact (spec_l3Top.w7_3 w).mono (by rintro e w' ⟨rfl, h⟩; exact ⟨by first | rfl | decide, h⟩)
  ·rcases hy with rfl | rfl | rfl | rfl | rfl | rfl | rfl | rfl
   ·exact (spec_l3Top.s4 0 (⟨#[110, 122]⟩ : ByteArray) (by decide) rfl (by decide) (by decide) w).mono (by rintro e w' ⟨rfl, h⟩; exact ⟨by first | rfl | decide, h⟩)
   ·exact (spec_l3Top.s4 1 (⟨#[122]⟩ : ByteArray) (by decide) rfl (by decide) (by decide) w).mono (by rintro e w' ⟨rfl, h⟩; exact ⟨by first | rfl | decide, h⟩)
   ·exact (spec_l3Top.s4 2 (⟨#[110, 99]⟩ : ByteArray) (by decide) rfl (by decide) (by decide) w).mono (by rintro e w' ⟨rfl, h⟩; exact ⟨by first | rfl | decide, h⟩)
   ·exact (spec_l3Top.s4 3 (⟨#[99]⟩ : ByteArray) (by decide) rfl (by decide) (by decide) w).mono (by rintro e w' ⟨rfl, h⟩; exact ⟨by first | rfl | decide, h⟩)
   ·exact (spec_l3Top.w4_4 w).mono (by rintro e w' ⟨rfl, h⟩; exact ⟨by first | rfl | decide, h⟩)
   ·exact (spec_l3Top.w5_4 w).mono (by rintro e w' ⟨rfl, h⟩; exact ⟨by first | rfl | decide, h⟩)
   ·exact (spec_l3Top.w6_4 w).mono (by rintro e w' ⟨rfl, h⟩; exact ⟨by first | rfl | decide, h⟩)
   ·exact (spec_l3Top.w7_4 w).mono (by rintro e w' ⟨rfl, h⟩; exact ⟨by first | rfl | decide, h⟩)
  ·rcases hy with rfl | rfl | rfl | rfl | rfl | rfl | rfl | rfl
   ·exact (spec_l3Top.w0_5 w).mono (by rintro e w' ⟨rfl, h⟩; exact ⟨by first | rfl | decide, h⟩)
   ·exact (spec_l3Top.w1_5 w).mono (by rintro e w' ⟨rfl, h⟩; exact ⟨by first | rfl | decide, h⟩)
   ·exact (spec_l3Top.w2_5 w).mono (by rintro e w' ⟨rfl, h⟩; exact ⟨by first | rfl | decide, h⟩)
   ·exact (spec_l3Top.w3_5 w).mono (by rintro e w' ⟨rfl, h⟩; exact ⟨by first | rfl | decide, h⟩)
   ·exact (spec_l3Top.w4_5 w).mono (by rintro e w' ⟨rfl, h⟩; exact ⟨by first | rfl | decide, h⟩)
   ·exact (spec_l3Top.w5_5 w).mono (by rintro e w' ⟨rfl, h⟩; exact ⟨by first | rfl | decide, h⟩)
   ·exact (spec_l3Top.w6_5 w).mono (by rintro e w' ⟨rfl, h⟩; exact ⟨by first | rfl | decide, h⟩)
   ·exact (spec_l3Top.w7_5 w).mono (by rintro e w' ⟨rfl, h⟩; exact ⟨by first | rfl | decide, h⟩)
  ·rcases hy with rfl | rfl | rfl | rfl | rfl | rfl | rfl | rfl
   ·exact (spec_l3Top.s6 0 (⟨#[97, 100, 100]⟩ : ByteArray) rfl (by decide) (by decide) w).mono (by rintro e w' ⟨rfl, h⟩; exact ⟨by first | rfl | decide, h⟩)
   ·exact (spec_l3Top.s6 1 (⟨#[97, 100, 99]⟩ : ByteArray) rfl (by decide) (by decide) w).mono (by rintro e w' ⟨rfl, h⟩; exact ⟨by first | rfl | decide, h⟩)
   ·exact (spec_l3Top.s6 2 (⟨#[115, 117, 98]⟩ : ByteArray) rfl (by decide) (by decide) w).mono (by rintro e w' ⟨rfl, h⟩; exact ⟨by first | rfl | decide, h⟩)
   ·exact (spec_l3Top.s6 3 (⟨#[115, 98, 99]⟩ : ByteArray) rfl (by decide) (by decide) w).mono (by rintro e w' ⟨rfl, h⟩; exact ⟨by first | rfl | decide, h⟩)
   ·exact (spec_l3Top.s6 4 (⟨#[97, 110, 100]⟩ : ByteArray) rfl (by decide) (by decide) w).mono (by rintro e w' ⟨rfl, h⟩; exact ⟨by first | rfl | decide, h⟩)
   ·exact (spec_l3Top.s6 5 (⟨#[120, 111, 114]⟩ : ByteArray) rfl (by decide) (by decide) w).mono (by rintro e w' ⟨rfl, h⟩; exact ⟨by first | rfl | decide, h⟩)
   ·exact (spec_l3Top.s6 6 (⟨#[111, 114]⟩ : ByteArray) rfl (by decide) (by decide) w).mono (by rintro e w' ⟨rfl, h⟩; exact ⟨by first | rfl | decide, h⟩)
   ·exact (spec_l3Top.s6 7 (⟨#[99, 112]⟩ : ByteArray) rfl (by decide) (by decide) w).mono (by rintro e w' ⟨rfl, h⟩; exact ⟨by first | rfl | decide, h⟩)
  ·rcases hy with rfl | rfl | rfl | rfl | rfl | rfl | rfl | rfl
   ·exact (spec_l3Top.w0_7 w).mono (by rintro e w' ⟨rfl, h⟩; exact ⟨by first | rfl | decide, h⟩)
   ·exact (spec_l3Top.w1_7 w).mono (by rintro e w' ⟨rfl, h⟩; exact ⟨by first | rfl | decide, h⟩)
   ·exact (spec_l3Top.w2_7 w).mono (by rintro e w' ⟨rfl, h⟩; exact ⟨by first | rfl | decide, h⟩)
   ·exact (spec_l3Top.w3_7 w).mono (by rintro e w' ⟨rfl, h⟩; exact ⟨by first | rfl | decide, h⟩)
   ·exact (spec_l3Top.w4_7 w).mono (by rintro e w' ⟨rfl, h⟩; exact ⟨by first | rfl | decide, h⟩)
   ·exact (spec_l3Top.w5_7 w).mono (by rintro e w' ⟨rfl, h⟩; exact ⟨by first | rfl | decide, h⟩)
   ·exact (spec_l3Top.w6_7 w).mono (by rintro e w' ⟨rfl, h⟩; exact ⟨by first | rfl | decide, h⟩)
   ·exact (spec_l3Top.w7_7 w).mono (by rintro e w' ⟨rfl, h⟩; exact ⟨by first | rfl | decide, h⟩)
 ·rw [if_neg hr] at h
  cases h

/-! ### spec_l3Template: function 9 -/
open Go.Proofs.YtmiebnpmckjidaaGreatDoor.Aid
def spec_l3Template.turnsArr : Array Value := #[.string (⟨#[114, 108, 99]⟩ : ByteArray), .string (⟨#[114, 114, 99]⟩ : ByteArray), .string (⟨#[114, 108]⟩ : ByteArray), .string (⟨#[114, 114]⟩ : ByteArray), .string (⟨#[115, 108, 97]⟩ : ByteArray), .string (⟨#[115, 114, 97]⟩ : ByteArray), .string (⟨#[115, 119, 97, 112]⟩ : ByteArray), .string (⟨#[115, 114, 108]⟩ : ByteArray)]
theorem spec_l3Template.turnsC (w : World) : Calls Tryz.prog 21 #[] w fun e w' => e = .returned (.slice (some ⟨w.heap.size, 0, none⟩) 8 8) ∧ w' = w.alloc (.cells spec_l3Template.turnsArr 9) := by
  go_enter Tryz.func21, Tryz.ntmps21
  go_wp2
  (first | go_ret | (apply bodyPost_ret; (exact results_tmp rfl _ _ _); rfl))
  exact ⟨rfl, rfl⟩
def spec_l3Template.regsArr : Array Value := #[.string (⟨#[98]⟩ : ByteArray), .string (⟨#[99]⟩ : ByteArray), .string (⟨#[100]⟩ : ByteArray), .string (⟨#[101]⟩ : ByteArray), .string (⟨#[104]⟩ : ByteArray), .string (⟨#[108]⟩ : ByteArray), .string (⟨#[91, 104, 108, 93]⟩ : ByteArray), .string (⟨#[97]⟩ : ByteArray)]
theorem spec_l3Template.regsC (w : World) : Calls Tryz.prog 22 #[] w fun e w' => e = .returned (.slice (some ⟨w.heap.size, 0, none⟩) 8 8) ∧ w' = w.alloc (.cells spec_l3Template.regsArr 9) := by
  go_enter Tryz.func22, Tryz.ntmps22
  go_wp2
  (first | go_ret | (apply bodyPost_ret; (exact results_tmp rfl _ _ _); rfl))
  exact ⟨rfl, rfl⟩
def spec_l3Template.alusArr : Array Value := #[.string (⟨#[97, 100, 100]⟩ : ByteArray), .string (⟨#[97, 100, 99]⟩ : ByteArray), .string (⟨#[115, 117, 98]⟩ : ByteArray), .string (⟨#[115, 98, 99]⟩ : ByteArray), .string (⟨#[97, 110, 100]⟩ : ByteArray), .string (⟨#[120, 111, 114]⟩ : ByteArray), .string (⟨#[111, 114]⟩ : ByteArray), .string (⟨#[99, 112]⟩ : ByteArray)]
theorem spec_l3Template.alusC (w : World) : Calls Tryz.prog 25 #[] w fun e w' => e = .returned (.slice (some ⟨w.heap.size, 0, none⟩) 8 8) ∧ w' = w.alloc (.cells spec_l3Template.alusArr 9) := by
  go_enter Tryz.func25, Tryz.ntmps25
  go_wp2
  (first | go_ret | (apply bodyPost_ret; (exact results_tmp rfl _ _ _); rfl))
  exact ⟨rfl, rfl⟩
theorem spec_l3Template.turns_at : ∀ y : Nat, y < 8 → spec_l3Template.turnsArr[y]? = some (.string (turnsL.getD y ⟨#[]⟩)) ∧ (turnsL.getD y ⟨#[]⟩).size ≤ 100
  | 0, _ => ⟨rfl, by decide⟩
  | 1, _ => ⟨rfl, by decide⟩
  | 2, _ => ⟨rfl, by decide⟩
  | 3, _ => ⟨rfl, by decide⟩
  | 4, _ => ⟨rfl, by decide⟩
  | 5, _ => ⟨rfl, by decide⟩
  | 6, _ => ⟨rfl, by decide⟩
  | 7, _ => ⟨rfl, by decide⟩
  | n + 8, h => absurd h (by omega)
theorem spec_l3Template.regs_at : ∀ y : Nat, y < 8 → spec_l3Template.regsArr[y]? = some (.string (regsL.getD y ⟨#[]⟩)) ∧ (regsL.getD y ⟨#[]⟩).size ≤ 100
  | 0, _ => ⟨rfl, by decide⟩
  | 1, _ => ⟨rfl, by decide⟩
  | 2, _ => ⟨rfl, by decide⟩
  | 3, _ => ⟨rfl, by decide⟩
  | 4, _ => ⟨rfl, by decide⟩
  | 5, _ => ⟨rfl, by decide⟩
  | 6, _ => ⟨rfl, by decide⟩
  | 7, _ => ⟨rfl, by decide⟩
  | n + 8, h => absurd h (by omega)
theorem spec_l3Template.alus_at : ∀ y : Nat, y < 8 → spec_l3Template.alusArr[y]? = some (.string (alusL.getD y ⟨#[]⟩)) ∧ (alusL.getD y ⟨#[]⟩).size ≤ 100
  | 0, _ => ⟨rfl, by decide⟩
  | 1, _ => ⟨rfl, by decide⟩
  | 2, _ => ⟨rfl, by decide⟩
  | 3, _ => ⟨rfl, by decide⟩
  | 4, _ => ⟨rfl, by decide⟩
  | 5, _ => ⟨rfl, by decide⟩
  | 6, _ => ⟨rfl, by decide⟩
  | 7, _ => ⟨rfl, by decide⟩
  | n + 8, h => absurd h (by omega)
set_option maxRecDepth 100000 in
set_option maxHeartbeats 8000000 in
theorem spec_l3Template.dec1 (y : Nat) (hy : y < 8) (w : World) : Calls Tryz.prog 23 #[.int .i64 (y : Int)] w fun e w' => e = .returned (.string ⟨#[UInt8.ofNat (48 + y)]⟩) ∧ w' = w.alloc (.cells #[.int .u8 (48 + (y : Int))] 5) := by
  have h0 : ¬ ((y : Int) < 0) := by omega
  have h10 : ¬ ((y : Int) ≥ 10) := by omega
  have hback : ∀ W : World, (convert 62 9 (.slice (some ⟨W.heap.size, 0, none⟩) 1 1)).run Tryz.prog (W.alloc (.cells #[.int .u8 (48 + (y : Int))] 5)) = .ok (.string ⟨#[UInt8.ofNat (48 + y)]⟩) (W.alloc (.cells #[.int .u8 (48 + (y : Int))] 5)) := by
    intro W
    exact run_convert_bytes_back (P := Tryz.prog) (W.alloc (.cells #[.int .u8 (48 + (y : Int))] 5)) 62 9 5 ⟨W.heap.size, 0, none⟩ 1 [UInt8.ofNat (48 + y)] Tryz.underlying62 Tryz.underlying5 Tryz.underlying9 (fun i hi => by
      have hi' : i = 0 := by simpa using hi
      subst hi'
      rw [add_plain, World.cell?_alloc_at _ _ _ _ (by simp)]
      have : ((UInt8.ofNat (48 + y)).toNat : Int) = 48 + (y : Int) := by
        rw [UInt8.toNat_ofNat']
        omega
      simp [this]
      omega)
  go_enter Tryz.func23, Tryz.ntmps23
  go_wp2
  go_loopg [0, 3] 1 (fun gg s0 s3 wr => s0 = .int .i64 (y : Int) ∧ s3 = .string ⟨#[]⟩ ∧ wr = w)
  case atStart => exact ⟨rfl, rfl, rfl⟩
  case round =>
    obtain ⟨rfl, rfl, rfl⟩ := hrel
    have h11 : ¬ (10 : Int) ≤ (y : Int) := by omega
    go_wp2
    (first | go_ret | (apply bodyPost_ret; (exact results_tmp rfl _ _ _); rfl))
    exact ⟨by rfl, rfl⟩
set_option maxRecDepth 100000 in
set_option maxHeartbeats 8000000 in
theorem spec_l3Template.ct (c d : Int) (y z : Nat) (s t : ByteArray) (e1 : IntKind.i64.wrap (c.tdiv 64) = 0) (e2 : IntKind.i64.wrap (c.tdiv 8) = d) (e3 : d.tmod 8 = (y : Int)) (e4 : c.tmod 8 = (z : Int)) (hs : spec_l3Template.turnsArr[y]? = some (.string s)) (ls : (y : Int) < 8) (zs : s.size ≤ 100) (ht : spec_l3Template.regsArr[z]? = some (.string t)) (lt : (z : Int) < 8) (zt : t.size ≤ 100) (w : World) : Calls Tryz.prog 9 #[.int .i64 c, .bool true] w fun e w' => e = .returned (.string ((s ++ ⟨#[32]⟩) ++ t)) ∧ Below w.heap.size w w' := by
  go_enter Tryz.func9, Tryz.ntmps9
  go_wp2
  go_region_with (first | (go_at_call 21; refine (spec_l3Template.turnsC _).mono ?_; rintro e w' ⟨rfl, rfl⟩) | (go_at_call 22; refine (spec_l3Template.regsC _).mono ?_; rintro e w' ⟨rfl, rfl⟩))
  all_goals go_wp2
  all_goals ((first | go_ret | (apply bodyPost_ret; (exact results_tmp rfl _ _ _); rfl)); exact ⟨by first | rfl | decide, by repeat (first | exact Below.refl _ _ | apply below_alloc | apply pw_below_drewN | apply below_drew)⟩)
set_option maxRecDepth 100000 in
set_option maxHeartbeats 8000000 in
theorem spec_l3Template.cb (c d : Int) (x y z : Nat) (u s t : ByteArray) (hu : (#[.string (⟨#[]⟩ : ByteArray), .string (⟨#[98, 105, 116, 32]⟩ : ByteArray), .string (⟨#[114, 101, 115, 32]⟩ : ByteArray), .string (⟨#[115, 101, 116, 32]⟩ : ByteArray)] : Array Value)[x]? = some (.string u)) (lx : (x : Int) < 4) (x0 : ¬ (x : Int) = 0) (zu : u.size ≤ 100) (e1 : IntKind.i64.wrap (c.tdiv 64) = (x : Int)) (e2 : IntKind.i64.wrap (c.tdiv 8) = d) (e3 : d.tmod 8 = (y : Int)) (e4 : c.tmod 8 = (z : Int)) (hd : ∀ w, Calls Tryz.prog 23 #[.int .i64 (y : Int)] w fun e w' => e = .returned (.string s) ∧ w' = w.alloc (.cells #[.int .u8 (48 + (y : Int))] 5)) (zs : s.size ≤ 100) (ht : spec_l3Template.regsArr[z]? = some (.string t)) (lt : (z : Int) < 8) (zt : t.size ≤ 100) (w : World) : Calls Tryz.prog 9 #[.int .i64 c, .bool true] w fun e w' => e = .returned (.string (((u ++ s) ++ ⟨#[44]⟩) ++ t)) ∧ Below w.heap.size w w' := by
  go_enter Tryz.func9, Tryz.ntmps9
  go_wp2
  go_region_with (first | (go_at_call 23; refine (hd _).mono ?_; rintro e w' ⟨rfl, rfl⟩) | (go_at_call 22; refine (spec_l3Template.regsC _).mono ?_; rintro e w' ⟨rfl, rfl⟩))
  all_goals go_wp2
  all_goals ((first | go_ret | (apply bodyPost_ret; (exact results_tmp rfl _ _ _); rfl)); exact ⟨by first | rfl | decide, by repeat (first | exact Below.refl _ _ | apply below_alloc | apply pw_below_drewN | apply below_drew)⟩)
set_option maxRecDepth 100000 in
set_option maxHeartbeats 8000000 in
theorem spec_l3Template.ld (c d : Int) (y z : Nat) (s t : ByteArray) (h18 : ¬ c = 118) (e1 : IntKind.i64.wrap (c.tdiv 64) = 1) (e2 : IntKind.i64.wrap (c.tdiv 8) = d) (e3 : d.tmod 8 = (y : Int)) (e4 : c.tmod 8 = (z : Int)) (hs : spec_l3Template.regsArr[y]? = some (.string s)) (ls : (y : Int) < 8) (zs : s.size ≤ 100) (ht : spec_l3Template.regsArr[z]? = some (.string t)) (lt : (z : Int) < 8) (zt : t.size ≤ 100) (w : World) : Calls Tryz.prog 9 #[.int .i64 c, .bool false] w fun e w' => e = .returned (.string ((((⟨#[108, 100, 32]⟩ : ByteArray) ++ s) ++ ⟨#[44]⟩) ++ t)) ∧ Below w.heap.size w w' := by
  go_enter Tryz.func9, Tryz.ntmps9
  go_wp2
  go_region_with (go_at_call 22; refine (spec_l3Template.regsC _).mono ?_; rintro e w' ⟨rfl, rfl⟩)
  all_goals go_wp2
  all_goals ((first | go_ret | (apply bodyPost_ret; (exact results_tmp rfl _ _ _); rfl)); exact ⟨by first | rfl | decide, by repeat (first | exact Below.refl _ _ | apply below_alloc | apply pw_below_drewN | apply below_drew)⟩)
set_option maxRecDepth 100000 in
set_option maxHeartbeats 8000000 in
theorem spec_l3Template.alu (c d : Int) (y z : Nat) (s t : ByteArray) (h18 : ¬ c = 118) (e1 : IntKind.i64.wrap (c.tdiv 64) = 2) (e2 : IntKind.i64.wrap (c.tdiv 8) = d) (e3 : d.tmod 8 = (y : Int)) (e4 : c.tmod 8 = (z : Int)) (hs : spec_l3Template.alusArr[y]? = some (.string s)) (ls : (y : Int) < 8) (zs : s.size ≤ 100) (ht : spec_l3Template.regsArr[z]? = some (.string t)) (lt : (z : Int) < 8) (zt : t.size ≤ 100) (w : World) : Calls Tryz.prog 9 #[.int .i64 c, .bool false] w fun e w' => e = .returned (.string ((s ++ (⟨#[32, 97, 44]⟩ : ByteArray)) ++ t)) ∧ Below w.heap.size w w' := by
  go_enter Tryz.func9, Tryz.ntmps9
  go_wp2
  go_region_with (first | (go_at_call 25; refine (spec_l3Template.alusC _).mono ?_; rintro e w' ⟨rfl, rfl⟩) | (go_at_call 22; refine (spec_l3Template.regsC _).mono ?_; rintro e w' ⟨rfl, rfl⟩))
  all_goals go_wp2
  all_goals ((first | go_ret | (apply bodyPost_ret; (exact results_tmp rfl _ _ _); rfl)); exact ⟨by first | rfl | decide, by repeat (first | exact Below.refl _ _ | apply below_alloc | apply pw_below_drewN | apply below_drew)⟩)
set_option maxRecDepth 100000 in
set_option maxHeartbeats 8000000 in
theorem spec_l3Template.lo (c d : Int) (y z : Nat) (r : ByteArray) (e1 : IntKind.i64.wrap (c.tdiv 64) = 0) (e2 : IntKind.i64.wrap (c.tdiv 8) = d) (e3 : d.tmod 8 = (y : Int)) (e4 : c.tmod 8 = (z : Int)) (hr : spec_l3Low.f (y : Int) (z : Int) = some r)  (w : World) : Calls Tryz.prog 9 #[.int .i64 c, .bool false] w fun e w' => e = .returned (.string (r)) ∧ Below w.heap.size w w' := by
  go_enter Tryz.func9, Tryz.ntmps9
  go_wp2_with (go_at_call 24; refine (spec_l3Low.calls _ _ r _ hr).mono ?_; rintro e w' ⟨rfl, hb⟩)
  (first | go_ret | (apply bodyPost_ret; (exact results_tmp rfl _ _ _); rfl))
  exact ⟨rfl, by repeat (first | exact hb | exact Below.refl _ _ | apply pw_below_drewN | apply below_drew)⟩
set_option maxRecDepth 100000 in
set_option maxHeartbeats 8000000 in
theorem spec_l3Template.hi (c d : Int) (y z : Nat) (r : ByteArray) (h18 : ¬ c = 118) (e1 : IntKind.i64.wrap (c.tdiv 64) = 3) (e2 : IntKind.i64.wrap (c.tdiv 8) = d) (e3 : d.tmod 8 = (y : Int)) (e4 : c.tmod 8 = (z : Int)) (hr : spec_l3Top.f (y : Int) (z : Int) = some r)  (w : World) : Calls Tryz.prog 9 #[.int .i64 c, .bool false] w fun e w' => e = .returned (.string (r)) ∧ Below w.heap.size w w' := by
  go_enter Tryz.func9, Tryz.ntmps9
  go_wp2_with (go_at_call 26; refine (spec_l3Top.calls _ _ r _ hr).mono ?_; rintro e w' ⟨rfl, hb⟩)
  (first | go_ret | (apply bodyPost_ret; (exact results_tmp rfl _ _ _); rfl))
  exact ⟨rfl, by repeat (first | exact hb | exact Below.refl _ _ | apply pw_below_drewN | apply below_drew)⟩
set_option maxRecDepth 100000 in
set_option maxHeartbeats 8000000 in
theorem spec_l3Template.halt (w : World) : Calls Tryz.prog 9 #[.int .i64 118, .bool false] w fun e w' => e = .returned (.string (⟨#[104, 97, 108, 116]⟩ : ByteArray)) ∧ Below w.heap.size w w' := by
  go_enter Tryz.func9, Tryz.ntmps9
  go_wp2
  (first | go_ret | (apply bodyPost_ret; (exact results_tmp rfl _ _ _); rfl))
  exact ⟨by first | rfl | decide, by repeat (first | exact Below.refl _ _ | apply below_alloc | apply pw_below_drewN | apply below_drew)⟩
def spec_l3Template.f (a0 : Int) (a1 : Bool) : Option ByteArray := if 0 ≤ a0 ∧ a0 < 256 then some (tmplT a0.toNat a1) else none
theorem spec_l3Template.calls (a0 : Int) (a1 : Bool) (r : ByteArray) (w : World) (h : spec_l3Template.f a0 a1 = some r) :
 Calls Tryz.prog 9 #[.int .i64 a0, .bool a1] w fun e w' => e = .returned (.string r) ∧ Below w.heap.size w w' := by
 unfold spec_l3Template.f at h
 by_cases hr : 0 ≤ a0 ∧ a0 < 256
 ·rw [if_pos hr] at h
  obtain rfl := Option.some.inj h
  obtain ⟨n, rfl⟩ : ∃ n : Nat, a0 = (n : Int) := ⟨a0.toNat, by omega⟩
  have hn : n < 256 := by omega
  have e2 := div_w (n := n) (k := 8) hn (by decide)
  have e3 := mod_w (n / 8) 8
  have e4 := mod_w n 8
  have e1 := div_w (n := n) (k := 64) hn (by decide)
  have hy : n / 8 % 8 < 8 := by omega
  have hz : n % 8 < 8 := by omega
  have hyi : ((n / 8 % 8 : Nat) : Int) < 8 := by omega
  have hzi : ((n % 8 : Nat) : Int) < 8 := by omega
  rw [Int.toNat_natCast]
  cases a1 with
  | true =>
   by_cases h1 : n < 64
   ·rw [show ((n / 64 : Nat) : Int) = 0 by omega] at e1
    have := spec_l3Template.ct (n : Int) _ _ _ _ _ e1 e2 e3 e4 (spec_l3Template.turns_at _ hy).1 hyi (spec_l3Template.turns_at _ hy).2 (spec_l3Template.regs_at _ hz).1 hzi (spec_l3Template.regs_at _ hz).2 w
    rw [show tmplT n true = _ from by unfold tmplT; rw [if_pos rfl, if_pos h1]]
    exact this
   ·rw [show tmplT n true = _ from by unfold tmplT; rw [if_pos rfl, if_neg h1]]
    have h3 : n / 64 = 1 ∨ n / 64 = 2 ∨ n / 64 = 3 := by omega
    have hu : (#[.string (⟨#[]⟩ : ByteArray), .string (⟨#[98, 105, 116, 32]⟩ : ByteArray), .string (⟨#[114, 101, 115, 32]⟩ : ByteArray), .string (⟨#[115, 101, 116, 32]⟩ : ByteArray)] : Array Value)[n / 64]? = some (.string (wordsL.getD (n / 64) ⟨#[]⟩)) ∧ (wordsL.getD (n / 64) ⟨#[]⟩).size ≤ 100 := by
     rcases h3 with h3 | h3 | h3 <;> rw [h3] <;> exact ⟨rfl, by decide⟩
    exact spec_l3Template.cb (n : Int) _ _ _ _ _ _ _ hu.1 (by omega) (by omega) hu.2 e1 e2 e3 e4 (spec_l3Template.dec1 _ (by omega)) (by show (1 : Nat) ≤ 100; omega) (spec_l3Template.regs_at _ hz).1 hzi (spec_l3Template.regs_at _ hz).2 w
  | false =>
   by_cases h1 : n < 64
   ·rw [show ((n / 64 : Nat) : Int) = 0 by omega] at e1
    rw [show tmplT n false = _ from by unfold tmplT; rw [if_neg (by decide), if_pos h1]]
    exact spec_l3Template.lo (n : Int) _ _ _ _ e1 e2 e3 e4 (by unfold spec_l3Low.f; rw [if_pos ⟨⟨by omega, hyi⟩, ⟨by omega, hzi⟩⟩, show (8 * ((n % 8 : Nat) : Int) + ((n / 8 % 8 : Nat) : Int)).toNat = 8 * (n % 8) + n / 8 % 8 by omega]) w
   ·by_cases h18 : n = 118
    ·subst h18
     exact spec_l3Template.halt w
    ·have hc : ¬ (n : Int) = 118 := by omega
     by_cases h2 : n < 128
     ·rw [show ((n / 64 : Nat) : Int) = 1 by omega] at e1
      rw [show tmplT n false = _ from by unfold tmplT; rw [if_neg (by decide), if_neg h1, if_neg h18, if_pos h2]]
      exact spec_l3Template.ld (n : Int) _ _ _ _ _ hc e1 e2 e3 e4 (spec_l3Template.regs_at _ hy).1 hyi (spec_l3Template.regs_at _ hy).2 (spec_l3Template.regs_at _ hz).1 hzi (spec_l3Template.regs_at _ hz).2 w
     ·by_cases h3 : n < 192
      ·rw [show ((n / 64 : Nat) : Int) = 2 by omega] at e1
       rw [show tmplT n false = _ from by unfold tmplT; rw [if_neg (by decide), if_neg h1, if_neg h18, if_neg h2, if_pos h3]]
       exact spec_l3Template.alu (n : Int) _ _ _ _ _ hc e1 e2 e3 e4 (spec_l3Template.alus_at _ hy).1 hyi (spec_l3Template.alus_at _ hy).2 (spec_l3Template.regs_at _ hz).1 hzi (spec_l3Template.regs_at _ hz).2 w
      ·rw [show ((n / 64 : Nat) : Int) = 3 by omega] at e1
       rw [show tmplT n false = _ from by unfold tmplT; rw [if_neg (by decide), if_neg h1, if_neg h18, if_neg h2, if_neg h3]]
       exact spec_l3Template.hi (n : Int) _ _ _ _ hc e1 e2 e3 e4 (by unfold spec_l3Top.f; rw [if_pos ⟨⟨by omega, hyi⟩, ⟨by omega, hzi⟩⟩, show (8 * ((n % 8 : Nat) : Int) + ((n / 8 % 8 : Nat) : Int)).toNat = 8 * (n % 8) + n / 8 % 8 by omega]) w
 ·rw [if_neg hr] at h
  cases h

/-! ### spec_l3Hole: function 20 -/
mutual
def spec_l3Hole.l0 : Nat → ByteArray → List ByteArray → Int → Option (Int × ByteArray)
  | 0, _, _, _ => none
  | k + 1, x0, x4, x5 => if x5 < (x4.length : Int) then (spec_l3Hole.l1 k x0 x4 x5 0) else (some ((-1), (⟨#[]⟩ : ByteArray)))
def spec_l3Hole.l1 : Nat → ByteArray → List ByteArray → Int → Int → Option (Int × ByteArray)
  | 0, _, _, _, _ => none
  | k + 1, x0, x4, x5, x6 => if 0 ≤ x5 then (if x5 < (x4.length : Int) then (if (wrap64 (x6 + ((rdOf ByteArray.empty x4 x5).size : Int))) ≤ (x0.size : Int) then (if 0 ≤ x6 then (if x6 ≤ (wrap64 (x6 + ((rdOf ByteArray.empty x4 x5).size : Int))) then (if (x0.extract (x6 : Int).toNat ((wrap64 (x6 + ((rdOf ByteArray.empty x4 x5).size : Int))) : Int).toNat).toList = (rdOf ByteArray.empty x4 x5).toList then (some (x6, rdOf ByteArray.empty x4 x5)) else (spec_l3Hole.l1 k x0 x4 x5 (wrap64 (x6 + 1)))) else (none)) else (none)) else (spec_l3Hole.l0 k x0 x4 (wrap64 (x5 + 1)))) else (none)) else (none)
end
def spec_l3Hole.f (k : Nat) (a0 : ByteArray) : Option (Int × ByteArray) := spec_l3Hole.l0 k a0 (([(⟨#[110, 49, 54]⟩ : ByteArray), (⟨#[110, 56]⟩ : ByteArray), (⟨#[101, 56]⟩ : ByteArray)] : List ByteArray)) 0
theorem spec_l3Hole.mono_l : ∀ k, (∀ y0 y1 y2, LeO (spec_l3Hole.l0 k y0 y1 y2) (spec_l3Hole.l0 (k + 1) y0 y1 y2)) ∧ (∀ y0 y1 y2 y3, LeO (spec_l3Hole.l1 k y0 y1 y2 y3) (spec_l3Hole.l1 (k + 1) y0 y1 y2 y3))
  | 0 => ⟨fun _ _ _ r h => by simp [spec_l3Hole.l0] at h, fun _ _ _ _ r h => by simp [spec_l3Hole.l1] at h⟩
  | k + 1 => by
    obtain ⟨ih0, ih1⟩ := spec_l3Hole.mono_l k
    refine ⟨?_, ?_⟩
    · intro y0 y1 y2
      unfold spec_l3Hole.l0
      repeat' first
      | (with_reducible exact ih0 _ _ _)
      | (with_reducible exact ih1 _ _ _ _)
      | (with_reducible exact LeO.refl _)
      | (with_reducible exact LeO.none _)
      | (with_reducible refine LeO.ite ?_ ?_)
      | (with_reducible refine LeO.bind ?_ (fun _ => ?_))
      | exact ih0 _ _ _
      | exact ih1 _ _ _ _
      | exact LeO.none _
      | refine LeO.ite ?_ ?_
      | refine LeO.bind ?_ (fun _ => ?_)
    · intro y0 y1 y2 y3
      unfold spec_l3Hole.l1
      repeat' first
      | (with_reducible exact ih0 _ _ _)
      | (with_reducible exact ih1 _ _ _ _)
      | (with_reducible exact LeO.refl _)
      | (with_reducible exact LeO.none _)
      | (with_reducible refine LeO.ite ?_ ?_)
      | (with_reducible refine LeO.bind ?_ (fun _ => ?_))
      | exact ih0 _ _ _
      | exact ih1 _ _ _ _
      | exact LeO.none _
      | refine LeO.ite ?_ ?_
      | refine LeO.bind ?_ (fun _ => ?_)
theorem spec_l3Hole.mono : ∀ a0 k, LeO (spec_l3Hole.f k a0) (spec_l3Hole.f (k + 1) a0) := by
  intro a0 k
  obtain ⟨ih0, ih1⟩ := spec_l3Hole.mono_l k
  unfold spec_l3Hole.f
  repeat' first
      | (with_reducible exact ih0 _ _ _)
      | (with_reducible exact ih1 _ _ _ _)
      | (with_reducible exact LeO.refl _)
      | (with_reducible exact LeO.none _)
      | (with_reducible refine LeO.ite ?_ ?_)
      | (with_reducible refine LeO.bind ?_ (fun _ => ?_))
      | exact ih0 _ _ _
      | exact ih1 _ _ _ _
      | exact LeO.none _
      | refine LeO.ite ?_ ?_
      | refine LeO.bind ?_ (fun _ => ?_)
set_option maxHeartbeats 8000000 in
set_option maxRecDepth 100000 in
theorem spec_l3Hole.calls (k : Nat) (a0 : ByteArray) (r1 : Int) (r2 : ByteArray) (w : World) (h : spec_l3Hole.f k a0 = some (r1, r2)) :
 Calls Tryz.prog 20 #[.string a0] w fun e w' => e = .returned (.tuple #[.int .i64 r1, .string r2]) ∧ Below w.heap.size w w' := by
 have HB := Aside0.mk (Below.refl w.heap.size w)
 have H : (spec_l3Hole.l0 k a0 (([(⟨#[110, 49, 54]⟩ : ByteArray), (⟨#[110, 56]⟩ : ByteArray), (⟨#[101, 56]⟩ : ByteArray)] : List ByteArray)) 0) = some (r1, r2) := h
 clear h
 obtain ⟨y122, hy122⟩ : ∃ y_ : List ByteArray, y_ = (([(⟨#[110, 49, 54]⟩ : ByteArray), (⟨#[110, 56]⟩ : ByteArray), (⟨#[101, 56]⟩ : ByteArray)] : List ByteArray)) := ⟨_, rfl⟩
 replace H : (spec_l3Hole.l0 k a0 y122 0) = some (r1, r2) := by first | (rw [hy122]; with_reducible exact H) | (have H2_ := (Option.bind_some _ _).symm.trans H; rw [hy122]; with_reducible exact H2_) | (have H2_ := (Option.bind_some _ _).symm.trans H; with_reducible exact H2_) | with_reducible exact H | (rw [hy122]; exact H) | exact H
 have Ny122 := Aside0.mk hy122
 clear hy122
 have H' := Aside0.mk H
 clear H
 go_enter Tryz.func20, Tryz.ntmps20
 go_wp2_with (first | ((with_reducible refine gate_dst (N := 7) rfl ?_); refine Kd.R_lit Kd.string _ 9 ?hg (N := 7) ?hd (xs := ([(⟨#[110, 49, 54]⟩ : ByteArray), (⟨#[110, 56]⟩ : ByteArray), (⟨#[101, 56]⟩ : ByteArray)] : List ByteArray)) (inner := [.string (⟨#[110, 49, 54]⟩ : ByteArray), .string (⟨#[110, 56]⟩ : ByteArray), .string (⟨#[101, 56]⟩ : ByteArray)]) (ok := fun _ => True) (okp := fun _ => True) ?hr ?hp (fun _ hk => hk) trivial (Below.refl _ _) (Nat.le_refl _) (by simp) ?_; (case hd => rfl); (case hg => rfl); (case hr => first | (go_simp; done) | (go_simp; rfl)); (case hp => exact (Reps.one (show Kd.M Kd.string _ _ _ (⟨#[110, 49, 54]⟩ : ByteArray) [.string (⟨#[110, 49, 54]⟩ : ByteArray)] from rfl) (Reps.one (show Kd.M Kd.string _ _ _ (⟨#[110, 56]⟩ : ByteArray) [.string (⟨#[110, 56]⟩ : ByteArray)] from rfl) (Reps.one (show Kd.M Kd.string _ _ _ (⟨#[101, 56]⟩ : ByteArray) [.string (⟨#[101, 56]⟩ : ByteArray)] from rfl) (Reps.none _ _))))); intro v123 w2 ho3 hb hg_ hnew_; clear hg_ hnew_; (first | rw [← Ny122.out] at ho3 | (simp only [Int.reduceToNat] at ho3; rw [← Ny122.out] at ho3)); have HO124 := Aside0.mk (Kd.R_lower ho3 (below_size (zb _))); replace HB := zt w hb; clear hb ho3))
 repeat (go_quiet (first | ((with_reducible refine gate_dst (N := 7) rfl ?_); refine Kd.R_lit Kd.string _ 9 ?hg (N := 7) ?hd (xs := ([(⟨#[110, 49, 54]⟩ : ByteArray), (⟨#[110, 56]⟩ : ByteArray), (⟨#[101, 56]⟩ : ByteArray)] : List ByteArray)) (inner := [.string (⟨#[110, 49, 54]⟩ : ByteArray), .string (⟨#[110, 56]⟩ : ByteArray), .string (⟨#[101, 56]⟩ : ByteArray)]) (ok := fun _ => True) (okp := fun _ => True) ?hr ?hp (fun _ hk => hk) trivial (Below.refl _ _) (Nat.le_refl _) (by simp) ?_; (case hd => rfl); (case hg => rfl); (case hr => first | (go_simp; done) | (go_simp; rfl)); (case hp => exact (Reps.one (show Kd.M Kd.string _ _ _ (⟨#[110, 49, 54]⟩ : ByteArray) [.string (⟨#[110, 49, 54]⟩ : ByteArray)] from rfl) (Reps.one (show Kd.M Kd.string _ _ _ (⟨#[110, 56]⟩ : ByteArray) [.string (⟨#[110, 56]⟩ : ByteArray)] from rfl) (Reps.one (show Kd.M Kd.string _ _ _ (⟨#[101, 56]⟩ : ByteArray) [.string (⟨#[101, 56]⟩ : ByteArray)] from rfl) (Reps.none _ _))))); intro v123 w2 ho3 hb hg_ hnew_; clear hg_ hnew_; (first | rw [← Ny122.out] at ho3 | (simp only [Int.reduceToNat] at ho3; rw [← Ny122.out] at ho3)); have HO124 := Aside0.mk (Kd.R_lower ho3 (below_size (zb _))); replace HB := zt w hb; clear hb ho3)); try go_wp2_with (first | ((with_reducible refine gate_dst (N := 7) rfl ?_); refine Kd.R_lit Kd.string _ 9 ?hg (N := 7) ?hd (xs := ([(⟨#[110, 49, 54]⟩ : ByteArray), (⟨#[110, 56]⟩ : ByteArray), (⟨#[101, 56]⟩ : ByteArray)] : List ByteArray)) (inner := [.string (⟨#[110, 49, 54]⟩ : ByteArray), .string (⟨#[110, 56]⟩ : ByteArray), .string (⟨#[101, 56]⟩ : ByteArray)]) (ok := fun _ => True) (okp := fun _ => True) ?hr ?hp (fun _ hk => hk) trivial (Below.refl _ _) (Nat.le_refl _) (by simp) ?_; (case hd => rfl); (case hg => rfl); (case hr => first | (go_simp; done) | (go_simp; rfl)); (case hp => exact (Reps.one (show Kd.M Kd.string _ _ _ (⟨#[110, 49, 54]⟩ : ByteArray) [.string (⟨#[110, 49, 54]⟩ : ByteArray)] from rfl) (Reps.one (show Kd.M Kd.string _ _ _ (⟨#[110, 56]⟩ : ByteArray) [.string (⟨#[110, 56]⟩ : ByteArray)] from rfl) (Reps.one (show Kd.M Kd.string _ _ _ (⟨#[101, 56]⟩ : ByteArray) [.string (⟨#[101, 56]⟩ : ByteArray)] from rfl) (Reps.none _ _))))); intro v123 w2 ho3 hb hg_ hnew_; clear hg_ hnew_; (first | rw [← Ny122.out] at ho3 | (simp only [Int.reduceToNat] at ho3; rw [← Ny122.out] at ho3)); have HO124 := Aside0.mk (Kd.R_lower ho3 (below_size (zb _))); replace HB := zt w hb; clear hb ho3)))
 go_loopg [5] k (fun kq v5 w' => ∃ (x5_1 : Int), v5 = .int .i64 x5_1 ∧ Aside0 (spec_l3Hole.l0 kq a0 y122 x5_1 = some (r1, r2)) ∧ Aside0 (kq ≤ k) ∧ Aside0 (Kd.R Kd.string 9 w' w.heap.size (fun _ => True) v123 y122) ∧ Aside0 (Below w.heap.size w w'))
 case atStart => exact ⟨(0), (zE _), H', ⟨Nat.le_refl _⟩, ⟨by (with_reducible repeat (first | apply Kd.R_alloc | apply Kd.R_drewN | apply Kd.R_drew)); exact HO124.out⟩, ⟨zb _⟩⟩
 case round =>
  clear H'
  try clear c2
  try clear p2
  obtain ⟨x5_1, rfl, HA, HK1, HO_4, HB⟩ := hrel
  cases gk with
  | zero => exact absurd HA.out (by simp [spec_l3Hole.l0])
  | succ k1 =>
   have H := HA.out
   clear HA
   simp only [spec_l3Hole.l0] at H
   by_cases c4 : x5_1 < (y122.length : Int)
   ·rw [if_pos c4] at H
    have c4b0 : decide (x5_1 < (y122.length : Int)) = true := decide_eq_true c4
    clear c4
    have H' := Aside0.mk H
    clear H
    obtain ⟨Ao5, co5, eo5⟩ := Kd.R_slice HO_4.out
    subst eo5
    go_wp2
    repeat (go_quiet (fail); try go_wp2)
    go_loopg [6] k1 (fun kq v6 w' => ∃ (x6_2 : Int), v6 = .int .i64 x6_2 ∧ Aside0 (spec_l3Hole.l1 kq a0 y122 x5_1 x6_2 = some (r1, r2)) ∧ Aside0 (kq ≤ k1) ∧ Aside0 (Kd.R Kd.string 9 w' w.heap.size (fun _ => True) (.slice Ao5 y122.length co5) y122) ∧ Aside0 (Below w.heap.size w w'))
    case atStart => exact ⟨(0), (zE _), H', ⟨Nat.le_refl _⟩, ⟨by (with_reducible repeat (first | apply Kd.R_alloc | apply Kd.R_drewN | apply Kd.R_drew)); exact HO_4.out⟩, ⟨zb _⟩⟩
    case round =>
     clear H'
     try clear c2
     try clear p2
     try clear c4
     try clear c4b0
     try clear p2
     obtain ⟨x6_2, rfl, HA, HK2, HO_4, HB⟩ := hrel
     cases gk with
     | zero => exact absurd HA.out (by simp [spec_l3Hole.l1])
     | succ k2 =>
      have H := HA.out
      clear HA
      simp only [spec_l3Hole.l1] at H
      by_cases c6 : 0 ≤ x5_1
      ·rw [if_pos c6] at H
       have c6b0 : decide (0 ≤ x5_1) = true := decide_eq_true c6
       clear c6
       by_cases c7 : x5_1 < (y122.length : Int)
       ·rw [if_pos c7] at H
        have c7b0 : decide (x5_1 < (y122.length : Int)) = true := decide_eq_true c7
        clear c7
        by_cases c8 : (wrap64 (x6_2 + ((rdOf ByteArray.empty y122 x5_1).size : Int))) ≤ (a0.size : Int)
        ·rw [if_pos c8] at H
         have c8b0 : decide ((wrap64 (x6_2 + ((rdOf ByteArray.empty y122 x5_1).size : Int))) ≤ (a0.size : Int)) = true := decide_eq_true c8
         clear c8
         by_cases c9 : 0 ≤ x6_2
         ·rw [if_pos c9] at H
          have c9b0 := eq_true c9
          have c9b1 : decide (0 ≤ x6_2) = true := decide_eq_true c9
          clear c9
          by_cases c10 : x6_2 ≤ (wrap64 (x6_2 + ((rdOf ByteArray.empty y122 x5_1).size : Int)))
          ·rw [if_pos c10] at H
           have c10b0 := eq_true c10
           have c10b1 : decide (x6_2 ≤ (wrap64 (x6_2 + ((rdOf ByteArray.empty y122 x5_1).size : Int)))) = true := decide_eq_true c10
           have c11b0 := eq_true (of_decide_eq_true (za _) : (wrap64 (x6_2 + ((rdOf ByteArray.empty y122 x5_1).size : Int))) ≤ (a0.size : Int))
           by_cases c12 : (a0.extract (x6_2 : Int).toNat ((wrap64 (x6_2 + ((rdOf ByteArray.empty y122 x5_1).size : Int))) : Int).toNat).toList = (rdOf ByteArray.empty y122 x5_1).toList
           ·rw [if_pos c12] at H
            have c12b0 : ((a0.extract (x6_2 : Int).toNat ((wrap64 (x6_2 + ((rdOf ByteArray.empty y122 x5_1).size : Int))) : Int).toNat).toList == (rdOf ByteArray.empty y122 x5_1).toList) = true := beq_iff_eq.mpr c12
            have c12b1 : ((a0.extract (x6_2 : Int).toNat ((wrap64 (x6_2 + ((rdOf ByteArray.empty y122 x5_1).size : Int))) : Int).toNat).toList != (rdOf ByteArray.empty y122 x5_1).toList) = false := bne_eq_false_iff_eq.mpr c12
            clear c12
            simp only [Option.some.injEq, Prod.mk.injEq] at H
            obtain ⟨rfl, rfl⟩ := H
            have p125 : 0 ≤ (x5_1 : Int) := of_decide_eq_true (za _)
            have q125 : x5_1 < (y122.length : Int) := of_decide_eq_true (za _)
            obtain ⟨ad125, e125, hx125_0⟩ := Kd.at_string (Kd.R_reads' HO_4.out).2.2 x5_1 p125 q125
            cases e125
            replace p125 := eq_true p125
            replace q125 := eq_true q125
            have p126 : 0 ≤ (x5_1 : Int) := of_decide_eq_true (za _)
            have q126 : x5_1 < (y122.length : Int) := of_decide_eq_true (za _)
            obtain ⟨ad126, e126, hx126_0⟩ := Kd.at_string (Kd.R_reads' HO_4.out).2.2 x5_1 p126 q126
            obtain rfl : ad125 = ad126 := (by injection e126)
            replace p126 := eq_true p126
            replace q126 := eq_true q126
            have p127 : 0 ≤ (x5_1 : Int) := of_decide_eq_true (za _)
            have q127 : x5_1 < (y122.length : Int) := of_decide_eq_true (za _)
            obtain ⟨ad127, e127, hx127_0⟩ := Kd.at_string (Kd.R_reads' HO_4.out).2.2 x5_1 p127 q127
            obtain rfl : ad125 = ad127 := (by injection e127)
            replace p127 := eq_true p127
            replace q127 := eq_true q127
            have p128 : 0 ≤ (x5_1 : Int) := of_decide_eq_true (za _)
            have q128 : x5_1 < (y122.length : Int) := of_decide_eq_true (za _)
            obtain ⟨ad128, e128, hx128_0⟩ := Kd.at_string (Kd.R_reads' HO_4.out).2.2 x5_1 p128 q128
            obtain rfl : ad125 = ad128 := (by injection e128)
            replace p128 := eq_true p128
            replace q128 := eq_true q128
            go_wp2
            repeat (go_quiet (fail); try go_wp2)
            go_ret2
            exact ⟨ze _, zb _⟩
           ·rw [if_neg c12] at H
            have c12b0 : ((a0.extract (x6_2 : Int).toNat ((wrap64 (x6_2 + ((rdOf ByteArray.empty y122 x5_1).size : Int))) : Int).toNat).toList == (rdOf ByteArray.empty y122 x5_1).toList) = false := beq_eq_false_iff_ne.mpr c12
            have c12b1 : ((a0.extract (x6_2 : Int).toNat ((wrap64 (x6_2 + ((rdOf ByteArray.empty y122 x5_1).size : Int))) : Int).toNat).toList != (rdOf ByteArray.empty y122 x5_1).toList) = true := bne_iff_ne.mpr c12
            have H' := Aside0.mk H
            clear H
            have p125 : 0 ≤ (x5_1 : Int) := of_decide_eq_true (za _)
            have q125 : x5_1 < (y122.length : Int) := of_decide_eq_true (za _)
            obtain ⟨ad125, e125, hx125_0⟩ := Kd.at_string (Kd.R_reads' HO_4.out).2.2 x5_1 p125 q125
            cases e125
            replace p125 := eq_true p125
            replace q125 := eq_true q125
            have p126 : 0 ≤ (x5_1 : Int) := of_decide_eq_true (za _)
            have q126 : x5_1 < (y122.length : Int) := of_decide_eq_true (za _)
            obtain ⟨ad126, e126, hx126_0⟩ := Kd.at_string (Kd.R_reads' HO_4.out).2.2 x5_1 p126 q126
            obtain rfl : ad125 = ad126 := (by injection e126)
            replace p126 := eq_true p126
            replace q126 := eq_true q126
            have p127 : 0 ≤ (x5_1 : Int) := of_decide_eq_true (za _)
            have q127 : x5_1 < (y122.length : Int) := of_decide_eq_true (za _)
            obtain ⟨ad127, e127, hx127_0⟩ := Kd.at_string (Kd.R_reads' HO_4.out).2.2 x5_1 p127 q127
            obtain rfl : ad125 = ad127 := (by injection e127)
            replace p127 := eq_true p127
            replace q127 := eq_true q127
            go_wp2
            repeat (go_quiet (fail); try go_wp2)
            go_roundg k2
            case measure => have := HK1.out; have := HK2.out; omega
            case rel => exact ⟨(wrap64 (x6_2 + 1)), (zE _), H', ⟨by have := HK1.out; have := HK2.out; omega⟩, ⟨by (with_reducible repeat (first | apply Kd.R_alloc | apply Kd.R_drewN | apply Kd.R_drew)); exact HO_4.out⟩, ⟨zb _⟩⟩
          ·rw [if_neg c10] at H
           exact absurd H (by simp)
         ·rw [if_neg c9] at H
          exact absurd H (by simp)
        ·rw [if_neg c8] at H
         have c8b0 : decide ((wrap64 (x6_2 + ((rdOf ByteArray.empty y122 x5_1).size : Int))) ≤ (a0.size : Int)) = false := decide_eq_false c8
         clear c8
         have H' := Aside0.mk H
         clear H
         have p125 : 0 ≤ (x5_1 : Int) := of_decide_eq_true (za _)
         have q125 : x5_1 < (y122.length : Int) := of_decide_eq_true (za _)
         obtain ⟨ad125, e125, hx125_0⟩ := Kd.at_string (Kd.R_reads' HO_4.out).2.2 x5_1 p125 q125
         cases e125
         replace p125 := eq_true p125
         replace q125 := eq_true q125
         go_wp2
         repeat (go_quiet (fail); try go_wp2)
         go_roundg k2
         case measure => have := HK1.out; have := HK2.out; omega
         case rel => exact ⟨(wrap64 (x5_1 + 1)), (zE _), H', ⟨by have := HK1.out; have := HK2.out; omega⟩, ⟨by (with_reducible repeat (first | apply Kd.R_alloc | apply Kd.R_drewN | apply Kd.R_drew)); exact HO_4.out⟩, ⟨zb _⟩⟩
       ·rw [if_neg c7] at H
        exact absurd H (by simp)
      ·rw [if_neg c6] at H
       exact absurd H (by simp)
   ·rw [if_neg c4] at H
    have c4b0 : decide (x5_1 < (y122.length : Int)) = false := decide_eq_false c4
    clear c4
    simp only [Option.some.injEq, Prod.mk.injEq] at H
    obtain ⟨rfl, rfl⟩ := H
    obtain ⟨Ao13, co13, eo13⟩ := Kd.R_slice HO_4.out
    subst eo13
    go_wp2
    repeat (go_quiet (fail); try go_wp2)
    go_ret2
    exact ⟨ze _, zb _⟩

end Go.Proofs.YtmiebnpmckjidaaGreatDoor.PFnExactReadInsText
