/- What the Go functions that the law FnExactTemplateOf reaches compute, function by function, and that Go comes to just that. -/
import Derived.Test.YtmiebnpmckjidaaDoorPFnExactTemplateOfx0
import Derived.Test.YtmiebnpmckjidaaDoorPFnExactTemplateOfx1
namespace Go.Proofs.YtmiebnpmckjidaaDoor.PFnExactTemplateOf
open Go.RowKit Go.Proofs.YtmiebnpmckjidaaDoorW.PrintWords Go.Proofs.YtmiebnpmckjidaaDoorW.PrintLast Go.Proofs.YtmiebnpmckjidaaDoorW.PrintMore
attribute [local go_sem] max2_int min2_int max_two min_two max_three min_three max_four min_four   -- for this text's walks alone
set_option linter.unusedVariables false
set_option linter.unusedSimpArgs false

/-! ### spec_l3Top: function 105 -/
open Go.Proofs.YtmiebnpmckjidaaDoor.Aid
def spec_l3Top.alusArr : Array Value := #[.string (⟨#[97, 100, 100]⟩ : ByteArray), .string (⟨#[97, 100, 99]⟩ : ByteArray), .string (⟨#[115, 117, 98]⟩ : ByteArray), .string (⟨#[115, 98, 99]⟩ : ByteArray), .string (⟨#[97, 110, 100]⟩ : ByteArray), .string (⟨#[120, 111, 114]⟩ : ByteArray), .string (⟨#[111, 114]⟩ : ByteArray), .string (⟨#[99, 112]⟩ : ByteArray)]
theorem spec_l3Top.alusC (w : World) : Calls Tryd.prog 104 #[] w fun e w' => e = .returned (.slice (some ⟨w.heap.size, 0, none⟩) 8 8) ∧ w' = w.alloc (.cells spec_l3Top.alusArr 9) := by
  go_enter Tryd.func104, Tryd.ntmps104
  go_wp2
  (first | go_ret | (apply bodyPost_ret; (exact results_tmp rfl _ _ _); rfl))
  exact ⟨rfl, rfl⟩
def spec_l3Top.condsArr : Array Value := #[.string (⟨#[110, 122]⟩ : ByteArray), .string (⟨#[122]⟩ : ByteArray), .string (⟨#[110, 99]⟩ : ByteArray), .string (⟨#[99]⟩ : ByteArray)]
theorem spec_l3Top.condsC (w : World) : Calls Tryd.prog 137 #[] w fun e w' => e = .returned (.slice (some ⟨w.heap.size, 0, none⟩) 4 4) ∧ w' = w.alloc (.cells spec_l3Top.condsArr 9) := by
  go_enter Tryd.func137, Tryd.ntmps137
  go_wp2
  (first | go_ret | (apply bodyPost_ret; (exact results_tmp rfl _ _ _); rfl))
  exact ⟨rfl, rfl⟩
set_option maxRecDepth 100000 in
set_option maxHeartbeats 8000000 in
theorem spec_l3Top.s0 (y : Nat) (s : ByteArray) (h4 : (y : Int) < 4) (hs : spec_l3Top.condsArr[y]? = some (.string s)) (ls : (y : Int) < 4) (zs : s.size ≤ 100) (w : World) : Calls Tryd.prog 105 #[.int .i64 (y : Int), .int .i64 0] w fun e w' => e = .returned (.string ((⟨#[114, 101, 116, 32]⟩ : ByteArray) ++ s)) ∧ Below w.heap.size w w' := by
  go_enter Tryd.func105, Tryd.ntmps105
  go_wp2_with (go_at_call 137; refine (spec_l3Top.condsC _).mono ?_; rintro e w' ⟨rfl, rfl⟩)
  (first | go_ret | (apply bodyPost_ret; (exact results_tmp rfl _ _ _); rfl))
  exact ⟨by first | rfl | decide, by repeat (first | exact Below.refl _ _ | apply below_alloc | apply pw_below_drewN | apply below_drew)⟩
set_option maxRecDepth 100000 in
set_option maxHeartbeats 8000000 in
theorem spec_l3Top.w4_0 (w : World) : Calls Tryd.prog 105 #[.int .i64 4, .int .i64 0] w fun e w' => e = .returned (.string (⟨#[108, 100, 104, 32, 91, 110, 56, 93, 44, 97]⟩ : ByteArray)) ∧ Below w.heap.size w w' := by
  go_enter Tryd.func105, Tryd.ntmps105
  go_wp2
  (first | go_ret | (apply bodyPost_ret; (exact results_tmp rfl _ _ _); rfl))
  exact ⟨by first | rfl | decide, by repeat (first | exact Below.refl _ _ | apply below_alloc | apply pw_below_drewN | apply below_drew)⟩
set_option maxRecDepth 100000 in
set_option maxHeartbeats 8000000 in
theorem spec_l3Top.w5_0 (w : World) : Calls Tryd.prog 105 #[.int .i64 5, .int .i64 0] w fun e w' => e = .returned (.string (⟨#[97, 100, 100, 32, 115, 112, 44, 101, 56]⟩ : ByteArray)) ∧ Below w.heap.size w w' := by
  go_enter Tryd.func105, Tryd.ntmps105
  go_wp2
  (first | go_ret | (apply bodyPost_ret; (exact results_tmp rfl _ _ _); rfl))
  exact ⟨by first | rfl | decide, by repeat (first | exact Below.refl _ _ | apply below_alloc | apply pw_below_drewN | apply below_drew)⟩
set_option maxRecDepth 100000 in
set_option maxHeartbeats 8000000 in
theorem spec_l3Top.w6_0 (w : World) : Calls Tryd.prog 105 #[.int .i64 6, .int .i64 0] w fun e w' => e = .returned (.string (⟨#[108, 100, 104, 32, 97, 44, 91, 110, 56, 93]⟩ : ByteArray)) ∧ Below w.heap.size w w' := by
  go_enter Tryd.func105, Tryd.ntmps105
  go_wp2
  (first | go_ret | (apply bodyPost_ret; (exact results_tmp rfl _ _ _); rfl))
  exact ⟨by first | rfl | decide, by repeat (first | exact Below.refl _ _ | apply below_alloc | apply pw_below_drewN | apply below_drew)⟩
set_option maxRecDepth 100000 in
set_option maxHeartbeats 8000000 in
theorem spec_l3Top.w7_0 (w : World) : Calls Tryd.prog 105 #[.int .i64 7, .int .i64 0] w fun e w' => e = .returned (.string (⟨#[108, 100, 32, 104, 108, 44, 115, 112, 43, 101, 56]⟩ : ByteArray)) ∧ Below w.heap.size w w' := by
  go_enter Tryd.func105, Tryd.ntmps105
  go_wp2
  (first | go_ret | (apply bodyPost_ret; (exact results_tmp rfl _ _ _); rfl))
  exact ⟨by first | rfl | decide, by repeat (first | exact Below.refl _ _ | apply below_alloc | apply pw_below_drewN | apply below_drew)⟩
set_option maxRecDepth 100000 in
set_option maxHeartbeats 8000000 in
theorem spec_l3Top.s2 (y : Nat) (s : ByteArray) (h4 : (y : Int) < 4) (hs : spec_l3Top.condsArr[y]? = some (.string s)) (ls : (y : Int) < 4) (zs : s.size ≤ 100) (w : World) : Calls Tryd.prog 105 #[.int .i64 (y : Int), .int .i64 2] w fun e w' => e = .returned (.string (((⟨#[106, 112, 32]⟩ : ByteArray) ++ s) ++ (⟨#[44, 110, 49, 54]⟩ : ByteArray))) ∧ Below w.heap.size w w' := by
  go_enter Tryd.func105, Tryd.ntmps105
  go_wp2_with (go_at_call 137; refine (spec_l3Top.condsC _).mono ?_; rintro e w' ⟨rfl, rfl⟩)
  (first | go_ret | (apply bodyPost_ret; (exact results_tmp rfl _ _ _); rfl))
  exact ⟨by first | rfl | decide, by repeat (first | exact Below.refl _ _ | apply below_alloc | apply pw_below_drewN | apply below_drew)⟩
set_option maxRecDepth 100000 in
set_option maxHeartbeats 8000000 in
theorem spec_l3Top.w4_2 (w : World) : Calls Tryd.prog 105 #[.int .i64 4, .int .i64 2] w fun e w' => e = .returned (.string (⟨#[108, 100, 104, 32, 91, 99, 93, 44, 97]⟩ : ByteArray)) ∧ Below w.heap.size w w' := by
  go_enter Tryd.func105, Tryd.ntmps105
  go_wp2
  (first | go_ret | (apply bodyPost_ret; (exact results_tmp rfl _ _ _); rfl))
  exact ⟨by first | rfl | decide, by repeat (first | exact Below.refl _ _ | apply below_alloc | apply pw_below_drewN | apply below_drew)⟩
set_option maxRecDepth 100000 in
set_option maxHeartbeats 8000000 in
theorem spec_l3Top.w5_2 (w : World) : Calls Tryd.prog 105 #[.int .i64 5, .int .i64 2] w fun e w' => e = .returned (.string (⟨#[108, 100, 32, 91, 110, 49, 54, 93, 44, 97]⟩ : ByteArray)) ∧ Below w.heap.size w w' := by
  go_enter Tryd.func105, Tryd.ntmps105
  go_wp2
  (first | go_ret | (apply bodyPost_ret; (exact results_tmp rfl _ _ _); rfl))
  exact ⟨by first | rfl | decide, by repeat (first | exact Below.refl _ _ | apply below_alloc | apply pw_below_drewN | apply below_drew)⟩
set_option maxRecDepth 100000 in
set_option maxHeartbeats 8000000 in
theorem spec_l3Top.w6_2 (w : World) : Calls Tryd.prog 105 #[.int .i64 6, .int .i64 2] w fun e w' => e = .returned (.string (⟨#[108, 100, 104, 32, 97, 44, 91, 99, 93]⟩ : ByteArray)) ∧ Below w.heap.size w w' := by
  go_enter Tryd.func105, Tryd.ntmps105
  go_wp2
  (first | go_ret | (apply bodyPost_ret; (exact results_tmp rfl _ _ _); rfl))
  exact ⟨by first | rfl | decide, by repeat (first | exact Below.refl _ _ | apply below_alloc | apply pw_below_drewN | apply below_drew)⟩
set_option maxRecDepth 100000 in
set_option maxHeartbeats 8000000 in
theorem spec_l3Top.w7_2 (w : World) : Calls Tryd.prog 105 #[.int .i64 7, .int .i64 2] w fun e w' => e = .returned (.string (⟨#[108, 100, 32, 97, 44, 91, 110, 49, 54, 93]⟩ : ByteArray)) ∧ Below w.heap.size w w' := by
  go_enter Tryd.func105, Tryd.ntmps105
  go_wp2
  (first | go_ret | (apply bodyPost_ret; (exact results_tmp rfl _ _ _); rfl))
  exact ⟨by first | rfl | decide, by repeat (first | exact Below.refl _ _ | apply below_alloc | apply pw_below_drewN | apply below_drew)⟩
set_option maxRecDepth 100000 in
set_option maxHeartbeats 8000000 in
theorem spec_l3Top.s4 (y : Nat) (s : ByteArray) (h4 : (y : Int) < 4) (hs : spec_l3Top.condsArr[y]? = some (.string s)) (ls : (y : Int) < 4) (zs : s.size ≤ 100) (w : World) : Calls Tryd.prog 105 #[.int .i64 (y : Int), .int .i64 4] w fun e w' => e = .returned (.string (((⟨#[99, 97, 108, 108, 32]⟩ : ByteArray) ++ s) ++ (⟨#[44, 110, 49, 54]⟩ : ByteArray))) ∧ Below w.heap.size w w' := by
  go_enter Tryd.func105, Tryd.ntmps105
  go_wp2_with (go_at_call 137; refine (spec_l3Top.condsC _).mono ?_; rintro e w' ⟨rfl, rfl⟩)
  (first | go_ret | (apply bodyPost_ret; (exact results_tmp rfl _ _ _); rfl))
  exact ⟨by first | rfl | decide, by repeat (first | exact Below.refl _ _ | apply below_alloc | apply pw_below_drewN | apply below_drew)⟩
set_option maxRecDepth 100000 in
set_option maxHeartbeats 8000000 in
theorem spec_l3Top.w4_4 (w : World) : Calls Tryd.prog 105 #[.int .i64 4, .int .i64 4] w fun e w' => e = .returned (.string (⟨#[]⟩ : ByteArray)) ∧ Below w.heap.size w w' := by
  go_enter Tryd.func105, Tryd.ntmps105
  go_wp2
  (first | go_ret | (apply bodyPost_ret; (exact results_tmp rfl _ _ _); rfl))
  exact ⟨by first | rfl | decide, by repeat (first | exact Below.refl _ _ | apply below_alloc | apply pw_below_drewN | apply below_drew)⟩
set_option maxRecDepth 100000 in
set_option maxHeartbeats 8000000 in
theorem spec_l3Top.w5_4 (w : World) : Calls Tryd.prog 105 #[.int .i64 5, .int .i64 4] w fun e w' => e = .returned (.string (⟨#[]⟩ : ByteArray)) ∧ Below w.heap.size w w' := by
  go_enter Tryd.func105, Tryd.ntmps105
  go_wp2
  (first | go_ret | (apply bodyPost_ret; (exact results_tmp rfl _ _ _); rfl))
  exact ⟨by first | rfl | decide, by repeat (first | exact Below.refl _ _ | apply below_alloc | apply pw_below_drewN | apply below_drew)⟩
set_option maxRecDepth 100000 in
set_option maxHeartbeats 8000000 in
theorem spec_l3Top.w6_4 (w : World) : Calls Tryd.prog 105 #[.int .i64 6, .int .i64 4] w fun e w' => e = .returned (.string (⟨#[]⟩ : ByteArray)) ∧ Below w.heap.size w w' := by
  go_enter Tryd.func105, Tryd.ntmps105
  go_wp2
  (first | go_ret | (apply bodyPost_ret; (exact results_tmp rfl _ _ _); rfl))
  exact ⟨by first | rfl | decide, by repeat (first | exact Below.refl _ _ | apply below_alloc | apply pw_below_drewN | apply below_drew)⟩
set_option maxRecDepth 100000 in
set_option maxHeartbeats 8000000 in
theorem spec_l3Top.w7_4 (w : World) : Calls Tryd.prog 105 #[.int .i64 7, .int .i64 4] w fun e w' => e = .returned (.string (⟨#[]⟩ : ByteArray)) ∧ Below w.heap.size w w' := by
  go_enter Tryd.func105, Tryd.ntmps105
  go_wp2
  (first | go_ret | (apply bodyPost_ret; (exact results_tmp rfl _ _ _); rfl))
  exact ⟨by first | rfl | decide, by repeat (first | exact Below.refl _ _ | apply below_alloc | apply pw_below_drewN | apply below_drew)⟩
set_option maxRecDepth 100000 in
set_option maxHeartbeats 8000000 in
theorem spec_l3Top.w0_1 (w : World) : Calls Tryd.prog 105 #[.int .i64 0, .int .i64 1] w fun e w' => e = .returned (.string (⟨#[112, 111, 112, 32, 98, 99]⟩ : ByteArray)) ∧ Below w.heap.size w w' := by
  go_enter Tryd.func105, Tryd.ntmps105
  go_wp2
  (first | go_ret | (apply bodyPost_ret; (exact results_tmp rfl _ _ _); rfl))
  exact ⟨by first | rfl | decide, by repeat (first | exact Below.refl _ _ | apply below_alloc | apply pw_below_drewN | apply below_drew)⟩
set_option maxRecDepth 100000 in
set_option maxHeartbeats 8000000 in
theorem spec_l3Top.w1_1 (w : World) : Calls Tryd.prog 105 #[.int .i64 1, .int .i64 1] w fun e w' => e = .returned (.string (⟨#[114, 101, 116]⟩ : ByteArray)) ∧ Below w.heap.size w w' := by
  go_enter Tryd.func105, Tryd.ntmps105
  go_wp2
  (first | go_ret | (apply bodyPost_ret; (exact results_tmp rfl _ _ _); rfl))
  exact ⟨by first | rfl | decide, by repeat (first | exact Below.refl _ _ | apply below_alloc | apply pw_below_drewN | apply below_drew)⟩
set_option maxRecDepth 100000 in
set_option maxHeartbeats 8000000 in
theorem spec_l3Top.w2_1 (w : World) : Calls Tryd.prog 105 #[.int .i64 2, .int .i64 1] w fun e w' => e = .returned (.string (⟨#[112, 111, 112, 32, 100, 101]⟩ : ByteArray)) ∧ Below w.heap.size w w' := by
  go_enter Tryd.func105, Tryd.ntmps105
  go_wp2
  (first | go_ret | (apply bodyPost_ret; (exact results_tmp rfl _ _ _); rfl))
  exact ⟨by first | rfl | decide, by repeat (first | exact Below.refl _ _ | apply below_alloc | apply pw_below_drewN | apply below_drew)⟩
set_option maxRecDepth 100000 in
set_option maxHeartbeats 8000000 in
theorem spec_l3Top.w3_1 (w : World) : Calls Tryd.prog 105 #[.int .i64 3, .int .i64 1] w fun e w' => e = .returned (.string (⟨#[114, 101, 116, 105]⟩ : ByteArray)) ∧ Below w.heap.size w w' := by
  go_enter Tryd.func105, Tryd.ntmps105
  go_wp2
  (first | go_ret | (apply bodyPost_ret; (exact results_tmp rfl _ _ _); rfl))
  exact ⟨by first | rfl | decide, by repeat (first | exact Below.refl _ _ | apply below_alloc | apply pw_below_drewN | apply below_drew)⟩
set_option maxRecDepth 100000 in
set_option maxHeartbeats 8000000 in
theorem spec_l3Top.w4_1 (w : World) : Calls Tryd.prog 105 #[.int .i64 4, .int .i64 1] w fun e w' => e = .returned (.string (⟨#[112, 111, 112, 32, 104, 108]⟩ : ByteArray)) ∧ Below w.heap.size w w' := by
  go_enter Tryd.func105, Tryd.ntmps105
  go_wp2
  (first | go_ret | (apply bodyPost_ret; (exact results_tmp rfl _ _ _); rfl))
  exact ⟨by first | rfl | decide, by repeat (first | exact Below.refl _ _ | apply below_alloc | apply pw_below_drewN | apply below_drew)⟩
set_option maxRecDepth 100000 in
set_option maxHeartbeats 8000000 in
theorem spec_l3Top.w5_1 (w : World) : Calls Tryd.prog 105 #[.int .i64 5, .int .i64 1] w fun e w' => e = .returned (.string (⟨#[106, 112, 32, 104, 108]⟩ : ByteArray)) ∧ Below w.heap.size w w' := by
  go_enter Tryd.func105, Tryd.ntmps105
  go_wp2
  (first | go_ret | (apply bodyPost_ret; (exact results_tmp rfl _ _ _); rfl))
  exact ⟨by first | rfl | decide, by repeat (first | exact Below.refl _ _ | apply below_alloc | apply pw_below_drewN | apply below_drew)⟩
set_option maxRecDepth 100000 in
set_option maxHeartbeats 8000000 in
theorem spec_l3Top.w6_1 (w : World) : Calls Tryd.prog 105 #[.int .i64 6, .int .i64 1] w fun e w' => e = .returned (.string (⟨#[112, 111, 112, 32, 97, 102]⟩ : ByteArray)) ∧ Below w.heap.size w w' := by
  go_enter Tryd.func105, Tryd.ntmps105
  go_wp2
  (first | go_ret | (apply bodyPost_ret; (exact results_tmp rfl _ _ _); rfl))
  exact ⟨by first | rfl | decide, by repeat (first | exact Below.refl _ _ | apply below_alloc | apply pw_below_drewN | apply below_drew)⟩
set_option maxRecDepth 100000 in
set_option maxHeartbeats 8000000 in
theorem spec_l3Top.w7_1 (w : World) : Calls Tryd.prog 105 #[.int .i64 7, .int .i64 1] w fun e w' => e = .returned (.string (⟨#[108, 100, 32, 115, 112, 44, 104, 108]⟩ : ByteArray)) ∧ Below w.heap.size w w' := by
  go_enter Tryd.func105, Tryd.ntmps105
  go_wp2
  (first | go_ret | (apply bodyPost_ret; (exact results_tmp rfl _ _ _); rfl))
  exact ⟨by first | rfl | decide, by repeat (first | exact Below.refl _ _ | apply below_alloc | apply pw_below_drewN | apply below_drew)⟩
set_option maxRecDepth 100000 in
set_option maxHeartbeats 8000000 in
theorem spec_l3Top.w0_3 (w : World) : Calls Tryd.prog 105 #[.int .i64 0, .int .i64 3] w fun e w' => e = .returned (.string (⟨#[106, 112, 32, 110, 49, 54]⟩ : ByteArray)) ∧ Below w.heap.size w w' := by
  go_enter Tryd.func105, Tryd.ntmps105
  go_wp2
  (first | go_ret | (apply bodyPost_ret; (exact results_tmp rfl _ _ _); rfl))
  exact ⟨by first | rfl | decide, by repeat (first | exact Below.refl _ _ | apply below_alloc | apply pw_below_drewN | apply below_drew)⟩
set_option maxRecDepth 100000 in
set_option maxHeartbeats 8000000 in
theorem spec_l3Top.w1_3 (w : World) : Calls Tryd.prog 105 #[.int .i64 1, .int .i64 3] w fun e w' => e = .returned (.string (⟨#[]⟩ : ByteArray)) ∧ Below w.heap.size w w' := by
  go_enter Tryd.func105, Tryd.ntmps105
  go_wp2
  (first | go_ret | (apply bodyPost_ret; (exact results_tmp rfl _ _ _); rfl))
  exact ⟨by first | rfl | decide, by repeat (first | exact Below.refl _ _ | apply below_alloc | apply pw_below_drewN | apply below_drew)⟩
set_option maxRecDepth 100000 in
set_option maxHeartbeats 8000000 in
theorem spec_l3Top.w2_3 (w : World) : Calls Tryd.prog 105 #[.int .i64 2, .int .i64 3] w fun e w' => e = .returned (.string (⟨#[]⟩ : ByteArray)) ∧ Below w.heap.size w w' := by
  go_enter Tryd.func105, Tryd.ntmps105
  go_wp2
  (first | go_ret | (apply bodyPost_ret; (exact results_tmp rfl _ _ _); rfl))
  exact ⟨by first | rfl | decide, by repeat (first | exact Below.refl _ _ | apply below_alloc | apply pw_below_drewN | apply below_drew)⟩
set_option maxRecDepth 100000 in
set_option maxHeartbeats 8000000 in
theorem spec_l3Top.w3_3 (w : World) : Calls Tryd.prog 105 #[.int .i64 3, .int .i64 3] w fun e w' => e = .returned (.string (⟨#[]⟩ : ByteArray)) ∧ Below w.heap.size w w' := by
  go_enter Tryd.func105, Tryd.ntmps105
  go_wp2
  (first | go_ret | (apply bodyPost_ret; (exact results_tmp rfl _ _ _); rfl))
  exact ⟨by first | rfl | decide, by repeat (first | exact Below.refl _ _ | apply below_alloc | apply pw_below_drewN | apply below_drew)⟩
set_option maxRecDepth 100000 in
set_option maxHeartbeats 8000000 in
theorem spec_l3Top.w4_3 (w : World) : Calls Tryd.prog 105 #[.int .i64 4, .int .i64 3] w fun e w' => e = .returned (.string (⟨#[]⟩ : ByteArray)) ∧ Below w.heap.size w w' := by
  go_enter Tryd.func105, Tryd.ntmps105
  go_wp2
  (first | go_ret | (apply bodyPost_ret; (exact results_tmp rfl _ _ _); rfl))
  exact ⟨by first | rfl | decide, by repeat (first | exact Below.refl _ _ | apply below_alloc | apply pw_below_drewN | apply below_drew)⟩
set_option maxRecDepth 100000 in
set_option maxHeartbeats 8000000 in
theorem spec_l3Top.w5_3 (w : World) : Calls Tryd.prog 105 #[.int .i64 5, .int .i64 3] w fun e w' => e = .returned (.string (⟨#[]⟩ : ByteArray)) ∧ Below w.heap.size w w' := by
  go_enter Tryd.func105, Tryd.ntmps105
  go_wp2
  (first | go_ret | (apply bodyPost_ret; (exact results_tmp rfl _ _ _); rfl))
  exact ⟨by first | rfl | decide, by repeat (first | exact Below.refl _ _ | apply below_alloc | apply pw_below_drewN | apply below_drew)⟩
set_option maxRecDepth 100000 in
set_option maxHeartbeats 8000000 in
theorem spec_l3Top.w6_3 (w : World) : Calls Tryd.prog 105 #[.int .i64 6, .int .i64 3] w fun e w' => e = .returned (.string (⟨#[100, 105]⟩ : ByteArray)) ∧ Below w.heap.size w w' := by
  go_enter Tryd.func105, Tryd.ntmps105
  go_wp2
  (first | go_ret | (apply bodyPost_ret; (exact results_tmp rfl _ _ _); rfl))
  exact ⟨by first | rfl | decide, by repeat (first | exact Below.refl _ _ | apply below_alloc | apply pw_below_drewN | apply below_drew)⟩
set_option maxRecDepth 100000 in
set_option maxHeartbeats 8000000 in
theorem spec_l3Top.w7_3 (w : World) : Calls Tryd.prog 105 #[.int .i64 7, .int .i64 3] w fun e w' => e = .returned (.string (⟨#[101, 105]⟩ : ByteArray)) ∧ Below w.heap.size w w' := by
  go_enter Tryd.func105, Tryd.ntmps105
  go_wp2
  (first | go_ret | (apply bodyPost_ret; (exact results_tmp rfl _ _ _); rfl))
  exact ⟨by first | rfl | decide, by repeat (first | exact Below.refl _ _ | apply below_alloc | apply pw_below_drewN | apply below_drew)⟩
set_option maxRecDepth 100000 in
set_option maxHeartbeats 8000000 in
theorem spec_l3Top.w0_5 (w : World) : Calls Tryd.prog 105 #[.int .i64 0, .int .i64 5] w fun e w' => e = .returned (.string (⟨#[112, 117, 115, 104, 32, 98, 99]⟩ : ByteArray)) ∧ Below w.heap.size w w' := by
  go_enter Tryd.func105, Tryd.ntmps105
  go_wp2
  (first | go_ret | (apply bodyPost_ret; (exact results_tmp rfl _ _ _); rfl))
  exact ⟨by first | rfl | decide, by repeat (first | exact Below.refl _ _ | apply below_alloc | apply pw_below_drewN | apply below_drew)⟩
set_option maxRecDepth 100000 in
set_option maxHeartbeats 8000000 in
theorem spec_l3Top.w1_5 (w : World) : Calls Tryd.prog 105 #[.int .i64 1, .int .i64 5] w fun e w' => e = .returned (.string (⟨#[99, 97, 108, 108, 32, 110, 49, 54]⟩ : ByteArray)) ∧ Below w.heap.size w w' := by
  go_enter Tryd.func105, Tryd.ntmps105
  go_wp2
  (first | go_ret | (apply bodyPost_ret; (exact results_tmp rfl _ _ _); rfl))
  exact ⟨by first | rfl | decide, by repeat (first | exact Below.refl _ _ | apply below_alloc | apply pw_below_drewN | apply below_drew)⟩
set_option maxRecDepth 100000 in
set_option maxHeartbeats 8000000 in
theorem spec_l3Top.w2_5 (w : World) : Calls Tryd.prog 105 #[.int .i64 2, .int .i64 5] w fun e w' => e = .returned (.string (⟨#[112, 117, 115, 104, 32, 100, 101]⟩ : ByteArray)) ∧ Below w.heap.size w w' := by
  go_enter Tryd.func105, Tryd.ntmps105
  go_wp2
  (first | go_ret | (apply bodyPost_ret; (exact results_tmp rfl _ _ _); rfl))
  exact ⟨by first | rfl | decide, by repeat (first | exact Below.refl _ _ | apply below_alloc | apply pw_below_drewN | apply below_drew)⟩
set_option maxRecDepth 100000 in
set_option maxHeartbeats 8000000 in
theorem spec_l3Top.w3_5 (w : World) : Calls Tryd.prog 105 #[.int .i64 3, .int .i64 5] w fun e w' => e = .returned (.string (⟨#[]⟩ : ByteArray)) ∧ Below w.heap.size w w' := by
  go_enter Tryd.func105, Tryd.ntmps105
  go_wp2
  (first | go_ret | (apply bodyPost_ret; (exact results_tmp rfl _ _ _); rfl))
  exact ⟨by first | rfl | decide, by repeat (first | exact Below.refl _ _ | apply below_alloc | apply pw_below_drewN | apply below_drew)⟩
set_option maxRecDepth 100000 in
set_option maxHeartbeats 8000000 in
theorem spec_l3Top.w4_5 (w : World) : Calls Tryd.prog 105 #[.int .i64 4, .int .i64 5] w fun e w' => e = .returned (.string (⟨#[112, 117, 115, 104, 32, 104, 108]⟩ : ByteArray)) ∧ Below w.heap.size w w' := by
  go_enter Tryd.func105, Tryd.ntmps105
  go_wp2
  (first | go_ret | (apply bodyPost_ret; (exact results_tmp rfl _ _ _); rfl))
  exact ⟨by first | rfl | decide, by repeat (first | exact Below.refl _ _ | apply below_alloc | apply pw_below_drewN | apply below_drew)⟩
set_option maxRecDepth 100000 in
set_option maxHeartbeats 8000000 in
theorem spec_l3Top.w5_5 (w : World) : Calls Tryd.prog 105 #[.int .i64 5, .int .i64 5] w fun e w' => e = .returned (.string (⟨#[]⟩ : ByteArray)) ∧ Below w.heap.size w w' := by
  go_enter Tryd.func105, Tryd.ntmps105
  go_wp2
  (first | go_ret | (apply bodyPost_ret; (exact results_tmp rfl _ _ _); rfl))
  exact ⟨by first | rfl | decide, by repeat (first | exact Below.refl _ _ | apply below_alloc | apply pw_below_drewN | apply below_drew)⟩
set_option maxRecDepth 100000 in
set_option maxHeartbeats 8000000 in
theorem spec_l3Top.w6_5 (w : World) : Calls Tryd.prog 105 #[.int .i64 6, .int .i64 5] w fun e w' => e = .returned (.string (⟨#[112, 117, 115, 104, 32, 97, 102]⟩ : ByteArray)) ∧ Below w.heap.size w w' := by
  go_enter Tryd.func105, Tryd.ntmps105
  go_wp2
  (first | go_ret | (apply bodyPost_ret; (exact results_tmp rfl _ _ _); rfl))
  exact ⟨by first | rfl | decide, by repeat (first | exact Below.refl _ _ | apply below_alloc | apply pw_below_drewN | apply below_drew)⟩
set_option maxRecDepth 100000 in
set_option maxHeartbeats 8000000 in
theorem spec_l3Top.w7_5 (w : World) : Calls Tryd.prog 105 #[.int .i64 7, .int .i64 5] w fun e w' => e = .returned (.string (⟨#[]⟩ : ByteArray)) ∧ Below w.heap.size w w' := by
  go_enter Tryd.func105, Tryd.ntmps105
  go_wp2
  (first | go_ret | (apply bodyPost_ret; (exact results_tmp rfl _ _ _); rfl))
  exact ⟨by first | rfl | decide, by repeat (first | exact Below.refl _ _ | apply below_alloc | apply pw_below_drewN | apply below_drew)⟩
set_option maxRecDepth 100000 in
set_option maxHeartbeats 8000000 in
theorem spec_l3Top.s6 (y : Nat) (s : ByteArray) (hs : spec_l3Top.alusArr[y]? = some (.string s)) (ls : (y : Int) < 8) (zs : s.size ≤ 100) (w : World) : Calls Tryd.prog 105 #[.int .i64 (y : Int), .int .i64 6] w fun e w' => e = .returned (.string (s ++ (⟨#[32, 97, 44, 110, 56]⟩ : ByteArray))) ∧ Below w.heap.size w w' := by
  go_enter Tryd.func105, Tryd.ntmps105
  go_wp2_with (go_at_call 104; refine (spec_l3Top.alusC _).mono ?_; rintro e w' ⟨rfl, rfl⟩)
  (first | go_ret | (apply bodyPost_ret; (exact results_tmp rfl _ _ _); rfl))
  exact ⟨by first | rfl | decide, by repeat (first | exact Below.refl _ _ | apply below_alloc | apply pw_below_drewN | apply below_drew)⟩
set_option maxRecDepth 100000 in
set_option maxHeartbeats 8000000 in
theorem spec_l3Top.w0_7 (w : World) : Calls Tryd.prog 105 #[.int .i64 0, .int .i64 7] w fun e w' => e = .returned (.string (⟨#[114, 115, 116, 32, 36, 48, 48]⟩ : ByteArray)) ∧ Below w.heap.size w w' := by
  go_enter Tryd.func105, Tryd.ntmps105
  go_wp2_with (go_at_call 14; refine (spec_HexOf.calls 10 _ _ (⟨#[36, 48, 48]⟩ : ByteArray) _ (by decide +kernel)).mono ?_; rintro e w' ⟨rfl, hdr⟩; have hb := hdr.below)
  (first | go_ret | (apply bodyPost_ret; (exact results_tmp rfl _ _ _); rfl))
  exact ⟨by first | rfl | decide, by repeat (first | exact Below.refl _ _ | exact below_step (by repeat (first | exact Below.refl _ _ | apply below_alloc | apply pw_below_drewN | apply below_drew)) hb | apply below_alloc | apply pw_below_drewN | apply below_drew)⟩
set_option maxRecDepth 100000 in
set_option maxHeartbeats 8000000 in
theorem spec_l3Top.w1_7 (w : World) : Calls Tryd.prog 105 #[.int .i64 1, .int .i64 7] w fun e w' => e = .returned (.string (⟨#[114, 115, 116, 32, 36, 48, 56]⟩ : ByteArray)) ∧ Below w.heap.size w w' := by
  go_enter Tryd.func105, Tryd.ntmps105
  go_wp2_with (go_at_call 14; refine (spec_HexOf.calls 10 _ _ (⟨#[36, 48, 56]⟩ : ByteArray) _ (by decide +kernel)).mono ?_; rintro e w' ⟨rfl, hdr⟩; have hb := hdr.below)
  (first | go_ret | (apply bodyPost_ret; (exact results_tmp rfl _ _ _); rfl))
  exact ⟨by first | rfl | decide, by repeat (first | exact Below.refl _ _ | exact below_step (by repeat (first | exact Below.refl _ _ | apply below_alloc | apply pw_below_drewN | apply below_drew)) hb | apply below_alloc | apply pw_below_drewN | apply below_drew)⟩
set_option maxRecDepth 100000 in
set_option maxHeartbeats 8000000 in
theorem spec_l3Top.w2_7 (w : World) : Calls Tryd.prog 105 #[.int .i64 2, .int .i64 7] w fun e w' => e = .returned (.string (⟨#[114, 115, 116, 32, 36, 49, 48]⟩ : ByteArray)) ∧ Below w.heap.size w w' := by
  go_enter Tryd.func105, Tryd.ntmps105
  go_wp2_with (go_at_call 14; refine (spec_HexOf.calls 10 _ _ (⟨#[36, 49, 48]⟩ : ByteArray) _ (by decide +kernel)).mono ?_; rintro e w' ⟨rfl, hdr⟩; have hb := hdr.below)
  (first | go_ret | (apply bodyPost_ret; (exact results_tmp rfl _ _ _); rfl))
  exact ⟨by first | rfl | decide, by repeat (first | exact Below.refl _ _ | exact below_step (by repeat (first | exact Below.refl _ _ | apply below_alloc | apply pw_below_drewN | apply below_drew)) hb | apply below_alloc | apply pw_below_drewN | apply below_drew)⟩
set_option maxRecDepth 100000 in
set_option maxHeartbeats 8000000 in
theorem spec_l3Top.w3_7 (w : World) : Calls Tryd.prog 105 #[.int .i64 3, .int .i64 7] w fun e w' => e = .returned (.string (⟨#[114, 115, 116, 32, 36, 49, 56]⟩ : ByteArray)) ∧ Below w.heap.size w w' := by
  go_enter Tryd.func105, Tryd.ntmps105
  go_wp2_with (go_at_call 14; refine (spec_HexOf.calls 10 _ _ (⟨#[36, 49, 56]⟩ : ByteArray) _ (by decide +kernel)).mono ?_; rintro e w' ⟨rfl, hdr⟩; have hb := hdr.below)
  (first | go_ret | (apply bodyPost_ret; (exact results_tmp rfl _ _ _); rfl))
  exact ⟨by first | rfl | decide, by repeat (first | exact Below.refl _ _ | exact below_step (by repeat (first | exact Below.refl _ _ | apply below_alloc | apply pw_below_drewN | apply below_drew)) hb | apply below_alloc | apply pw_below_drewN | apply below_drew)⟩
set_option maxRecDepth 100000 in
set_option maxHeartbeats 8000000 in
theorem spec_l3Top.w4_7 (w : World) : Calls Tryd.prog 105 #[.int .i64 4, .int .i64 7] w fun e w' => e = .returned (.string (⟨#[114, 115, 116, 32, 36, 50, 48]⟩ : ByteArray)) ∧ Below w.heap.size w w' := by
  go_enter Tryd.func105, Tryd.ntmps105
  go_wp2_with (go_at_call 14; refine (spec_HexOf.calls 10 _ _ (⟨#[36, 50, 48]⟩ : ByteArray) _ (by decide +kernel)).mono ?_; rintro e w' ⟨rfl, hdr⟩; have hb := hdr.below)
  (first | go_ret | (apply bodyPost_ret; (exact results_tmp rfl _ _ _); rfl))
  exact ⟨by first | rfl | decide, by repeat (first | exact Below.refl _ _ | exact below_step (by repeat (first | exact Below.refl _ _ | apply below_alloc | apply pw_below_drewN | apply below_drew)) hb | apply below_alloc | apply pw_below_drewN | apply below_drew)⟩
set_option maxRecDepth 100000 in
set_option maxHeartbeats 8000000 in
theorem spec_l3Top.w5_7 (w : World) : Calls Tryd.prog 105 #[.int .i64 5, .int .i64 7] w fun e w' => e = .returned (.string (⟨#[114, 115, 116, 32, 36, 50, 56]⟩ : ByteArray)) ∧ Below w.heap.size w w' := by
  go_enter Tryd.func105, Tryd.ntmps105
  go_wp2_with (go_at_call 14; refine (spec_HexOf.calls 10 _ _ (⟨#[36, 50, 56]⟩ : ByteArray) _ (by decide +kernel)).mono ?_; rintro e w' ⟨rfl, hdr⟩; have hb := hdr.below)
  (first | go_ret | (apply bodyPost_ret; (exact results_tmp rfl _ _ _); rfl))
  exact ⟨by first | rfl | decide, by repeat (first | exact Below.refl _ _ | exact below_step (by repeat (first | exact Below.refl _ _ | apply below_alloc | apply pw_below_drewN | apply below_drew)) hb | apply below_alloc | apply pw_below_drewN | apply below_drew)⟩
set_option maxRecDepth 100000 in
set_option maxHeartbeats 8000000 in
theorem spec_l3Top.w6_7 (w : World) : Calls Tryd.prog 105 #[.int .i64 6, .int .i64 7] w fun e w' => e = .returned (.string (⟨#[114, 115, 116, 32, 36, 51, 48]⟩ : ByteArray)) ∧ Below w.heap.size w w' := by
  go_enter Tryd.func105, Tryd.ntmps105
  go_wp2_with (go_at_call 14; refine (spec_HexOf.calls 10 _ _ (⟨#[36, 51, 48]⟩ : ByteArray) _ (by decide +kernel)).mono ?_; rintro e w' ⟨rfl, hdr⟩; have hb := hdr.below)
  (first | go_ret | (apply bodyPost_ret; (exact results_tmp rfl _ _ _); rfl))
  exact ⟨by first | rfl | decide, by repeat (first | exact Below.refl _ _ | exact below_step (by repeat (first | exact Below.refl _ _ | apply below_alloc | apply pw_below_drewN | apply below_drew)) hb | apply below_alloc | apply pw_below_drewN | apply below_drew)⟩
set_option maxRecDepth 100000 in
set_option maxHeartbeats 8000000 in
theorem spec_l3Top.w7_7 (w : World) : Calls Tryd.prog 105 #[.int .i64 7, .int .i64 7] w fun e w' => e = .returned (.string (⟨#[114, 115, 116, 32, 36, 51, 56]⟩ : ByteArray)) ∧ Below w.heap.size w w' := by
  go_enter Tryd.func105, Tryd.ntmps105
  go_wp2_with (go_at_call 14; refine (spec_HexOf.calls 10 _ _ (⟨#[36, 51, 56]⟩ : ByteArray) _ (by decide +kernel)).mono ?_; rintro e w' ⟨rfl, hdr⟩; have hb := hdr.below)
  (first | go_ret | (apply bodyPost_ret; (exact results_tmp rfl _ _ _); rfl))
  exact ⟨by first | rfl | decide, by repeat (first | exact Below.refl _ _ | exact below_step (by repeat (first | exact Below.refl _ _ | apply below_alloc | apply pw_below_drewN | apply below_drew)) hb | apply below_alloc | apply pw_below_drewN | apply below_drew)⟩
def spec_l3Top.f (a0 a1 : Int) : Option ByteArray := if (0 ≤ a0 ∧ a0 < 8) ∧ (0 ≤ a1 ∧ a1 < 8) then some (topL.getD (8 * a1 + a0).toNat ⟨#[]⟩) else none
theorem spec_l3Top.calls (a0 a1 : Int) (r : ByteArray) (w : World) (h : spec_l3Top.f a0 a1 = some r) :
    Calls Tryd.prog 105 #[.int .i64 a0, .int .i64 a1] w fun e w' => e = .returned (.string r) ∧ Below w.heap.size w w' := by
  unfold spec_l3Top.f at h
  by_cases hr : (0 ≤ a0 ∧ a0 < 8) ∧ (0 ≤ a1 ∧ a1 < 8)
  · rw [if_pos hr] at h
    obtain rfl := Option.some.inj h
    have hy : a0 = 0 ∨ a0 = 1 ∨ a0 = 2 ∨ a0 = 3 ∨ a0 = 4 ∨ a0 = 5 ∨ a0 = 6 ∨ a0 = 7 := by omega
    have hz : a1 = 0 ∨ a1 = 1 ∨ a1 = 2 ∨ a1 = 3 ∨ a1 = 4 ∨ a1 = 5 ∨ a1 = 6 ∨ a1 = 7 := by omega
    clear hr h
    rcases hz with rfl | rfl | rfl | rfl | rfl | rfl | rfl | rfl
    · rcases hy with rfl | rfl | rfl | rfl | rfl | rfl | rfl | rfl
      · exact (spec_l3Top.s0 0 (⟨#[110, 122]⟩ : ByteArray) (by decide) rfl (by decide) (by decide) w).mono (by rintro e w' ⟨rfl, h⟩; exact ⟨by first | rfl | decide, h⟩)
      · exact (spec_l3Top.s0 1 (⟨#[122]⟩ : ByteArray) (by decide) rfl (by decide) (by decide) w).mono (by rintro e w' ⟨rfl, h⟩; exact ⟨by first | rfl | decide, h⟩)
      · exact (spec_l3Top.s0 2 (⟨#[110, 99]⟩ : ByteArray) (by decide) rfl (by decide) (by decide) w).mono (by rintro e w' ⟨rfl, h⟩; exact ⟨by first | rfl | decide, h⟩)
      · exact (spec_l3Top.s0 3 (⟨#[99]⟩ : ByteArray) (by decide) rfl (by decide) (by decide) w).mono (by rintro e w' ⟨rfl, h⟩; exact ⟨by first | rfl | decide, h⟩)
      · exact (spec_l3Top.w4_0 w).mono (by rintro e w' ⟨rfl, h⟩; exact ⟨by first | rfl | decide, h⟩)
      · exact (spec_l3Top.w5_0 w).mono (by rintro e w' ⟨rfl, h⟩; exact ⟨by first | rfl | decide, h⟩)
      · exact (spec_l3Top.w6_0 w).mono (by rintro e w' ⟨rfl, h⟩; exact ⟨by first | rfl | decide, h⟩)
      · exact (spec_l3Top.w7_0 w).mono (by rintro e w' ⟨rfl, h⟩; exact ⟨by first | rfl | decide, h⟩)
    · rcases hy with rfl | rfl | rfl | rfl | rfl | rfl | rfl | rfl
      · exact (spec_l3Top.w0_1 w).mono (by rintro e w' ⟨rfl, h⟩; exact ⟨by first | rfl | decide, h⟩)
      · exact (spec_l3Top.w1_1 w).mono (by rintro e w' ⟨rfl, h⟩; exact ⟨by first | rfl | decide, h⟩)
      · exact (spec_l3Top.w2_1 w).mono (by rintro e w' ⟨rfl, h⟩; exact ⟨by first | rfl | decide, h⟩)
      · exact (spec_l3Top.w3_1 w).mono (by rintro e w' ⟨rfl, h⟩; exact ⟨by first | rfl | decide, h⟩)
      · exact (spec_l3Top.w4_1 w).mono (by rintro e w' ⟨rfl, h⟩; exact ⟨by first | rfl | decide, h⟩)
      · exact (spec_l3Top.w5_1 w).mono (by rintro e w' ⟨rfl, h⟩; exact ⟨by first | rfl | decide, h⟩)
      · exact (spec_l3Top.w6_1 w).mono (by rintro e w' ⟨rfl, h⟩; exact ⟨by first | rfl | decide, h⟩)
      · exact (spec_l3Top.w7_1 w).mono (by rintro e w' ⟨rfl, h⟩; exact ⟨by first | rfl | decide, h⟩)
    · rcases hy with rfl | rfl | rfl | rfl | rfl | rfl | rfl | rfl
      · exact (spec_l3Top.s2 0 (⟨#[110, 122]⟩ : ByteArray) (by decide) rfl (by decide) (by decide) w).mono (by rintro e w' ⟨rfl, h⟩; exact ⟨by first | rfl | decide, h⟩)
      · exact (spec_l3Top.s2 1 (⟨#[122]⟩ : ByteArray) (by decide) rfl (by decide) (by decide) w).mono (by rintro e w' ⟨rfl, h⟩; exact ⟨by first | rfl | decide, h⟩)
      · exact (spec_l3Top.s2 2 (⟨#[110, 99]⟩ : ByteArray) (by decide) rfl (by decide) (by decide) w).mono (by rintro e w' ⟨rfl, h⟩; exact ⟨by first | rfl | decide, h⟩)
      · exact (spec_l3Top.s2 3 (⟨#[99]⟩ : ByteArray) (by decide) rfl (by decide) (by decide) w).mono (by rintro e w' ⟨rfl, h⟩; exact ⟨by first | rfl | decide, h⟩)
      · exact (spec_l3Top.w4_2 w).mono (by rintro e w' ⟨rfl, h⟩; exact ⟨by first | rfl | decide, h⟩)
      · exact (spec_l3Top.w5_2 w).mono (by rintro e w' ⟨rfl, h⟩; exact ⟨by first | rfl | decide, h⟩)
      · exact (spec_l3Top.w6_2 w).mono (by rintro e w' ⟨rfl, h⟩; exact ⟨by first | rfl | decide, h⟩)
      · exact (spec_l3Top.w7_2 w).mono (by rintro e w' ⟨rfl, h⟩; exact ⟨by first | rfl | decide, h⟩)
    · rcases hy with rfl | rfl | rfl | rfl | rfl | rfl | rfl | rfl
      · exact (spec_l3Top.w0_3 w).mono (by rintro e w' ⟨rfl, h⟩; exact ⟨by first | rfl | decide, h⟩)
      · exact (spec_l3Top.w1_3 w).mono (by rintro e w' ⟨rfl, h⟩; exact ⟨by first | rfl | decide, h⟩)
      · exact (spec_l3Top.w2_3 w).mono (by rintro e w' ⟨rfl, h⟩; exact ⟨by first | rfl | decide, h⟩)
      · exact (spec_l3Top.w3_3 w).mono (by rintro e w' ⟨rfl, h⟩; exact ⟨by first | rfl | decide, h⟩)
      · exact (spec_l3Top.w4_3 w).mono (by rintro e w' ⟨rfl, h⟩; exact ⟨by first | rfl | decide, h⟩)
      · exact (spec_l3Top.w5_3 w).mono (by rintro e w' ⟨rfl, h⟩; exact ⟨by first | rfl | decide, h⟩)
      · exact (spec_l3Top.w6_3 w).mono (by rintro e w' ⟨rfl, h⟩; exact ⟨by first | rfl | decide, h⟩)
      · exact (spec_l3Top.w7_3 w).mono (by rintro e w' ⟨rfl, h⟩; exact ⟨by first | rfl | decide, h⟩)
    · rcases hy with rfl | rfl | rfl | rfl | rfl | rfl | rfl | rfl
      · exact (spec_l3Top.s4 0 (⟨#[110, 122]⟩ : ByteArray) (by decide) rfl (by decide) (by decide) w).mono (by rintro e w' ⟨rfl, h⟩; exact ⟨by first | rfl | decide, h⟩)
      · exact (spec_l3Top.s4 1 (⟨#[122]⟩ : ByteArray) (by decide) rfl (by decide) (by decide) w).mono (by rintro e w' ⟨rfl, h⟩; exact ⟨by first | rfl | decide, h⟩)
      · exact (spec_l3Top.s4 2 (⟨#[110, 99]⟩ : ByteArray) (by decide) rfl (by decide) (by decide) w).mono (by rintro e w' ⟨rfl, h⟩; exact ⟨by first | rfl | decide, h⟩)
      · exact (spec_l3Top.s4 3 (⟨#[99]⟩ : ByteArray) (by decide) rfl (by decide) (by decide) w).mono (by rintro e w' ⟨rfl, h⟩; exact ⟨by first | rfl | decide, h⟩)
      · exact (spec_l3Top.w4_4 w).mono (by rintro e w' ⟨rfl, h⟩; exact ⟨by first | rfl | decide, h⟩)
      · exact (spec_l3Top.w5_4 w).mono (by rintro e w' ⟨rfl, h⟩; exact ⟨by first | rfl | decide, h⟩)
      · exact (spec_l3Top.w6_4 w).mono (by rintro e w' ⟨rfl, h⟩; exact ⟨by first | rfl | decide, h⟩)
      · exact (spec_l3Top.w7_4 w).mono (by rintro e w' ⟨rfl, h⟩; exact ⟨by first | rfl | decide, h⟩)
    · rcases hy with rfl | rfl | rfl | rfl | rfl | rfl | rfl | rfl
      · exact (spec_l3Top.w0_5 w).mono (by rintro e w' ⟨rfl, h⟩; exact ⟨by first | rfl | decide, h⟩)
      · exact (spec_l3Top.w1_5 w).mono (by rintro e w' ⟨rfl, h⟩; exact ⟨by first | rfl | decide, h⟩)
      · exact (spec_l3Top.w2_5 w).mono (by rintro e w' ⟨rfl, h⟩; exact ⟨by first | rfl | decide, h⟩)
      · exact (spec_l3Top.w3_5 w).mono (by rintro e w' ⟨rfl, h⟩; exact ⟨by first | rfl | decide, h⟩)
      · exact (spec_l3Top.w4_5 w).mono (by rintro e w' ⟨rfl, h⟩; exact ⟨by first | rfl | decide, h⟩)
      · exact (spec_l3Top.w5_5 w).mono (by rintro e w' ⟨rfl, h⟩; exact ⟨by first | rfl | decide, h⟩)
      · exact (spec_l3Top.w6_5 w).mono (by rintro e w' ⟨rfl, h⟩; exact ⟨by first | rfl | decide, h⟩)
      · exact (spec_l3Top.w7_5 w).mono (by rintro e w' ⟨rfl, h⟩; exact ⟨by first | rfl | decide, h⟩)
    · rcases hy with rfl | rfl | rfl | rfl | rfl | rfl | rfl | rfl
      · exact (spec_l3Top.s6 0 (⟨#[97, 100, 100]⟩ : ByteArray) rfl (by decide) (by decide) w).mono (by rintro e w' ⟨rfl, h⟩; exact ⟨by first | rfl | decide, h⟩)
      · exact (spec_l3Top.s6 1 (⟨#[97, 100, 99]⟩ : ByteArray) rfl (by decide) (by decide) w).mono (by rintro e w' ⟨rfl, h⟩; exact ⟨by first | rfl | decide, h⟩)
      · exact (spec_l3Top.s6 2 (⟨#[115, 117, 98]⟩ : ByteArray) rfl (by decide) (by decide) w).mono (by rintro e w' ⟨rfl, h⟩; exact ⟨by first | rfl | decide, h⟩)
      · exact (spec_l3Top.s6 3 (⟨#[115, 98, 99]⟩ : ByteArray) rfl (by decide) (by decide) w).mono (by rintro e w' ⟨rfl, h⟩; exact ⟨by first | rfl | decide, h⟩)
      · exact (spec_l3Top.s6 4 (⟨#[97, 110, 100]⟩ : ByteArray) rfl (by decide) (by decide) w).mono (by rintro e w' ⟨rfl, h⟩; exact ⟨by first | rfl | decide, h⟩)
      · exact (spec_l3Top.s6 5 (⟨#[120, 111, 114]⟩ : ByteArray) rfl (by decide) (by decide) w).mono (by rintro e w' ⟨rfl, h⟩; exact ⟨by first | rfl | decide, h⟩)
      · exact (spec_l3Top.s6 6 (⟨#[111, 114]⟩ : ByteArray) rfl (by decide) (by decide) w).mono (by rintro e w' ⟨rfl, h⟩; exact ⟨by first | rfl | decide, h⟩)
      · exact (spec_l3Top.s6 7 (⟨#[99, 112]⟩ : ByteArray) rfl (by decide) (by decide) w).mono (by rintro e w' ⟨rfl, h⟩; exact ⟨by first | rfl | decide, h⟩)
    · rcases hy with rfl | rfl | rfl | rfl | rfl | rfl | rfl | rfl
      · exact (spec_l3Top.w0_7 w).mono (by rintro e w' ⟨rfl, h⟩; exact ⟨by first | rfl | decide, h⟩)
      · exact (spec_l3Top.w1_7 w).mono (by rintro e w' ⟨rfl, h⟩; exact ⟨by first | rfl | decide, h⟩)
      · exact (spec_l3Top.w2_7 w).mono (by rintro e w' ⟨rfl, h⟩; exact ⟨by first | rfl | decide, h⟩)
      · exact (spec_l3Top.w3_7 w).mono (by rintro e w' ⟨rfl, h⟩; exact ⟨by first | rfl | decide, h⟩)
      · exact (spec_l3Top.w4_7 w).mono (by rintro e w' ⟨rfl, h⟩; exact ⟨by first | rfl | decide, h⟩)
      · exact (spec_l3Top.w5_7 w).mono (by rintro e w' ⟨rfl, h⟩; exact ⟨by first | rfl | decide, h⟩)
      · exact (spec_l3Top.w6_7 w).mono (by rintro e w' ⟨rfl, h⟩; exact ⟨by first | rfl | decide, h⟩)
      · exact (spec_l3Top.w7_7 w).mono (by rintro e w' ⟨rfl, h⟩; exact ⟨by first | rfl | decide, h⟩)
  · rw [if_neg hr] at h
    cases h

/-! ### spec_l3Template: function 58 -/
open Go.Proofs.YtmiebnpmckjidaaDoor.Aid
def spec_l3Template.turnsArr : Array Value := #[.string (⟨#[114, 108, 99]⟩ : ByteArray), .string (⟨#[114, 114, 99]⟩ : ByteArray), .string (⟨#[114, 108]⟩ : ByteArray), .string (⟨#[114, 114]⟩ : ByteArray), .string (⟨#[115, 108, 97]⟩ : ByteArray), .string (⟨#[115, 114, 97]⟩ : ByteArray), .string (⟨#[115, 119, 97, 112]⟩ : ByteArray), .string (⟨#[115, 114, 108]⟩ : ByteArray)]
theorem spec_l3Template.turnsC (w : World) : Calls Tryd.prog 101 #[] w fun e w' => e = .returned (.slice (some ⟨w.heap.size, 0, none⟩) 8 8) ∧ w' = w.alloc (.cells spec_l3Template.turnsArr 9) := by
  go_enter Tryd.func101, Tryd.ntmps101
  go_wp2
  (first | go_ret | (apply bodyPost_ret; (exact results_tmp rfl _ _ _); rfl))
  exact ⟨rfl, rfl⟩
def spec_l3Template.regsArr : Array Value := #[.string (⟨#[98]⟩ : ByteArray), .string (⟨#[99]⟩ : ByteArray), .string (⟨#[100]⟩ : ByteArray), .string (⟨#[101]⟩ : ByteArray), .string (⟨#[104]⟩ : ByteArray), .string (⟨#[108]⟩ : ByteArray), .string (⟨#[91, 104, 108, 93]⟩ : ByteArray), .string (⟨#[97]⟩ : ByteArray)]
theorem spec_l3Template.regsC (w : World) : Calls Tryd.prog 102 #[] w fun e w' => e = .returned (.slice (some ⟨w.heap.size, 0, none⟩) 8 8) ∧ w' = w.alloc (.cells spec_l3Template.regsArr 9) := by
  go_enter Tryd.func102, Tryd.ntmps102
  go_wp2
  (first | go_ret | (apply bodyPost_ret; (exact results_tmp rfl _ _ _); rfl))
  exact ⟨rfl, rfl⟩
def spec_l3Template.alusArr : Array Value := #[.string (⟨#[97, 100, 100]⟩ : ByteArray), .string (⟨#[97, 100, 99]⟩ : ByteArray), .string (⟨#[115, 117, 98]⟩ : ByteArray), .string (⟨#[115, 98, 99]⟩ : ByteArray), .string (⟨#[97, 110, 100]⟩ : ByteArray), .string (⟨#[120, 111, 114]⟩ : ByteArray), .string (⟨#[111, 114]⟩ : ByteArray), .string (⟨#[99, 112]⟩ : ByteArray)]
theorem spec_l3Template.alusC (w : World) : Calls Tryd.prog 104 #[] w fun e w' => e = .returned (.slice (some ⟨w.heap.size, 0, none⟩) 8 8) ∧ w' = w.alloc (.cells spec_l3Template.alusArr 9) := by
  go_enter Tryd.func104, Tryd.ntmps104
  go_wp2
  (first | go_ret | (apply bodyPost_ret; (exact results_tmp rfl _ _ _); rfl))
  exact ⟨rfl, rfl⟩
theorem spec_l3Template.turns_at : ∀ y : Nat, y < 8 → spec_l3Template.turnsArr[y]? = some (.string (turnsL.getD y ⟨#[]⟩)) ∧ (turnsL.getD y ⟨#[]⟩).size ≤ 100
  | 0, _ => ⟨rfl, by decide⟩
  | 1, _ => ⟨rfl, by decide⟩
  | 2, _ => ⟨rfl, by decide⟩
  | 3, _ => ⟨rfl, by decide⟩
  | 4, _ => ⟨rfl, by decide⟩
  | 5, _ => ⟨rfl, by decide⟩
  | 6, _ => ⟨rfl, by decide⟩
  | 7, _ => ⟨rfl, by decide⟩
  | n + 8, h => absurd h (by omega)
theorem spec_l3Template.regs_at : ∀ y : Nat, y < 8 → spec_l3Template.regsArr[y]? = some (.string (regsL.getD y ⟨#[]⟩)) ∧ (regsL.getD y ⟨#[]⟩).size ≤ 100
  | 0, _ => ⟨rfl, by decide⟩
  | 1, _ => ⟨rfl, by decide⟩
  | 2, _ => ⟨rfl, by decide⟩
  | 3, _ => ⟨rfl, by decide⟩
  | 4, _ => ⟨rfl, by decide⟩
  | 5, _ => ⟨rfl, by decide⟩
  | 6, _ => ⟨rfl, by decide⟩
  | 7, _ => ⟨rfl, by decide⟩
  | n + 8, h => absurd h (by omega)
theorem spec_l3Template.alus_at : ∀ y : Nat, y < 8 → spec_l3Template.alusArr[y]? = some (.string (alusL.getD y ⟨#[]⟩)) ∧ (alusL.getD y ⟨#[]⟩).size ≤ 100
  | 0, _ => ⟨rfl, by decide⟩
  | 1, _ => ⟨rfl, by decide⟩
  | 2, _ => ⟨rfl, by decide⟩
  | 3, _ => ⟨rfl, by decide⟩
  | 4, _ => ⟨rfl, by decide⟩
  | 5, _ => ⟨rfl, by decide⟩
  | 6, _ => ⟨rfl, by decide⟩
  | 7, _ => ⟨rfl, by decide⟩
  | n + 8, h => absurd h (by omega)
set_option maxRecDepth 100000 in
set_option maxHeartbeats 8000000 in
theorem spec_l3Template.dec1 (y : Nat) (hy : y < 8) (w : World) : Calls Tryd.prog 84 #[.int .i64 (y : Int)] w fun e w' => e = .returned (.string ⟨#[UInt8.ofNat (48 + y)]⟩) ∧ w' = w.alloc (.cells #[.int .u8 (48 + (y : Int))] 5) := by
  have h0 : ¬ ((y : Int) < 0) := by omega
  have h10 : ¬ ((y : Int) ≥ 10) := by omega
  have hback : ∀ W : World, (convert 93 9 (.slice (some ⟨W.heap.size, 0, none⟩) 1 1)).run Tryd.prog (W.alloc (.cells #[.int .u8 (48 + (y : Int))] 5)) = .ok (.string ⟨#[UInt8.ofNat (48 + y)]⟩) (W.alloc (.cells #[.int .u8 (48 + (y : Int))] 5)) := by
    intro W
    exact run_convert_bytes_back (P := Tryd.prog) (W.alloc (.cells #[.int .u8 (48 + (y : Int))] 5)) 93 9 5 ⟨W.heap.size, 0, none⟩ 1 [UInt8.ofNat (48 + y)] Tryd.underlying93 Tryd.underlying5 Tryd.underlying9 (fun i hi => by
      have hi' : i = 0 := by simpa using hi
      subst hi'
      rw [add_plain, World.cell?_alloc_at _ _ _ _ (by simp)]
      have : ((UInt8.ofNat (48 + y)).toNat : Int) = 48 + (y : Int) := by
        rw [UInt8.toNat_ofNat']
        omega
      simp [this]
      omega)
  go_enter Tryd.func84, Tryd.ntmps84
  go_wp2
  go_loopg [0, 3] 1 (fun gg s0 s3 wr => s0 = .int .i64 (y : Int) ∧ s3 = .string ⟨#[]⟩ ∧ wr = w)
  case atStart => exact ⟨rfl, rfl, rfl⟩
  case round =>
    obtain ⟨rfl, rfl, rfl⟩ := hrel
    have h11 : ¬ (10 : Int) ≤ (y : Int) := by omega
    go_wp2
    (first | go_ret | (apply bodyPost_ret; (exact results_tmp rfl _ _ _); rfl))
    exact ⟨by rfl, rfl⟩
set_option maxRecDepth 100000 in
set_option maxHeartbeats 8000000 in
theorem spec_l3Template.ct (c d : Int) (y z : Nat) (s t : ByteArray) (e1 : IntKind.i64.wrap (c.tdiv 64) = 0) (e2 : IntKind.i64.wrap (c.tdiv 8) = d) (e3 : d.tmod 8 = (y : Int)) (e4 : c.tmod 8 = (z : Int)) (hs : spec_l3Template.turnsArr[y]? = some (.string s)) (ls : (y : Int) < 8) (zs : s.size ≤ 100) (ht : spec_l3Template.regsArr[z]? = some (.string t)) (lt : (z : Int) < 8) (zt : t.size ≤ 100) (w : World) : Calls Tryd.prog 58 #[.int .i64 c, .bool true] w fun e w' => e = .returned (.string ((s ++ ⟨#[32]⟩) ++ t)) ∧ Below w.heap.size w w' := by
  go_enter Tryd.func58, Tryd.ntmps58
  go_wp2
  go_region_with (first | (go_at_call 101; refine (spec_l3Template.turnsC _).mono ?_; rintro e w' ⟨rfl, rfl⟩) | (go_at_call 102; refine (spec_l3Template.regsC _).mono ?_; rintro e w' ⟨rfl, rfl⟩))
  all_goals go_wp2
  all_goals ((first | go_ret | (apply bodyPost_ret; (exact results_tmp rfl _ _ _); rfl)); exact ⟨by first | rfl | decide, by repeat (first | exact Below.refl _ _ | apply below_alloc | apply pw_below_drewN | apply below_drew)⟩)
set_option maxRecDepth 100000 in
set_option maxHeartbeats 8000000 in
theorem spec_l3Template.cb (c d : Int) (x y z : Nat) (u s t : ByteArray) (hu : (#[.string (⟨#[]⟩ : ByteArray), .string (⟨#[98, 105, 116, 32]⟩ : ByteArray), .string (⟨#[114, 101, 115, 32]⟩ : ByteArray), .string (⟨#[115, 101, 116, 32]⟩ : ByteArray)] : Array Value)[x]? = some (.string u)) (lx : (x : Int) < 4) (x0 : ¬ (x : Int) = 0) (zu : u.size ≤ 100) (e1 : IntKind.i64.wrap (c.tdiv 64) = (x : Int)) (e2 : IntKind.i64.wrap (c.tdiv 8) = d) (e3 : d.tmod 8 = (y : Int)) (e4 : c.tmod 8 = (z : Int)) (hd : ∀ w, Calls Tryd.prog 84 #[.int .i64 (y : Int)] w fun e w' => e = .returned (.string s) ∧ w' = w.alloc (.cells #[.int .u8 (48 + (y : Int))] 5)) (zs : s.size ≤ 100) (ht : spec_l3Template.regsArr[z]? = some (.string t)) (lt : (z : Int) < 8) (zt : t.size ≤ 100) (w : World) : Calls Tryd.prog 58 #[.int .i64 c, .bool true] w fun e w' => e = .returned (.string (((u ++ s) ++ ⟨#[44]⟩) ++ t)) ∧ Below w.heap.size w w' := by
  go_enter Tryd.func58, Tryd.ntmps58
  go_wp2
  go_region_with (first | (go_at_call 84; refine (hd _).mono ?_; rintro e w' ⟨rfl, rfl⟩) | (go_at_call 102; refine (spec_l3Template.regsC _).mono ?_; rintro e w' ⟨rfl, rfl⟩))
  all_goals go_wp2
  all_goals ((first | go_ret | (apply bodyPost_ret; (exact results_tmp rfl _ _ _); rfl)); exact ⟨by first | rfl | decide, by repeat (first | exact Below.refl _ _ | apply below_alloc | apply pw_below_drewN | apply below_drew)⟩)
set_option maxRecDepth 100000 in
set_option maxHeartbeats 8000000 in
theorem spec_l3Template.ld (c d : Int) (y z : Nat) (s t : ByteArray) (h18 : ¬ c = 118) (e1 : IntKind.i64.wrap (c.tdiv 64) = 1) (e2 : IntKind.i64.wrap (c.tdiv 8) = d) (e3 : d.tmod 8 = (y : Int)) (e4 : c.tmod 8 = (z : Int)) (hs : spec_l3Template.regsArr[y]? = some (.string s)) (ls : (y : Int) < 8) (zs : s.size ≤ 100) (ht : spec_l3Template.regsArr[z]? = some (.string t)) (lt : (z : Int) < 8) (zt : t.size ≤ 100) (w : World) : Calls Tryd.prog 58 #[.int .i64 c, .bool false] w fun e w' => e = .returned (.string ((((⟨#[108, 100, 32]⟩ : ByteArray) ++ s) ++ ⟨#[44]⟩) ++ t)) ∧ Below w.heap.size w w' := by
  go_enter Tryd.func58, Tryd.ntmps58
  go_wp2
  go_region_with (go_at_call 102; refine (spec_l3Template.regsC _).mono ?_; rintro e w' ⟨rfl, rfl⟩)
  all_goals go_wp2
  all_goals ((first | go_ret | (apply bodyPost_ret; (exact results_tmp rfl _ _ _); rfl)); exact ⟨by first | rfl | decide, by repeat (first | exact Below.refl _ _ | apply below_alloc | apply pw_below_drewN | apply below_drew)⟩)
set_option maxRecDepth 100000 in
set_option maxHeartbeats 8000000 in
theorem spec_l3Template.alu (c d : Int) (y z : Nat) (s t : ByteArray) (h18 : ¬ c = 118) (e1 : IntKind.i64.wrap (c.tdiv 64) = 2) (e2 : IntKind.i64.wrap (c.tdiv 8) = d) (e3 : d.tmod 8 = (y : Int)) (e4 : c.tmod 8 = (z : Int)) (hs : spec_l3Template.alusArr[y]? = some (.string s)) (ls : (y : Int) < 8) (zs : s.size ≤ 100) (ht : spec_l3Template.regsArr[z]? = some (.string t)) (lt : (z : Int) < 8) (zt : t.size ≤ 100) (w : World) : Calls Tryd.prog 58 #[.int .i64 c, .bool false] w fun e w' => e = .returned (.string ((s ++ (⟨#[32, 97, 44]⟩ : ByteArray)) ++ t)) ∧ Below w.heap.size w w' := by
  go_enter Tryd.func58, Tryd.ntmps58
  go_wp2
  go_region_with (first | (go_at_call 104; refine (spec_l3Template.alusC _).mono ?_; rintro e w' ⟨rfl, rfl⟩) | (go_at_call 102; refine (spec_l3Template.regsC _).mono ?_; rintro e w' ⟨rfl, rfl⟩))
  all_goals go_wp2
  all_goals ((first | go_ret | (apply bodyPost_ret; (exact results_tmp rfl _ _ _); rfl)); exact ⟨by first | rfl | decide, by repeat (first | exact Below.refl _ _ | apply below_alloc | apply pw_below_drewN | apply below_drew)⟩)
set_option maxRecDepth 100000 in
set_option maxHeartbeats 8000000 in
theorem spec_l3Template.lo (c d : Int) (y z : Nat) (r : ByteArray) (e1 : IntKind.i64.wrap (c.tdiv 64) = 0) (e2 : IntKind.i64.wrap (c.tdiv 8) = d) (e3 : d.tmod 8 = (y : Int)) (e4 : c.tmod 8 = (z : Int)) (hr : spec_l3Low.f (y : Int) (z : Int) = some r)  (w : World) : Calls Tryd.prog 58 #[.int .i64 c, .bool false] w fun e w' => e = .returned (.string (r)) ∧ Below w.heap.size w w' := by
  go_enter Tryd.func58, Tryd.ntmps58
  go_wp2_with (go_at_call 103; refine (spec_l3Low.calls _ _ r _ hr).mono ?_; rintro e w' ⟨rfl, hb⟩)
  (first | go_ret | (apply bodyPost_ret; (exact results_tmp rfl _ _ _); rfl))
  exact ⟨rfl, by repeat (first | exact hb | exact Below.refl _ _ | apply pw_below_drewN | apply below_drew)⟩
set_option maxRecDepth 100000 in
set_option maxHeartbeats 8000000 in
theorem spec_l3Template.hi (c d : Int) (y z : Nat) (r : ByteArray) (h18 : ¬ c = 118) (e1 : IntKind.i64.wrap (c.tdiv 64) = 3) (e2 : IntKind.i64.wrap (c.tdiv 8) = d) (e3 : d.tmod 8 = (y : Int)) (e4 : c.tmod 8 = (z : Int)) (hr : spec_l3Top.f (y : Int) (z : Int) = some r)  (w : World) : Calls Tryd.prog 58 #[.int .i64 c, .bool false] w fun e w' => e = .returned (.string (r)) ∧ Below w.heap.size w w' := by
  go_enter Tryd.func58, Tryd.ntmps58
  go_wp2_with (go_at_call 105; refine (spec_l3Top.calls _ _ r _ hr).mono ?_; rintro e w' ⟨rfl, hb⟩)
  (first | go_ret | (apply bodyPost_ret; (exact results_tmp rfl _ _ _); rfl))
  exact ⟨rfl, by repeat (first | exact hb | exact Below.refl _ _ | apply pw_below_drewN | apply below_drew)⟩
set_option maxRecDepth 100000 in
set_option maxHeartbeats 8000000 in
theorem spec_l3Template.halt (w : World) : Calls Tryd.prog 58 #[.int .i64 118, .bool false] w fun e w' => e = .returned (.string (⟨#[104, 97, 108, 116]⟩ : ByteArray)) ∧ Below w.heap.size w w' := by
  go_enter Tryd.func58, Tryd.ntmps58
  go_wp2
  (first | go_ret | (apply bodyPost_ret; (exact results_tmp rfl _ _ _); rfl))
  exact ⟨by first | rfl | decide, by repeat (first | exact Below.refl _ _ | apply below_alloc | apply pw_below_drewN | apply below_drew)⟩
def spec_l3Template.f (a0 : Int) (a1 : Bool) : Option ByteArray := if 0 ≤ a0 ∧ a0 < 256 then some (tmplT a0.toNat a1) else none
theorem spec_l3Template.calls (a0 : Int) (a1 : Bool) (r : ByteArray) (w : World) (h : spec_l3Template.f a0 a1 = some r) :
    Calls Tryd.prog 58 #[.int .i64 a0, .bool a1] w fun e w' => e = .returned (.string r) ∧ Below w.heap.size w w' := by
  unfold spec_l3Template.f at h
  by_cases hr : 0 ≤ a0 ∧ a0 < 256
  · rw [if_pos hr] at h
    obtain rfl := Option.some.inj h
    obtain ⟨n, rfl⟩ : ∃ n : Nat, a0 = (n : Int) := ⟨a0.toNat, by omega⟩
    have hn : n < 256 := by omega
    have e2 := div_w (n := n) (k := 8) hn (by decide)
    have e3 := mod_w (n / 8) 8
    have e4 := mod_w n 8
    have e1 := div_w (n := n) (k := 64) hn (by decide)
    have hy : n / 8 % 8 < 8 := by omega
    have hz : n % 8 < 8 := by omega
    have hyi : ((n / 8 % 8 : Nat) : Int) < 8 := by omega
    have hzi : ((n % 8 : Nat) : Int) < 8 := by omega
    rw [Int.toNat_natCast]
    cases a1 with
    | true =>
      by_cases h1 : n < 64
      · rw [show ((n / 64 : Nat) : Int) = 0 by omega] at e1
        have := spec_l3Template.ct (n : Int) _ _ _ _ _ e1 e2 e3 e4 (spec_l3Template.turns_at _ hy).1 hyi (spec_l3Template.turns_at _ hy).2 (spec_l3Template.regs_at _ hz).1 hzi (spec_l3Template.regs_at _ hz).2 w
        rw [show tmplT n true = _ from by unfold tmplT; rw [if_pos rfl, if_pos h1]]
        exact this
      · rw [show tmplT n true = _ from by unfold tmplT; rw [if_pos rfl, if_neg h1]]
        have h3 : n / 64 = 1 ∨ n / 64 = 2 ∨ n / 64 = 3 := by omega
        have hu : (#[.string (⟨#[]⟩ : ByteArray), .string (⟨#[98, 105, 116, 32]⟩ : ByteArray), .string (⟨#[114, 101, 115, 32]⟩ : ByteArray), .string (⟨#[115, 101, 116, 32]⟩ : ByteArray)] : Array Value)[n / 64]? = some (.string (wordsL.getD (n / 64) ⟨#[]⟩)) ∧ (wordsL.getD (n / 64) ⟨#[]⟩).size ≤ 100 := by
          rcases h3 with h3 | h3 | h3 <;> rw [h3] <;> exact ⟨rfl, by decide⟩
        exact spec_l3Template.cb (n : Int) _ _ _ _ _ _ _ hu.1 (by omega) (by omega) hu.2 e1 e2 e3 e4 (spec_l3Template.dec1 _ (by omega)) (by show (1 : Nat) ≤ 100; omega) (spec_l3Template.regs_at _ hz).1 hzi (spec_l3Template.regs_at _ hz).2 w
    | false =>
      by_cases h1 : n < 64
      · rw [show ((n / 64 : Nat) : Int) = 0 by omega] at e1
        rw [show tmplT n false = _ from by unfold tmplT; rw [if_neg (by decide), if_pos h1]]
        exact spec_l3Template.lo (n : Int) _ _ _ _ e1 e2 e3 e4 (by unfold spec_l3Low.f; rw [if_pos ⟨⟨by omega, hyi⟩, ⟨by omega, hzi⟩⟩, show (8 * ((n % 8 : Nat) : Int) + ((n / 8 % 8 : Nat) : Int)).toNat = 8 * (n % 8) + n / 8 % 8 by omega]) w
      · by_cases h18 : n = 118
        · subst h18
          exact spec_l3Template.halt w
        · have hc : ¬ (n : Int) = 118 := by omega
          by_cases h2 : n < 128
          · rw [show ((n / 64 : Nat) : Int) = 1 by omega] at e1
            rw [show tmplT n false = _ from by unfold tmplT; rw [if_neg (by decide), if_neg h1, if_neg h18, if_pos h2]]
            exact spec_l3Template.ld (n : Int) _ _ _ _ _ hc e1 e2 e3 e4 (spec_l3Template.regs_at _ hy).1 hyi (spec_l3Template.regs_at _ hy).2 (spec_l3Template.regs_at _ hz).1 hzi (spec_l3Template.regs_at _ hz).2 w
          · by_cases h3 : n < 192
            · rw [show ((n / 64 : Nat) : Int) = 2 by omega] at e1
              rw [show tmplT n false = _ from by unfold tmplT; rw [if_neg (by decide), if_neg h1, if_neg h18, if_neg h2, if_pos h3]]
              exact spec_l3Template.alu (n : Int) _ _ _ _ _ hc e1 e2 e3 e4 (spec_l3Template.alus_at _ hy).1 hyi (spec_l3Template.alus_at _ hy).2 (spec_l3Template.regs_at _ hz).1 hzi (spec_l3Template.regs_at _ hz).2 w
            · rw [show ((n / 64 : Nat) : Int) = 3 by omega] at e1
              rw [show tmplT n false = _ from by unfold tmplT; rw [if_neg (by decide), if_neg h1, if_neg h18, if_neg h2, if_neg h3]]
              exact spec_l3Template.hi (n : Int) _ _ _ _ hc e1 e2 e3 e4 (by unfold spec_l3Top.f; rw [if_pos ⟨⟨by omega, hyi⟩, ⟨by omega, hzi⟩⟩, show (8 * ((n % 8 : Nat) : Int) + ((n / 8 % 8 : Nat) : Int)).toNat = 8 * (n % 8) + n / 8 % 8 by omega]) w
  · rw [if_neg hr] at h
    cases h

/-! ### spec_TemplateOf: function 21 -/
def spec_TemplateOf.f (a0 : Int) (a1 : Bool) : Option (ByteArray) := (spec_l1In.f a0 0 255).bind fun t122 => (if t122 = true then ((spec_l3Template.f a0 a1).bind fun t123 => (some t123)) else (some (⟨#[]⟩ : ByteArray)))
set_option maxHeartbeats 8000000 in
set_option maxRecDepth 100000 in
theorem spec_TemplateOf.calls (a0 : Int) (a1 : Bool) (r : ByteArray) (w : World) (h : spec_TemplateOf.f a0 a1 = some r) :
    Calls Tryd.prog 21 #[.int .i64 a0, .bool a1] w fun e w' => e = .returned (.string r) ∧ Below w.heap.size w w' := by
  have HB := Aside0.mk (Below.refl w.heap.size w)
  have H : ((spec_l1In.f a0 0 255).bind fun t122 => (if t122 = true then ((spec_l3Template.f a0 a1).bind fun t123 => (some t123)) else (some (⟨#[]⟩ : ByteArray)))) = some r := h
  clear h
  replace H := Option.bind_eq_some_iff.mp H
  obtain ⟨t122, A30, H⟩ := H
  replace H : (if t122 = true then ((spec_l3Template.f a0 a1).bind fun t123 => (some t123)) else (some (⟨#[]⟩ : ByteArray))) = some r := H
  have A3 := Aside0.mk A30
  clear A30
  by_cases c4 : t122 = true
  · subst c4
    have H1 : ((spec_l3Template.f a0 a1).bind fun t123 => (some t123)) = some r := by rw [if_pos rfl] at H; exact H
    clear H
    have H := H1
    clear H1
    replace H := Option.bind_eq_some_iff.mp H
    obtain ⟨t123, A50, H⟩ := H
    replace H : (some t123) = some r := H
    have A5 := Aside0.mk A50
    clear A50
    obtain rfl := Option.some.inj H
    go_enter Tryd.func21, Tryd.ntmps21
    go_wp2_with (first | ((with_reducible refine gate_callee (f := 46) rfl ?_); refine goesL_ (some 6) rfl rfl Tryd.func46 (by kernel_rfl) rfl #[.int .i64 a0, .int .i64 0, .int .i64 255] rfl (by (try simp only [List.map_toArray, List.map_cons, List.map_nil]); first | done | rfl | (simp only [List.length_drop, List.length_take]; rfl)) ?_; (with_reducible refine (spec_l1In.calls a0 0 255 true _ A3.out).mono ?_); rintro e w' ⟨rfl, ⟨nd, rfl⟩⟩; refine ⟨_, rfl, ?_⟩) | ((with_reducible refine gate_callee (f := 58) rfl ?_); refine goesL_ (some 10) rfl rfl Tryd.func58 (by kernel_rfl) rfl #[.int .i64 a0, .bool a1] rfl (by (try simp only [List.map_toArray, List.map_cons, List.map_nil]); first | done | rfl | (simp only [List.length_drop, List.length_take]; rfl)) ?_; (with_reducible refine (spec_l3Template.calls a0 a1 t123 _ A5.out).mono ?_); rintro e w6 ⟨rfl, hb⟩; refine ⟨_, rfl, ?_⟩; have n0_ := Aside0.mk (below_step (by repeat (first | (with_reducible first | exact HB.out | apply below_alloc | apply pw_below_drewN | apply below_drew1) | exact HB.out)) hb); clear HB; have HB := n0_; clear n0_; (try clear hb); (try clear hb2); (try clear hk); (try clear hi)))
    first | go_ret | ((try simp only [Exit.inBlock, Exit.then]); apply bodyPost_ret; (exact results_tmp rfl _ _ _); rfl)
    exact ⟨by first | rfl | (simp [errW_none, errW_some] <;> rfl) | (simp [*, errW_none, errW_some] <;> rfl), by repeat (first | (with_reducible first | exact HB.out | apply below_alloc | apply pw_below_drewN | apply below_drew1) | exact HB.out)⟩
  · replace c4 := Bool.eq_false_iff.mpr c4
    subst c4
    have H1 : (some (⟨#[]⟩ : ByteArray)) = some r := by rw [if_neg (show ¬ (false = true) by decide)] at H; exact H
    clear H
    have H := H1
    clear H1
    obtain rfl := Option.some.inj H
    go_enter Tryd.func21, Tryd.ntmps21
    go_wp2_with (first | ((with_reducible refine gate_callee (f := 46) rfl ?_); refine goesL_ (some 6) rfl rfl Tryd.func46 (by kernel_rfl) rfl #[.int .i64 a0, .int .i64 0, .int .i64 255] rfl (by (try simp only [List.map_toArray, List.map_cons, List.map_nil]); first | done | rfl | (simp only [List.length_drop, List.length_take]; rfl)) ?_; (with_reducible refine (spec_l1In.calls a0 0 255 false _ A3.out).mono ?_); rintro e w' ⟨rfl, ⟨nd, rfl⟩⟩; refine ⟨_, rfl, ?_⟩))
    first | go_ret | ((try simp only [Exit.inBlock, Exit.then]); apply bodyPost_ret; (exact results_tmp rfl _ _ _); rfl)
    exact ⟨by first | rfl | (simp [errW_none, errW_some] <;> rfl) | (simp [*, errW_none, errW_some] <;> rfl), by repeat (first | (with_reducible first | exact HB.out | apply below_alloc | apply pw_below_drewN | apply below_drew1) | exact HB.out)⟩

/-! ### impl_within: function 47 -/
def impl_within.f (a0 : Int) (a1 : Int) (a2 : Int) : Option (Bool) := if a0 ≥ a1 then (some (decide (a0 ≤ a2))) else (some false)
set_option maxHeartbeats 8000000 in
set_option maxRecDepth 100000 in
theorem impl_within.calls (a0 : Int) (a1 : Int) (a2 : Int) (r : Bool) (w : World) (h : impl_within.f a0 a1 a2 = some r) :
    Calls Tryd.prog 47 #[.int .i64 a0, .int .i64 a1, .int .i64 a2] w fun e w' => e = .returned (.bool r) ∧ Drawn0 w w' := by
  have H : (if a0 ≥ a1 then (some (decide (a0 ≤ a2))) else (some false)) = some r := h
  clear h
  by_cases c4 : a0 ≥ a1
  · rw [if_pos c4] at H
    have c4b0 : decide (a1 ≤ a0) = true := decide_eq_true c4
    clear c4
    obtain rfl := Option.some.inj H
    go_enter Tryd.func47, Tryd.ntmps47
    go_wp2
    first | go_ret | ((try simp only [Exit.inBlock, Exit.then]); apply bodyPost_ret; (exact results_tmp rfl _ _ _); rfl)
    exact ⟨by first | rfl | (simp; done) | (simp [*]; done), by repeat (first | exact Drawn0.refl _ | apply Drawn0.step)⟩
  · rw [if_neg c4] at H
    have c4b0 : decide (a1 ≤ a0) = false := decide_eq_false c4
    clear c4
    obtain rfl := Option.some.inj H
    go_enter Tryd.func47, Tryd.ntmps47
    go_wp2
    first | go_ret | ((try simp only [Exit.inBlock, Exit.then]); apply bodyPost_ret; (exact results_tmp rfl _ _ _); rfl)
    exact ⟨by first | rfl | (simp; done) | (simp [*]; done), by repeat (first | exact Drawn0.refl _ | apply Drawn0.step)⟩

/-! ### impl_isByte: function 59 -/
def impl_isByte.f (a0 : Int) : Option (Bool) := (impl_within.f a0 0 255).bind fun t124 => (some t124)
set_option maxHeartbeats 8000000 in
set_option maxRecDepth 100000 in
theorem impl_isByte.calls (a0 : Int) (r : Bool) (w : World) (h : impl_isByte.f a0 = some r) :
    Calls Tryd.prog 59 #[.int .i64 a0] w fun e w' => e = .returned (.bool r) ∧ Drawn0 w w' := by
  have H : ((impl_within.f a0 0 255).bind fun t124 => (some t124)) = some r := h
  clear h
  replace H := Option.bind_eq_some_iff.mp H
  obtain ⟨t124, A20, H⟩ := H
  replace H : (some t124) = some r := H
  have A2 := Aside0.mk A20
  clear A20
  obtain rfl := Option.some.inj H
  go_enter Tryd.func59, Tryd.ntmps59
  go_wp2_with (first | ((with_reducible refine gate_callee (f := 47) rfl ?_); refine goesL_ (some 4) rfl rfl Tryd.func47 (by kernel_rfl) rfl #[.int .i64 a0, .int .i64 0, .int .i64 255] rfl (by (try simp only [List.map_toArray, List.map_cons, List.map_nil]); first | done | rfl | (simp only [List.length_drop, List.length_take]; rfl)) ?_; (with_reducible refine (impl_within.calls a0 0 255 t124 _ A2.out).mono ?_); rintro e w' ⟨rfl, ⟨nd, rfl⟩⟩; refine ⟨_, rfl, ?_⟩))
  first | go_ret | ((try simp only [Exit.inBlock, Exit.then]); apply bodyPost_ret; (exact results_tmp rfl _ _ _); rfl)
  exact ⟨by first | rfl | (simp; done) | (simp [*]; done), by repeat (first | exact Drawn0.refl _ | apply Drawn0.step)⟩

/-! ### impl_prefixed: function 60 -/
open Go.Proofs.YtmiebnpmckjidaaDoor.Aid
set_option maxRecDepth 100000 in
set_option maxHeartbeats 8000000 in
theorem impl_prefixed.namesC (s : ByteArray) (arr : Array Value) (k : Nat) (hk : Go.Lib.countB s ⟨#[32]⟩ + 1 = k) (harr : ((Go.Lib.splitB ⟨#[32]⟩ 0 (Go.Lib.countB s ⟨#[32]⟩) s).map Value.string).toArray = arr) (hs : s.size < 4294967281) (w : World) (hG : GW w) :
    Calls Tryd.prog 107 #[.string s] w fun e w' => e = .returned (.slice (some ⟨w.heap.size, 0, none⟩) k k) ∧ w' = w.alloc (.cells arr 9) := by
  obtain ⟨m, hm⟩ := hG.maxlen
  have hc := Tryd.strings_Split s ⟨#[32]⟩ m w hs hm (by decide)
  rw [hk, harr] at hc
  clear hk harr
  go_enter Tryd.func107, Tryd.ntmps107
  go_wp2_with (go_at_call 67; refine hc.mono ?_; rintro e w' ⟨rfl, rfl⟩)
  (first | go_ret | (apply bodyPost_ret; (exact results_tmp rfl _ _ _); rfl))
  exact ⟨rfl, rfl⟩
def impl_prefixed.turnsArr : Array Value := #[.string (⟨#[114, 108, 99]⟩ : ByteArray), .string (⟨#[114, 114, 99]⟩ : ByteArray), .string (⟨#[114, 108]⟩ : ByteArray), .string (⟨#[114, 114]⟩ : ByteArray), .string (⟨#[115, 108, 97]⟩ : ByteArray), .string (⟨#[115, 114, 97]⟩ : ByteArray), .string (⟨#[115, 119, 97, 112]⟩ : ByteArray), .string (⟨#[115, 114, 108]⟩ : ByteArray)]
theorem impl_prefixed.turnsC (w : World) (hG : GW w) : Calls Tryd.prog 106 #[] w fun e w' => e = .returned (.slice (some ⟨w.heap.size, 0, none⟩) 8 8) ∧ w' = w.alloc (.cells impl_prefixed.turnsArr 9) := by
  have hc := impl_prefixed.namesC (⟨#[114, 108, 99, 32, 114, 114, 99, 32, 114, 108, 32, 114, 114, 32, 115, 108, 97, 32, 115, 114, 97, 32, 115, 119, 97, 112, 32, 115, 114, 108]⟩ : ByteArray) impl_prefixed.turnsArr 8 (by kernel_rfl) (by kernel_rfl) (by decide) w hG
  go_enter Tryd.func106, Tryd.ntmps106
  go_wp2_with (go_at_call 107; refine hc.mono ?_; rintro e w' ⟨rfl, rfl⟩)
  (first | go_ret | (apply bodyPost_ret; (exact results_tmp rfl _ _ _); rfl))
  exact ⟨rfl, rfl⟩
def impl_prefixed.regsArr : Array Value := #[.string (⟨#[98]⟩ : ByteArray), .string (⟨#[99]⟩ : ByteArray), .string (⟨#[100]⟩ : ByteArray), .string (⟨#[101]⟩ : ByteArray), .string (⟨#[104]⟩ : ByteArray), .string (⟨#[108]⟩ : ByteArray), .string (⟨#[91, 104, 108, 93]⟩ : ByteArray), .string (⟨#[97]⟩ : ByteArray)]
theorem impl_prefixed.regsC (w : World) (hG : GW w) : Calls Tryd.prog 64 #[] w fun e w' => e = .returned (.slice (some ⟨w.heap.size, 0, none⟩) 8 8) ∧ w' = w.alloc (.cells impl_prefixed.regsArr 9) := by
  have hc := impl_prefixed.namesC (⟨#[98, 32, 99, 32, 100, 32, 101, 32, 104, 32, 108, 32, 91, 104, 108, 93, 32, 97]⟩ : ByteArray) impl_prefixed.regsArr 8 (by kernel_rfl) (by kernel_rfl) (by decide) w hG
  go_enter Tryd.func64, Tryd.ntmps64
  go_wp2_with (go_at_call 107; refine hc.mono ?_; rintro e w' ⟨rfl, rfl⟩)
  (first | go_ret | (apply bodyPost_ret; (exact results_tmp rfl _ _ _); rfl))
  exact ⟨rfl, rfl⟩
def impl_prefixed.bitArr : Array Value := #[.string (⟨#[98, 105, 116]⟩ : ByteArray), .string (⟨#[114, 101, 115]⟩ : ByteArray), .string (⟨#[115, 101, 116]⟩ : ByteArray)]
theorem impl_prefixed.bitC (w : World) (hG : GW w) : Calls Tryd.prog 107 #[.string (⟨#[98, 105, 116, 32, 114, 101, 115, 32, 115, 101, 116]⟩ : ByteArray)] w fun e w' => e = .returned (.slice (some ⟨w.heap.size, 0, none⟩) 3 3) ∧ w' = w.alloc (.cells impl_prefixed.bitArr 9) :=
  impl_prefixed.namesC _ _ _ (by kernel_rfl) (by kernel_rfl) (by decide) w hG
theorem impl_prefixed.turns_at : ∀ y : Nat, y < 8 → impl_prefixed.turnsArr[y]? = some (.string (turnsL.getD y ⟨#[]⟩)) ∧ (turnsL.getD y ⟨#[]⟩).size ≤ 100
  | 0, _ => ⟨rfl, by decide⟩
  | 1, _ => ⟨rfl, by decide⟩
  | 2, _ => ⟨rfl, by decide⟩
  | 3, _ => ⟨rfl, by decide⟩
  | 4, _ => ⟨rfl, by decide⟩
  | 5, _ => ⟨rfl, by decide⟩
  | 6, _ => ⟨rfl, by decide⟩
  | 7, _ => ⟨rfl, by decide⟩
  | n + 8, h => absurd h (by omega)
theorem impl_prefixed.regs_at : ∀ y : Nat, y < 8 → impl_prefixed.regsArr[y]? = some (.string (regsL.getD y ⟨#[]⟩)) ∧ (regsL.getD y ⟨#[]⟩).size ≤ 100
  | 0, _ => ⟨rfl, by decide⟩
  | 1, _ => ⟨rfl, by decide⟩
  | 2, _ => ⟨rfl, by decide⟩
  | 3, _ => ⟨rfl, by decide⟩
  | 4, _ => ⟨rfl, by decide⟩
  | 5, _ => ⟨rfl, by decide⟩
  | 6, _ => ⟨rfl, by decide⟩
  | 7, _ => ⟨rfl, by decide⟩
  | n + 8, h => absurd h (by omega)
set_option maxRecDepth 100000 in
set_option maxHeartbeats 8000000 in
theorem impl_prefixed.decC (y : Nat) (s : ByteArray) (hy : y < 8) (hs : (⟨(Go.Lib.decDigits y).toArray⟩ : ByteArray) = s) (w : World) : Calls Tryd.prog 108 #[.int .i64 (y : Int)] w fun e w' => e = .returned (.string s) ∧ w' = w := by
  have hc := fun W => Tryd.strconv_FormatInt_10_small y (by omega) W
  rw [hs] at hc
  clear hs
  go_enter Tryd.func108, Tryd.ntmps108
  go_wp2_with (go_at_call 94; refine (hc _).mono ?_; rintro e w' ⟨rfl, rfl⟩)
  (first | go_ret | (apply bodyPost_ret; (exact results_tmp rfl _ _ _); rfl))
  exact ⟨rfl, rfl⟩
set_option maxRecDepth 100000 in
set_option maxHeartbeats 8000000 in
theorem impl_prefixed.ct (y z : Nat) (s t : ByteArray) (hs : impl_prefixed.turnsArr[y]? = some (.string s)) (ls : (y : Int) < 8) (zs : s.size ≤ 100) (ht : impl_prefixed.regsArr[z]? = some (.string t)) (lt : (z : Int) < 8) (zt : t.size ≤ 100) (w : World) (hG : GW w) : Calls Tryd.prog 60 #[.int .i64 0, .int .i64 (y : Int), .int .i64 (z : Int)] w fun e w' => e = .returned (.string ((s ++ ⟨#[32]⟩) ++ t)) ∧ Below w.heap.size w w' := by
  have HG := Aside0.mk hG
  clear hG
  go_enter Tryd.func60, Tryd.ntmps60
  go_wp2
  go_region_with (first | (go_at_call 106; refine (impl_prefixed.turnsC _ ?hg).mono ?_; (case hg => repeat (first | exact HG.out | apply GW.alloc | apply GW.drewN | apply GW.drew)); rintro e w' ⟨rfl, rfl⟩) | (go_at_call 64; refine (impl_prefixed.regsC _ ?hg).mono ?_; (case hg => repeat (first | exact HG.out | apply GW.alloc | apply GW.drewN | apply GW.drew)); rintro e w' ⟨rfl, rfl⟩))
  all_goals go_wp2
  all_goals ((first | go_ret | (apply bodyPost_ret; (exact results_tmp rfl _ _ _); rfl)); exact ⟨by first | rfl | decide, by repeat (first | exact Below.refl _ _ | apply below_alloc | apply pw_below_drewN | apply below_drew)⟩)
set_option maxRecDepth 100000 in
set_option maxHeartbeats 8000000 in
theorem impl_prefixed.cb (x i y z : Nat) (u s t : ByteArray) (x0 : ¬ (x : Int) = 0) (e : IntKind.i64.wrap ((x : Int) - 1) = (i : Int)) (hu : impl_prefixed.bitArr[i]? = some (.string u)) (lu : (i : Int) < 3) (zu : u.size ≤ 100) (hd : ∀ w, Calls Tryd.prog 108 #[.int .i64 (y : Int)] w fun e w' => e = .returned (.string s) ∧ w' = w) (zs : s.size ≤ 100) (ht : impl_prefixed.regsArr[z]? = some (.string t)) (lt : (z : Int) < 8) (zt : t.size ≤ 100) (w : World) (hG : GW w) : Calls Tryd.prog 60 #[.int .i64 (x : Int), .int .i64 (y : Int), .int .i64 (z : Int)] w fun e w' => e = .returned (.string ((((u ++ ⟨#[32]⟩) ++ s) ++ ⟨#[44]⟩) ++ t)) ∧ Below w.heap.size w w' := by
  have HG := Aside0.mk hG
  clear hG
  go_enter Tryd.func60, Tryd.ntmps60
  go_wp2
  go_region_with (first | (go_at_call 108; refine (hd _).mono ?_; rintro e w' ⟨rfl, rfl⟩) | (go_at_call 107; refine (impl_prefixed.bitC _ ?hg).mono ?_; (case hg => repeat (first | exact HG.out | apply GW.alloc | apply GW.drewN | apply GW.drew)); rintro e w' ⟨rfl, rfl⟩) | (go_at_call 64; refine (impl_prefixed.regsC _ ?hg).mono ?_; (case hg => repeat (first | exact HG.out | apply GW.alloc | apply GW.drewN | apply GW.drew)); rintro e w' ⟨rfl, rfl⟩))
  all_goals go_wp2
  all_goals ((first | go_ret | (apply bodyPost_ret; (exact results_tmp rfl _ _ _); rfl)); exact ⟨by first | rfl | decide, by repeat (first | exact Below.refl _ _ | apply below_alloc | apply pw_below_drewN | apply below_drew)⟩)
def impl_prefixed.f (a0 a1 a2 : Int) : Option ByteArray := if (0 ≤ a0 ∧ a0 < 4) ∧ (0 ≤ a1 ∧ a1 < 8) ∧ (0 ≤ a2 ∧ a2 < 8) then some (tmplT (64 * a0 + 8 * a1 + a2).toNat true) else none
theorem impl_prefixed.digit (y : Nat) (hy : y < 8) : (⟨(Go.Lib.decDigits y).toArray⟩ : ByteArray) = ⟨#[UInt8.ofNat (48 + y)]⟩ := by
  rw [Go.Lib.decDigits, dif_pos (by omega)]
theorem impl_prefixed.calls (a0 a1 a2 : Int) (r : ByteArray) (w : World) (hG : GW w) (h : impl_prefixed.f a0 a1 a2 = some r) :
    Calls Tryd.prog 60 #[.int .i64 a0, .int .i64 a1, .int .i64 a2] w fun e w' => e = .returned (.string r) ∧ Below w.heap.size w w' := by
  unfold impl_prefixed.f at h
  by_cases hr : (0 ≤ a0 ∧ a0 < 4) ∧ (0 ≤ a1 ∧ a1 < 8) ∧ (0 ≤ a2 ∧ a2 < 8)
  · rw [if_pos hr] at h
    obtain rfl := Option.some.inj h
    obtain ⟨x, rfl⟩ : ∃ x : Nat, a0 = (x : Int) := ⟨a0.toNat, by omega⟩
    obtain ⟨y, rfl⟩ : ∃ y : Nat, a1 = (y : Int) := ⟨a1.toNat, by omega⟩
    obtain ⟨z, rfl⟩ : ∃ z : Nat, a2 = (z : Int) := ⟨a2.toNat, by omega⟩
    have hx : x < 4 := by omega
    have hy : y < 8 := by omega
    have hz : z < 8 := by omega
    rw [show (64 * (x : Int) + 8 * (y : Int) + (z : Int)).toNat = 64 * x + 8 * y + z by omega]
    have hT : tmplT (64 * x + 8 * y + z) true = if x = 0 then (turnsL.getD y ⟨#[]⟩ ++ ⟨#[32]⟩) ++ regsL.getD z ⟨#[]⟩ else ((wordsL.getD x ⟨#[]⟩ ++ ⟨#[UInt8.ofNat (48 + y)]⟩) ++ ⟨#[44]⟩) ++ regsL.getD z ⟨#[]⟩ := by
      unfold tmplT
      rw [if_pos rfl, show (64 * x + 8 * y + z) / 8 % 8 = y by omega, show (64 * x + 8 * y + z) % 8 = z by omega, show (64 * x + 8 * y + z) / 64 = x by omega]
      by_cases h0 : x = 0
      · rw [if_pos h0, if_pos (by omega)]
      · rw [if_neg h0, if_neg (by omega)]
    rw [hT]
    by_cases h0 : x = 0
    · subst h0
      exact impl_prefixed.ct y z _ _ (impl_prefixed.turns_at _ hy).1 (by omega) (impl_prefixed.turns_at _ hy).2 (impl_prefixed.regs_at _ hz).1 (by omega) (impl_prefixed.regs_at _ hz).2 w hG
    · rw [if_neg h0]
      have h3 : x = 1 ∨ x = 2 ∨ x = 3 := by omega
      rcases h3 with rfl | rfl | rfl
      · exact impl_prefixed.cb 1 0 y z (⟨#[98, 105, 116]⟩ : ByteArray) _ _ (by decide) (by decide) rfl (by decide) (by decide) (impl_prefixed.decC y _ hy (impl_prefixed.digit y hy)) (by show (1 : Nat) ≤ 100; omega) (impl_prefixed.regs_at _ hz).1 (by omega) (impl_prefixed.regs_at _ hz).2 w hG
      · exact impl_prefixed.cb 2 1 y z (⟨#[114, 101, 115]⟩ : ByteArray) _ _ (by decide) (by decide) rfl (by decide) (by decide) (impl_prefixed.decC y _ hy (impl_prefixed.digit y hy)) (by show (1 : Nat) ≤ 100; omega) (impl_prefixed.regs_at _ hz).1 (by omega) (impl_prefixed.regs_at _ hz).2 w hG
      · exact impl_prefixed.cb 3 2 y z (⟨#[115, 101, 116]⟩ : ByteArray) _ _ (by decide) (by decide) rfl (by decide) (by decide) (impl_prefixed.decC y _ hy (impl_prefixed.digit y hy)) (by show (1 : Nat) ≤ 100; omega) (impl_prefixed.regs_at _ hz).1 (by omega) (impl_prefixed.regs_at _ hz).2 w hG
  · rw [if_neg hr] at h
    cases h

end Go.Proofs.YtmiebnpmckjidaaDoor.PFnExactTemplateOf
