/- What the Go functions that the law FnExactTemplateOf reaches compute, function by function, and that Go comes to just that. -/
import Derived.Test.YtmiebnpmckjidaaDoorPFnExactTemplateOfx0
import Derived.Test.YtmiebnpmckjidaaDoorPFnExactTemplateOfx2
namespace Go.Proofs.YtmiebnpmckjidaaDoor.PFnExactTemplateOf
open Go.RowKit Go.Proofs.YtmiebnpmckjidaaDoorW.PrintWords Go.Proofs.YtmiebnpmckjidaaDoorW.PrintLast Go.Proofs.YtmiebnpmckjidaaDoorW.PrintMore
attribute [local go_sem] max2_int min2_int max_two min_two max_three min_three max_four min_four   -- for this text's walks alone
set_option linter.unusedVariables false
set_option linter.unusedSimpArgs false

/-! ### impl_low: function 61 -/
open Go.Proofs.YtmiebnpmckjidaaDoor.Aid
set_option maxRecDepth 100000 in
set_option maxHeartbeats 8000000 in
theorem impl_low.namesC (s : ByteArray) (arr : Array Value) (k : Nat) (hk : Go.Lib.countB s ⟨#[32]⟩ + 1 = k) (harr : ((Go.Lib.splitB ⟨#[32]⟩ 0 (Go.Lib.countB s ⟨#[32]⟩) s).map Value.string).toArray = arr) (hs : s.size < 4294967281) (w : World) (hG : GW w) :
    Calls Tryd.prog 107 #[.string s] w fun e w' => e = .returned (.slice (some ⟨w.heap.size, 0, none⟩) k k) ∧ w' = w.alloc (.cells arr 9) := by
  obtain ⟨m, hm⟩ := hG.maxlen
  have hc := Tryd.strings_Split s ⟨#[32]⟩ m w hs hm (by decide)
  rw [hk, harr] at hc
  clear hk harr
  go_enter Tryd.func107, Tryd.ntmps107
  go_wp2_with (go_at_call 67; refine hc.mono ?_; rintro e w' ⟨rfl, rfl⟩)
  (first | go_ret | (apply bodyPost_ret; (exact results_tmp rfl _ _ _); rfl))
  exact ⟨rfl, rfl⟩
def impl_low.regsArr : Array Value := #[.string (⟨#[98]⟩ : ByteArray), .string (⟨#[99]⟩ : ByteArray), .string (⟨#[100]⟩ : ByteArray), .string (⟨#[101]⟩ : ByteArray), .string (⟨#[104]⟩ : ByteArray), .string (⟨#[108]⟩ : ByteArray), .string (⟨#[91, 104, 108, 93]⟩ : ByteArray), .string (⟨#[97]⟩ : ByteArray)]
theorem impl_low.regsC (w : World) (hG : GW w) : Calls Tryd.prog 64 #[] w fun e w' => e = .returned (.slice (some ⟨w.heap.size, 0, none⟩) 8 8) ∧ w' = w.alloc (.cells impl_low.regsArr 9) := by
  have hc := impl_low.namesC (⟨#[98, 32, 99, 32, 100, 32, 101, 32, 104, 32, 108, 32, 91, 104, 108, 93, 32, 97]⟩ : ByteArray) impl_low.regsArr 8 (by kernel_rfl) (by kernel_rfl) (by decide) w hG
  go_enter Tryd.func64, Tryd.ntmps64
  go_wp2_with (go_at_call 107; refine hc.mono ?_; rintro e w' ⟨rfl, rfl⟩)
  (first | go_ret | (apply bodyPost_ret; (exact results_tmp rfl _ _ _); rfl))
  exact ⟨rfl, rfl⟩
def impl_low.pairsArr : Array Value := #[.string (⟨#[98, 99]⟩ : ByteArray), .string (⟨#[100, 101]⟩ : ByteArray), .string (⟨#[104, 108]⟩ : ByteArray), .string (⟨#[115, 112]⟩ : ByteArray)]
theorem impl_low.pairsC (w : World) (hG : GW w) : Calls Tryd.prog 110 #[] w fun e w' => e = .returned (.slice (some ⟨w.heap.size, 0, none⟩) 4 4) ∧ w' = w.alloc (.cells impl_low.pairsArr 9) := by
  have hc := impl_low.namesC (⟨#[98, 99, 32, 100, 101, 32, 104, 108, 32, 115, 112]⟩ : ByteArray) impl_low.pairsArr 4 (by kernel_rfl) (by kernel_rfl) (by decide) w hG
  go_enter Tryd.func110, Tryd.ntmps110
  go_wp2_with (go_at_call 107; refine hc.mono ?_; rintro e w' ⟨rfl, rfl⟩)
  (first | go_ret | (apply bodyPost_ret; (exact results_tmp rfl _ _ _); rfl))
  exact ⟨rfl, rfl⟩
def impl_low.condsArr : Array Value := #[.string (⟨#[110, 122]⟩ : ByteArray), .string (⟨#[122]⟩ : ByteArray), .string (⟨#[110, 99]⟩ : ByteArray), .string (⟨#[99]⟩ : ByteArray)]
theorem impl_low.condsC (w : World) (hG : GW w) : Calls Tryd.prog 109 #[] w fun e w' => e = .returned (.slice (some ⟨w.heap.size, 0, none⟩) 4 4) ∧ w' = w.alloc (.cells impl_low.condsArr 9) := by
  have hc := impl_low.namesC (⟨#[110, 122, 32, 122, 32, 110, 99, 32, 99]⟩ : ByteArray) impl_low.condsArr 4 (by kernel_rfl) (by kernel_rfl) (by decide) w hG
  go_enter Tryd.func109, Tryd.ntmps109
  go_wp2_with (go_at_call 107; refine hc.mono ?_; rintro e w' ⟨rfl, rfl⟩)
  (first | go_ret | (apply bodyPost_ret; (exact results_tmp rfl _ _ _); rfl))
  exact ⟨rfl, rfl⟩
def impl_low.atArr : Array Value := #[.string (⟨#[91, 98, 99, 93]⟩ : ByteArray), .string (⟨#[91, 100, 101, 93]⟩ : ByteArray), .string (⟨#[91, 104, 108, 43, 93]⟩ : ByteArray), .string (⟨#[91, 104, 108, 45, 93]⟩ : ByteArray)]
theorem impl_low.atC (w : World) (hG : GW w) : Calls Tryd.prog 107 #[.string (⟨#[91, 98, 99, 93, 32, 91, 100, 101, 93, 32, 91, 104, 108, 43, 93, 32, 91, 104, 108, 45, 93]⟩ : ByteArray)] w fun e w' => e = .returned (.slice (some ⟨w.heap.size, 0, none⟩) 4 4) ∧ w' = w.alloc (.cells impl_low.atArr 9) :=
  impl_low.namesC _ _ _ (by kernel_rfl) (by kernel_rfl) (by decide) w hG
def impl_low.incArr : Array Value := #[.string (⟨#[105, 110, 99]⟩ : ByteArray), .string (⟨#[100, 101, 99]⟩ : ByteArray)]
theorem impl_low.incC (w : World) (hG : GW w) : Calls Tryd.prog 107 #[.string (⟨#[105, 110, 99, 32, 100, 101, 99]⟩ : ByteArray)] w fun e w' => e = .returned (.slice (some ⟨w.heap.size, 0, none⟩) 2 2) ∧ w' = w.alloc (.cells impl_low.incArr 9) :=
  impl_low.namesC _ _ _ (by kernel_rfl) (by kernel_rfl) (by decide) w hG
def impl_low.rotArr : Array Value := #[.string (⟨#[114, 108, 99, 97]⟩ : ByteArray), .string (⟨#[114, 114, 99, 97]⟩ : ByteArray), .string (⟨#[114, 108, 97]⟩ : ByteArray), .string (⟨#[114, 114, 97]⟩ : ByteArray), .string (⟨#[100, 97, 97]⟩ : ByteArray), .string (⟨#[99, 112, 108]⟩ : ByteArray), .string (⟨#[115, 99, 102]⟩ : ByteArray), .string (⟨#[99, 99, 102]⟩ : ByteArray)]
theorem impl_low.rotC (w : World) (hG : GW w) : Calls Tryd.prog 107 #[.string (⟨#[114, 108, 99, 97, 32, 114, 114, 99, 97, 32, 114, 108, 97, 32, 114, 114, 97, 32, 100, 97, 97, 32, 99, 112, 108, 32, 115, 99, 102, 32, 99, 99, 102]⟩ : ByteArray)] w fun e w' => e = .returned (.slice (some ⟨w.heap.size, 0, none⟩) 8 8) ∧ w' = w.alloc (.cells impl_low.rotArr 9) :=
  impl_low.namesC _ _ _ (by kernel_rfl) (by kernel_rfl) (by decide) w hG
set_option maxRecDepth 100000 in
set_option maxHeartbeats 8000000 in
theorem impl_low.w0_0 (w : World) : Calls Tryd.prog 61 #[.int .i64 0, .int .i64 0] w fun e w' => e = .returned (.string (⟨#[110, 111, 112]⟩ : ByteArray)) ∧ Below w.heap.size w w' := by
  go_enter Tryd.func61, Tryd.ntmps61
  go_wp2
  (first | go_ret | (apply bodyPost_ret; (exact results_tmp rfl _ _ _); rfl))
  exact ⟨by first | rfl | decide, by repeat (first | exact Below.refl _ _ | apply below_alloc | apply pw_below_drewN | apply below_drew)⟩
set_option maxRecDepth 100000 in
set_option maxHeartbeats 8000000 in
theorem impl_low.w1_0 (w : World) : Calls Tryd.prog 61 #[.int .i64 1, .int .i64 0] w fun e w' => e = .returned (.string (⟨#[108, 100, 32, 91, 110, 49, 54, 93, 44, 115, 112]⟩ : ByteArray)) ∧ Below w.heap.size w w' := by
  go_enter Tryd.func61, Tryd.ntmps61
  go_wp2
  (first | go_ret | (apply bodyPost_ret; (exact results_tmp rfl _ _ _); rfl))
  exact ⟨by first | rfl | decide, by repeat (first | exact Below.refl _ _ | apply below_alloc | apply pw_below_drewN | apply below_drew)⟩
set_option maxRecDepth 100000 in
set_option maxHeartbeats 8000000 in
theorem impl_low.w2_0 (w : World) : Calls Tryd.prog 61 #[.int .i64 2, .int .i64 0] w fun e w' => e = .returned (.string (⟨#[115, 116, 111, 112, 32, 110, 56]⟩ : ByteArray)) ∧ Below w.heap.size w w' := by
  go_enter Tryd.func61, Tryd.ntmps61
  go_wp2
  (first | go_ret | (apply bodyPost_ret; (exact results_tmp rfl _ _ _); rfl))
  exact ⟨by first | rfl | decide, by repeat (first | exact Below.refl _ _ | apply below_alloc | apply pw_below_drewN | apply below_drew)⟩
set_option maxRecDepth 100000 in
set_option maxHeartbeats 8000000 in
theorem impl_low.w3_0 (w : World) : Calls Tryd.prog 61 #[.int .i64 3, .int .i64 0] w fun e w' => e = .returned (.string (⟨#[106, 114, 32, 101, 56]⟩ : ByteArray)) ∧ Below w.heap.size w w' := by
  go_enter Tryd.func61, Tryd.ntmps61
  go_wp2
  (first | go_ret | (apply bodyPost_ret; (exact results_tmp rfl _ _ _); rfl))
  exact ⟨by first | rfl | decide, by repeat (first | exact Below.refl _ _ | apply below_alloc | apply pw_below_drewN | apply below_drew)⟩
set_option maxRecDepth 100000 in
set_option maxHeartbeats 8000000 in
theorem impl_low.s0 (y i : Nat) (s : ByteArray) (h4 : ¬ (y : Int) < 4) (h4b : (4 : Int) ≤ (y : Int)) (e : IntKind.i64.wrap ((y : Int) - 4) = (i : Int)) (hs : impl_low.condsArr[i]? = some (.string s)) (ls : (i : Int) < 4) (zs : s.size ≤ 100) (w : World) (hG : GW w) : Calls Tryd.prog 61 #[.int .i64 (y : Int), .int .i64 0] w fun e w' => e = .returned (.string (((⟨#[106, 114, 32]⟩ : ByteArray) ++ s) ++ (⟨#[44, 101, 56]⟩ : ByteArray))) ∧ Below w.heap.size w w' := by
  have HG := Aside0.mk hG
  clear hG
  go_enter Tryd.func61, Tryd.ntmps61
  go_wp2_with (go_at_call 109; refine (impl_low.condsC _ ?hg).mono ?_; (case hg => repeat (first | exact HG.out | apply GW.alloc | apply GW.drewN | apply GW.drew)); rintro e w' ⟨rfl, rfl⟩)
  (first | go_ret | (apply bodyPost_ret; (exact results_tmp rfl _ _ _); rfl))
  exact ⟨by first | rfl | decide, by repeat (first | exact Below.refl _ _ | apply below_alloc | apply pw_below_drewN | apply below_drew)⟩
set_option maxRecDepth 100000 in
set_option maxHeartbeats 8000000 in
theorem impl_low.s1a (y p : Nat) (s : ByteArray) (eq : (y : Int).tmod 2 = 0) (ep : wrap64 ((y : Int) / 2) = (p : Int)) (hs : impl_low.pairsArr[p]? = some (.string s)) (ls : (p : Int) < 4) (zs : s.size ≤ 100) (w : World) (hG : GW w) : Calls Tryd.prog 61 #[.int .i64 (y : Int), .int .i64 1] w fun e w' => e = .returned (.string (((⟨#[108, 100, 32]⟩ : ByteArray) ++ s) ++ (⟨#[44, 110, 49, 54]⟩ : ByteArray))) ∧ Below w.heap.size w w' := by
  have HG := Aside0.mk hG
  clear hG
  go_enter Tryd.func61, Tryd.ntmps61
  go_wp2_with (go_at_call 110; refine (impl_low.pairsC _ ?hg).mono ?_; (case hg => repeat (first | exact HG.out | apply GW.alloc | apply GW.drewN | apply GW.drew)); rintro e w' ⟨rfl, rfl⟩)
  (first | go_ret | (apply bodyPost_ret; (exact results_tmp rfl _ _ _); rfl))
  exact ⟨by first | rfl | decide, by repeat (first | exact Below.refl _ _ | apply below_alloc | apply pw_below_drewN | apply below_drew)⟩
set_option maxRecDepth 100000 in
set_option maxHeartbeats 8000000 in
theorem impl_low.s1b (y p : Nat) (s : ByteArray) (eq : (y : Int).tmod 2 = 1) (ep : wrap64 ((y : Int) / 2) = (p : Int)) (hs : impl_low.pairsArr[p]? = some (.string s)) (ls : (p : Int) < 4) (zs : s.size ≤ 100) (w : World) (hG : GW w) : Calls Tryd.prog 61 #[.int .i64 (y : Int), .int .i64 1] w fun e w' => e = .returned (.string ((⟨#[97, 100, 100, 32, 104, 108, 44]⟩ : ByteArray) ++ s)) ∧ Below w.heap.size w w' := by
  have HG := Aside0.mk hG
  clear hG
  go_enter Tryd.func61, Tryd.ntmps61
  go_wp2_with (go_at_call 110; refine (impl_low.pairsC _ ?hg).mono ?_; (case hg => repeat (first | exact HG.out | apply GW.alloc | apply GW.drewN | apply GW.drew)); rintro e w' ⟨rfl, rfl⟩)
  (first | go_ret | (apply bodyPost_ret; (exact results_tmp rfl _ _ _); rfl))
  exact ⟨by first | rfl | decide, by repeat (first | exact Below.refl _ _ | apply below_alloc | apply pw_below_drewN | apply below_drew)⟩
set_option maxRecDepth 100000 in
set_option maxHeartbeats 8000000 in
theorem impl_low.s2a (y p : Nat) (s : ByteArray) (eq : (y : Int).tmod 2 = 0) (ep : wrap64 ((y : Int) / 2) = (p : Int)) (hs : impl_low.atArr[p]? = some (.string s)) (ls : (p : Int) < 4) (zs : s.size ≤ 100) (w : World) (hG : GW w) : Calls Tryd.prog 61 #[.int .i64 (y : Int), .int .i64 2] w fun e w' => e = .returned (.string (((⟨#[108, 100, 32]⟩ : ByteArray) ++ s) ++ (⟨#[44, 97]⟩ : ByteArray))) ∧ Below w.heap.size w w' := by
  have HG := Aside0.mk hG
  clear hG
  go_enter Tryd.func61, Tryd.ntmps61
  go_wp2_with (go_at_call 107; refine (impl_low.atC _ ?hg).mono ?_; (case hg => repeat (first | exact HG.out | apply GW.alloc | apply GW.drewN | apply GW.drew)); rintro e w' ⟨rfl, rfl⟩)
  (first | go_ret | (apply bodyPost_ret; (exact results_tmp rfl _ _ _); rfl))
  exact ⟨by first | rfl | decide, by repeat (first | exact Below.refl _ _ | apply below_alloc | apply pw_below_drewN | apply below_drew)⟩
set_option maxRecDepth 100000 in
set_option maxHeartbeats 8000000 in
theorem impl_low.s2b (y p : Nat) (s : ByteArray) (eq : (y : Int).tmod 2 = 1) (ep : wrap64 ((y : Int) / 2) = (p : Int)) (hs : impl_low.atArr[p]? = some (.string s)) (ls : (p : Int) < 4) (zs : s.size ≤ 100) (w : World) (hG : GW w) : Calls Tryd.prog 61 #[.int .i64 (y : Int), .int .i64 2] w fun e w' => e = .returned (.string ((⟨#[108, 100, 32, 97, 44]⟩ : ByteArray) ++ s)) ∧ Below w.heap.size w w' := by
  have HG := Aside0.mk hG
  clear hG
  go_enter Tryd.func61, Tryd.ntmps61
  go_wp2_with (go_at_call 107; refine (impl_low.atC _ ?hg).mono ?_; (case hg => repeat (first | exact HG.out | apply GW.alloc | apply GW.drewN | apply GW.drew)); rintro e w' ⟨rfl, rfl⟩)
  (first | go_ret | (apply bodyPost_ret; (exact results_tmp rfl _ _ _); rfl))
  exact ⟨by first | rfl | decide, by repeat (first | exact Below.refl _ _ | apply below_alloc | apply pw_below_drewN | apply below_drew)⟩
set_option maxRecDepth 100000 in
set_option maxHeartbeats 8000000 in
theorem impl_low.s3 (y p q : Nat) (s t : ByteArray) (eq : (y : Int).tmod 2 = (q : Int)) (ep : wrap64 ((y : Int) / 2) = (p : Int)) (hs : impl_low.pairsArr[p]? = some (.string s)) (ls : (p : Int) < 4) (zs : s.size ≤ 100) (ht : impl_low.incArr[q]? = some (.string t)) (lt : (q : Int) < 2) (zt : t.size ≤ 100) (w : World) (hG : GW w) : Calls Tryd.prog 61 #[.int .i64 (y : Int), .int .i64 3] w fun e w' => e = .returned (.string ((t ++ ⟨#[32]⟩) ++ s)) ∧ Below w.heap.size w w' := by
  have HG := Aside0.mk hG
  clear hG
  go_enter Tryd.func61, Tryd.ntmps61
  go_wp2
  go_region_with (first | (go_at_call 110; refine (impl_low.pairsC _ ?hg).mono ?_; (case hg => repeat (first | exact HG.out | apply GW.alloc | apply GW.drewN | apply GW.drew)); rintro e w' ⟨rfl, rfl⟩) | (go_at_call 107; refine (impl_low.incC _ ?hg).mono ?_; (case hg => repeat (first | exact HG.out | apply GW.alloc | apply GW.drewN | apply GW.drew)); rintro e w' ⟨rfl, rfl⟩))
  all_goals go_wp2
  all_goals ((first | go_ret | (apply bodyPost_ret; (exact results_tmp rfl _ _ _); rfl)); exact ⟨by first | rfl | decide, by repeat (first | exact Below.refl _ _ | apply below_alloc | apply pw_below_drewN | apply below_drew)⟩)
set_option maxRecDepth 100000 in
set_option maxHeartbeats 8000000 in
theorem impl_low.s4 (y : Nat) (s t : ByteArray) (hs : impl_low.regsArr[y]? = some (.string s)) (ls : (y : Int) < 8) (zs : s.size ≤ 100) (ht : impl_low.incArr[0]? = some (.string t)) (zt : t.size ≤ 100) (w : World) (hG : GW w) : Calls Tryd.prog 61 #[.int .i64 (y : Int), .int .i64 4] w fun e w' => e = .returned (.string ((t ++ ⟨#[32]⟩) ++ s)) ∧ Below w.heap.size w w' := by
  have HG := Aside0.mk hG
  clear hG
  go_enter Tryd.func61, Tryd.ntmps61
  go_wp2
  go_region_with (first | (go_at_call 64; refine (impl_low.regsC _ ?hg).mono ?_; (case hg => repeat (first | exact HG.out | apply GW.alloc | apply GW.drewN | apply GW.drew)); rintro e w' ⟨rfl, rfl⟩) | (go_at_call 107; refine (impl_low.incC _ ?hg).mono ?_; (case hg => repeat (first | exact HG.out | apply GW.alloc | apply GW.drewN | apply GW.drew)); rintro e w' ⟨rfl, rfl⟩))
  all_goals go_wp2
  all_goals ((first | go_ret | (apply bodyPost_ret; (exact results_tmp rfl _ _ _); rfl)); exact ⟨by first | rfl | decide, by repeat (first | exact Below.refl _ _ | apply below_alloc | apply pw_below_drewN | apply below_drew)⟩)
set_option maxRecDepth 100000 in
set_option maxHeartbeats 8000000 in
theorem impl_low.s5 (y : Nat) (s t : ByteArray) (hs : impl_low.regsArr[y]? = some (.string s)) (ls : (y : Int) < 8) (zs : s.size ≤ 100) (ht : impl_low.incArr[1]? = some (.string t)) (zt : t.size ≤ 100) (w : World) (hG : GW w) : Calls Tryd.prog 61 #[.int .i64 (y : Int), .int .i64 5] w fun e w' => e = .returned (.string ((t ++ ⟨#[32]⟩) ++ s)) ∧ Below w.heap.size w w' := by
  have HG := Aside0.mk hG
  clear hG
  go_enter Tryd.func61, Tryd.ntmps61
  go_wp2
  go_region_with (first | (go_at_call 64; refine (impl_low.regsC _ ?hg).mono ?_; (case hg => repeat (first | exact HG.out | apply GW.alloc | apply GW.drewN | apply GW.drew)); rintro e w' ⟨rfl, rfl⟩) | (go_at_call 107; refine (impl_low.incC _ ?hg).mono ?_; (case hg => repeat (first | exact HG.out | apply GW.alloc | apply GW.drewN | apply GW.drew)); rintro e w' ⟨rfl, rfl⟩))
  all_goals go_wp2
  all_goals ((first | go_ret | (apply bodyPost_ret; (exact results_tmp rfl _ _ _); rfl)); exact ⟨by first | rfl | decide, by repeat (first | exact Below.refl _ _ | apply below_alloc | apply pw_below_drewN | apply below_drew)⟩)
set_option maxRecDepth 100000 in
set_option maxHeartbeats 8000000 in
theorem impl_low.s6 (y : Nat) (s : ByteArray) (hs : impl_low.regsArr[y]? = some (.string s)) (ls : (y : Int) < 8) (zs : s.size ≤ 100) (w : World) (hG : GW w) : Calls Tryd.prog 61 #[.int .i64 (y : Int), .int .i64 6] w fun e w' => e = .returned (.string (((⟨#[108, 100, 32]⟩ : ByteArray) ++ s) ++ (⟨#[44, 110, 56]⟩ : ByteArray))) ∧ Below w.heap.size w w' := by
  have HG := Aside0.mk hG
  clear hG
  go_enter Tryd.func61, Tryd.ntmps61
  go_wp2_with (go_at_call 64; refine (impl_low.regsC _ ?hg).mono ?_; (case hg => repeat (first | exact HG.out | apply GW.alloc | apply GW.drewN | apply GW.drew)); rintro e w' ⟨rfl, rfl⟩)
  (first | go_ret | (apply bodyPost_ret; (exact results_tmp rfl _ _ _); rfl))
  exact ⟨by first | rfl | decide, by repeat (first | exact Below.refl _ _ | apply below_alloc | apply pw_below_drewN | apply below_drew)⟩
set_option maxRecDepth 100000 in
set_option maxHeartbeats 8000000 in
theorem impl_low.s7 (y : Nat) (s : ByteArray) (hs : impl_low.rotArr[y]? = some (.string s)) (ls : (y : Int) < 8) (zs : s.size ≤ 100) (w : World) (hG : GW w) : Calls Tryd.prog 61 #[.int .i64 (y : Int), .int .i64 7] w fun e w' => e = .returned (.string (s)) ∧ Below w.heap.size w w' := by
  have HG := Aside0.mk hG
  clear hG
  go_enter Tryd.func61, Tryd.ntmps61
  go_wp2_with (go_at_call 107; refine (impl_low.rotC _ ?hg).mono ?_; (case hg => repeat (first | exact HG.out | apply GW.alloc | apply GW.drewN | apply GW.drew)); rintro e w' ⟨rfl, rfl⟩)
  (first | go_ret | (apply bodyPost_ret; (exact results_tmp rfl _ _ _); rfl))
  exact ⟨by first | rfl | decide, by repeat (first | exact Below.refl _ _ | apply below_alloc | apply pw_below_drewN | apply below_drew)⟩
def impl_low.f (a0 a1 : Int) : Option ByteArray := if (0 ≤ a0 ∧ a0 < 8) ∧ (0 ≤ a1 ∧ a1 < 8) then some (lowL.getD (8 * a1 + a0).toNat ⟨#[]⟩) else none
theorem impl_low.calls (a0 a1 : Int) (r : ByteArray) (w : World) (hG : GW w) (h : impl_low.f a0 a1 = some r) :
    Calls Tryd.prog 61 #[.int .i64 a0, .int .i64 a1] w fun e w' => e = .returned (.string r) ∧ Below w.heap.size w w' := by
  unfold impl_low.f at h
  by_cases hr : (0 ≤ a0 ∧ a0 < 8) ∧ (0 ≤ a1 ∧ a1 < 8)
  · rw [if_pos hr] at h
    obtain rfl := Option.some.inj h
    have hy : a0 = 0 ∨ a0 = 1 ∨ a0 = 2 ∨ a0 = 3 ∨ a0 = 4 ∨ a0 = 5 ∨ a0 = 6 ∨ a0 = 7 := by omega
    have hz : a1 = 0 ∨ a1 = 1 ∨ a1 = 2 ∨ a1 = 3 ∨ a1 = 4 ∨ a1 = 5 ∨ a1 = 6 ∨ a1 = 7 := by omega
    clear hr h
    rcases hz with rfl | rfl | rfl | rfl | rfl | rfl | rfl | rfl
    · rcases hy with rfl | rfl | rfl | rfl | rfl | rfl | rfl | rfl
      · exact (impl_low.w0_0 w).mono (by rintro e w' ⟨rfl, h⟩; exact ⟨by first | rfl | decide, h⟩)
      · exact (impl_low.w1_0 w).mono (by rintro e w' ⟨rfl, h⟩; exact ⟨by first | rfl | decide, h⟩)
      · exact (impl_low.w2_0 w).mono (by rintro e w' ⟨rfl, h⟩; exact ⟨by first | rfl | decide, h⟩)
      · exact (impl_low.w3_0 w).mono (by rintro e w' ⟨rfl, h⟩; exact ⟨by first | rfl | decide, h⟩)
      · exact (impl_low.s0 4 0 (⟨#[110, 122]⟩ : ByteArray) (by decide) (by decide) (by decide) rfl (by decide) (by decide) w hG).mono (by rintro e w' ⟨rfl, h⟩; exact ⟨by first | rfl | decide, h⟩)
      · exact (impl_low.s0 5 1 (⟨#[122]⟩ : ByteArray) (by decide) (by decide) (by decide) rfl (by decide) (by decide) w hG).mono (by rintro e w' ⟨rfl, h⟩; exact ⟨by first | rfl | decide, h⟩)
      · exact (impl_low.s0 6 2 (⟨#[110, 99]⟩ : ByteArray) (by decide) (by decide) (by decide) rfl (by decide) (by decide) w hG).mono (by rintro e w' ⟨rfl, h⟩; exact ⟨by first | rfl | decide, h⟩)
      · exact (impl_low.s0 7 3 (⟨#[99]⟩ : ByteArray) (by decide) (by decide) (by decide) rfl (by decide) (by decide) w hG).mono (by rintro e w' ⟨rfl, h⟩; exact ⟨by first | rfl | decide, h⟩)
    · rcases hy with rfl | rfl | rfl | rfl | rfl | rfl | rfl | rfl
      · exact (impl_low.s1a 0 0 (⟨#[98, 99]⟩ : ByteArray) (by decide) (by unfold wrap64; decide) rfl (by decide) (by decide) w hG).mono (by rintro e w' ⟨rfl, h⟩; exact ⟨by first | rfl | decide, h⟩)
      · exact (impl_low.s1b 1 0 (⟨#[98, 99]⟩ : ByteArray) (by decide) (by unfold wrap64; decide) rfl (by decide) (by decide) w hG).mono (by rintro e w' ⟨rfl, h⟩; exact ⟨by first | rfl | decide, h⟩)
      · exact (impl_low.s1a 2 1 (⟨#[100, 101]⟩ : ByteArray) (by decide) (by unfold wrap64; decide) rfl (by decide) (by decide) w hG).mono (by rintro e w' ⟨rfl, h⟩; exact ⟨by first | rfl | decide, h⟩)
      · exact (impl_low.s1b 3 1 (⟨#[100, 101]⟩ : ByteArray) (by decide) (by unfold wrap64; decide) rfl (by decide) (by decide) w hG).mono (by rintro e w' ⟨rfl, h⟩; exact ⟨by first | rfl | decide, h⟩)
      · exact (impl_low.s1a 4 2 (⟨#[104, 108]⟩ : ByteArray) (by decide) (by unfold wrap64; decide) rfl (by decide) (by decide) w hG).mono (by rintro e w' ⟨rfl, h⟩; exact ⟨by first | rfl | decide, h⟩)
      · exact (impl_low.s1b 5 2 (⟨#[104, 108]⟩ : ByteArray) (by decide) (by unfold wrap64; decide) rfl (by decide) (by decide) w hG).mono (by rintro e w' ⟨rfl, h⟩; exact ⟨by first | rfl | decide, h⟩)
      · exact (impl_low.s1a 6 3 (⟨#[115, 112]⟩ : ByteArray) (by decide) (by unfold wrap64; decide) rfl (by decide) (by decide) w hG).mono (by rintro e w' ⟨rfl, h⟩; exact ⟨by first | rfl | decide, h⟩)
      · exact (impl_low.s1b 7 3 (⟨#[115, 112]⟩ : ByteArray) (by decide) (by unfold wrap64; decide) rfl (by decide) (by decide) w hG).mono (by rintro e w' ⟨rfl, h⟩; exact ⟨by first | rfl | decide, h⟩)
    · rcases hy with rfl | rfl | rfl | rfl | rfl | rfl | rfl | rfl
      · exact (impl_low.s2a 0 0 (⟨#[91, 98, 99, 93]⟩ : ByteArray) (by decide) (by unfold wrap64; decide) rfl (by decide) (by decide) w hG).mono (by rintro e w' ⟨rfl, h⟩; exact ⟨by first | rfl | decide, h⟩)
      · exact (impl_low.s2b 1 0 (⟨#[91, 98, 99, 93]⟩ : ByteArray) (by decide) (by unfold wrap64; decide) rfl (by decide) (by decide) w hG).mono (by rintro e w' ⟨rfl, h⟩; exact ⟨by first | rfl | decide, h⟩)
      · exact (impl_low.s2a 2 1 (⟨#[91, 100, 101, 93]⟩ : ByteArray) (by decide) (by unfold wrap64; decide) rfl (by decide) (by decide) w hG).mono (by rintro e w' ⟨rfl, h⟩; exact ⟨by first | rfl | decide, h⟩)
      · exact (impl_low.s2b 3 1 (⟨#[91, 100, 101, 93]⟩ : ByteArray) (by decide) (by unfold wrap64; decide) rfl (by decide) (by decide) w hG).mono (by rintro e w' ⟨rfl, h⟩; exact ⟨by first | rfl | decide, h⟩)
      · exact (impl_low.s2a 4 2 (⟨#[91, 104, 108, 43, 93]⟩ : ByteArray) (by decide) (by unfold wrap64; decide) rfl (by decide) (by decide) w hG).mono (by rintro e w' ⟨rfl, h⟩; exact ⟨by first | rfl | decide, h⟩)
      · exact (impl_low.s2b 5 2 (⟨#[91, 104, 108, 43, 93]⟩ : ByteArray) (by decide) (by unfold wrap64; decide) rfl (by decide) (by decide) w hG).mono (by rintro e w' ⟨rfl, h⟩; exact ⟨by first | rfl | decide, h⟩)
      · exact (impl_low.s2a 6 3 (⟨#[91, 104, 108, 45, 93]⟩ : ByteArray) (by decide) (by unfold wrap64; decide) rfl (by decide) (by decide) w hG).mono (by rintro e w' ⟨rfl, h⟩; exact ⟨by first | rfl | decide, h⟩)
      · exact (impl_low.s2b 7 3 (⟨#[91, 104, 108, 45, 93]⟩ : ByteArray) (by decide) (by unfold wrap64; decide) rfl (by decide) (by decide) w hG).mono (by rintro e w' ⟨rfl, h⟩; exact ⟨by first | rfl | decide, h⟩)
    · rcases hy with rfl | rfl | rfl | rfl | rfl | rfl | rfl | rfl
      · exact (impl_low.s3 0 0 0 (⟨#[98, 99]⟩ : ByteArray) (⟨#[105, 110, 99]⟩ : ByteArray) (by decide) (by unfold wrap64; decide) rfl (by decide) (by decide) rfl (by decide) (by decide) w hG).mono (by rintro e w' ⟨rfl, h⟩; exact ⟨by first | rfl | decide, h⟩)
      · exact (impl_low.s3 1 0 1 (⟨#[98, 99]⟩ : ByteArray) (⟨#[100, 101, 99]⟩ : ByteArray) (by decide) (by unfold wrap64; decide) rfl (by decide) (by decide) rfl (by decide) (by decide) w hG).mono (by rintro e w' ⟨rfl, h⟩; exact ⟨by first | rfl | decide, h⟩)
      · exact (impl_low.s3 2 1 0 (⟨#[100, 101]⟩ : ByteArray) (⟨#[105, 110, 99]⟩ : ByteArray) (by decide) (by unfold wrap64; decide) rfl (by decide) (by decide) rfl (by decide) (by decide) w hG).mono (by rintro e w' ⟨rfl, h⟩; exact ⟨by first | rfl | decide, h⟩)
      · exact (impl_low.s3 3 1 1 (⟨#[100, 101]⟩ : ByteArray) (⟨#[100, 101, 99]⟩ : ByteArray) (by decide) (by unfold wrap64; decide) rfl (by decide) (by decide) rfl (by decide) (by decide) w hG).mono (by rintro e w' ⟨rfl, h⟩; exact ⟨by first | rfl | decide, h⟩)
      · exact (impl_low.s3 4 2 0 (⟨#[104, 108]⟩ : ByteArray) (⟨#[105, 110, 99]⟩ : ByteArray) (by decide) (by unfold wrap64; decide) rfl (by decide) (by decide) rfl (by decide) (by decide) w hG).mono (by rintro e w' ⟨rfl, h⟩; exact ⟨by first | rfl | decide, h⟩)
      · exact (impl_low.s3 5 2 1 (⟨#[104, 108]⟩ : ByteArray) (⟨#[100, 101, 99]⟩ : ByteArray) (by decide) (by unfold wrap64; decide) rfl (by decide) (by decide) rfl (by decide) (by decide) w hG).mono (by rintro e w' ⟨rfl, h⟩; exact ⟨by first | rfl | decide, h⟩)
      · exact (impl_low.s3 6 3 0 (⟨#[115, 112]⟩ : ByteArray) (⟨#[105, 110, 99]⟩ : ByteArray) (by decide) (by unfold wrap64; decide) rfl (by decide) (by decide) rfl (by decide) (by decide) w hG).mono (by rintro e w' ⟨rfl, h⟩; exact ⟨by first | rfl | decide, h⟩)
      · exact (impl_low.s3 7 3 1 (⟨#[115, 112]⟩ : ByteArray) (⟨#[100, 101, 99]⟩ : ByteArray) (by decide) (by unfold wrap64; decide) rfl (by decide) (by decide) rfl (by decide) (by decide) w hG).mono (by rintro e w' ⟨rfl, h⟩; exact ⟨by first | rfl | decide, h⟩)
    · rcases hy with rfl | rfl | rfl | rfl | rfl | rfl | rfl | rfl
      · exact (impl_low.s4 0 (⟨#[98]⟩ : ByteArray) (⟨#[105, 110, 99]⟩ : ByteArray) rfl (by decide) (by decide) rfl (by decide) w hG).mono (by rintro e w' ⟨rfl, h⟩; exact ⟨by first | rfl | decide, h⟩)
      · exact (impl_low.s4 1 (⟨#[99]⟩ : ByteArray) (⟨#[105, 110, 99]⟩ : ByteArray) rfl (by decide) (by decide) rfl (by decide) w hG).mono (by rintro e w' ⟨rfl, h⟩; exact ⟨by first | rfl | decide, h⟩)
      · exact (impl_low.s4 2 (⟨#[100]⟩ : ByteArray) (⟨#[105, 110, 99]⟩ : ByteArray) rfl (by decide) (by decide) rfl (by decide) w hG).mono (by rintro e w' ⟨rfl, h⟩; exact ⟨by first | rfl | decide, h⟩)
      · exact (impl_low.s4 3 (⟨#[101]⟩ : ByteArray) (⟨#[105, 110, 99]⟩ : ByteArray) rfl (by decide) (by decide) rfl (by decide) w hG).mono (by rintro e w' ⟨rfl, h⟩; exact ⟨by first | rfl | decide, h⟩)
      · exact (impl_low.s4 4 (⟨#[104]⟩ : ByteArray) (⟨#[105, 110, 99]⟩ : ByteArray) rfl (by decide) (by decide) rfl (by decide) w hG).mono (by rintro e w' ⟨rfl, h⟩; exact ⟨by first | rfl | decide, h⟩)
      · exact (impl_low.s4 5 (⟨#[108]⟩ : ByteArray) (⟨#[105, 110, 99]⟩ : ByteArray) rfl (by decide) (by decide) rfl (by decide) w hG).mono (by rintro e w' ⟨rfl, h⟩; exact ⟨by first | rfl | decide, h⟩)
      · exact (impl_low.s4 6 (⟨#[91, 104, 108, 93]⟩ : ByteArray) (⟨#[105, 110, 99]⟩ : ByteArray) rfl (by decide) (by decide) rfl (by decide) w hG).mono (by rintro e w' ⟨rfl, h⟩; exact ⟨by first | rfl | decide, h⟩)
      · exact (impl_low.s4 7 (⟨#[97]⟩ : ByteArray) (⟨#[105, 110, 99]⟩ : ByteArray) rfl (by decide) (by decide) rfl (by decide) w hG).mono (by rintro e w' ⟨rfl, h⟩; exact ⟨by first | rfl | decide, h⟩)
    · rcases hy with rfl | rfl | rfl | rfl | rfl | rfl | rfl | rfl
      · exact (impl_low.s5 0 (⟨#[98]⟩ : ByteArray) (⟨#[100, 101, 99]⟩ : ByteArray) rfl (by decide) (by decide) rfl (by decide) w hG).mono (by rintro e w' ⟨rfl, h⟩; exact ⟨by first | rfl | decide, h⟩)
      · exact (impl_low.s5 1 (⟨#[99]⟩ : ByteArray) (⟨#[100, 101, 99]⟩ : ByteArray) rfl (by decide) (by decide) rfl (by decide) w hG).mono (by rintro e w' ⟨rfl, h⟩; exact ⟨by first | rfl | decide, h⟩)
      · exact (impl_low.s5 2 (⟨#[100]⟩ : ByteArray) (⟨#[100, 101, 99]⟩ : ByteArray) rfl (by decide) (by decide) rfl (by decide) w hG).mono (by rintro e w' ⟨rfl, h⟩; exact ⟨by first | rfl | decide, h⟩)
      · exact (impl_low.s5 3 (⟨#[101]⟩ : ByteArray) (⟨#[100, 101, 99]⟩ : ByteArray) rfl (by decide) (by decide) rfl (by decide) w hG).mono (by rintro e w' ⟨rfl, h⟩; exact ⟨by first | rfl | decide, h⟩)
      · exact (impl_low.s5 4 (⟨#[104]⟩ : ByteArray) (⟨#[100, 101, 99]⟩ : ByteArray) rfl (by decide) (by decide) rfl (by decide) w hG).mono (by rintro e w' ⟨rfl, h⟩; exact ⟨by first | rfl | decide, h⟩)
      · exact (impl_low.s5 5 (⟨#[108]⟩ : ByteArray) (⟨#[100, 101, 99]⟩ : ByteArray) rfl (by decide) (by decide) rfl (by decide) w hG).mono (by rintro e w' ⟨rfl, h⟩; exact ⟨by first | rfl | decide, h⟩)
      · exact (impl_low.s5 6 (⟨#[91, 104, 108, 93]⟩ : ByteArray) (⟨#[100, 101, 99]⟩ : ByteArray) rfl (by decide) (by decide) rfl (by decide) w hG).mono (by rintro e w' ⟨rfl, h⟩; exact ⟨by first | rfl | decide, h⟩)
      · exact (impl_low.s5 7 (⟨#[97]⟩ : ByteArray) (⟨#[100, 101, 99]⟩ : ByteArray) rfl (by decide) (by decide) rfl (by decide) w hG).mono (by rintro e w' ⟨rfl, h⟩; exact ⟨by first | rfl | decide, h⟩)
    · rcases hy with rfl | rfl | rfl | rfl | rfl | rfl | rfl | rfl
      · exact (impl_low.s6 0 (⟨#[98]⟩ : ByteArray) rfl (by decide) (by decide) w hG).mono (by rintro e w' ⟨rfl, h⟩; exact ⟨by first | rfl | decide, h⟩)
      · exact (impl_low.s6 1 (⟨#[99]⟩ : ByteArray) rfl (by decide) (by decide) w hG).mono (by rintro e w' ⟨rfl, h⟩; exact ⟨by first | rfl | decide, h⟩)
      · exact (impl_low.s6 2 (⟨#[100]⟩ : ByteArray) rfl (by decide) (by decide) w hG).mono (by rintro e w' ⟨rfl, h⟩; exact ⟨by first | rfl | decide, h⟩)
      · exact (impl_low.s6 3 (⟨#[101]⟩ : ByteArray) rfl (by decide) (by decide) w hG).mono (by rintro e w' ⟨rfl, h⟩; exact ⟨by first | rfl | decide, h⟩)
      · exact (impl_low.s6 4 (⟨#[104]⟩ : ByteArray) rfl (by decide) (by decide) w hG).mono (by rintro e w' ⟨rfl, h⟩; exact ⟨by first | rfl | decide, h⟩)
      · exact (impl_low.s6 5 (⟨#[108]⟩ : ByteArray) rfl (by decide) (by decide) w hG).mono (by rintro e w' ⟨rfl, h⟩; exact ⟨by first | rfl | decide, h⟩)
      · exact (impl_low.s6 6 (⟨#[91, 104, 108, 93]⟩ : ByteArray) rfl (by decide) (by decide) w hG).mono (by rintro e w' ⟨rfl, h⟩; exact ⟨by first | rfl | decide, h⟩)
      · exact (impl_low.s6 7 (⟨#[97]⟩ : ByteArray) rfl (by decide) (by decide) w hG).mono (by rintro e w' ⟨rfl, h⟩; exact ⟨by first | rfl | decide, h⟩)
    · rcases hy with rfl | rfl | rfl | rfl | rfl | rfl | rfl | rfl
      · exact (impl_low.s7 0 (⟨#[114, 108, 99, 97]⟩ : ByteArray) rfl (by decide) (by decide) w hG).mono (by rintro e w' ⟨rfl, h⟩; exact ⟨by first | rfl | decide, h⟩)
      · exact (impl_low.s7 1 (⟨#[114, 114, 99, 97]⟩ : ByteArray) rfl (by decide) (by decide) w hG).mono (by rintro e w' ⟨rfl, h⟩; exact ⟨by first | rfl | decide, h⟩)
      · exact (impl_low.s7 2 (⟨#[114, 108, 97]⟩ : ByteArray) rfl (by decide) (by decide) w hG).mono (by rintro e w' ⟨rfl, h⟩; exact ⟨by first | rfl | decide, h⟩)
      · exact (impl_low.s7 3 (⟨#[114, 114, 97]⟩ : ByteArray) rfl (by decide) (by decide) w hG).mono (by rintro e w' ⟨rfl, h⟩; exact ⟨by first | rfl | decide, h⟩)
      · exact (impl_low.s7 4 (⟨#[100, 97, 97]⟩ : ByteArray) rfl (by decide) (by decide) w hG).mono (by rintro e w' ⟨rfl, h⟩; exact ⟨by first | rfl | decide, h⟩)
      · exact (impl_low.s7 5 (⟨#[99, 112, 108]⟩ : ByteArray) rfl (by decide) (by decide) w hG).mono (by rintro e w' ⟨rfl, h⟩; exact ⟨by first | rfl | decide, h⟩)
      · exact (impl_low.s7 6 (⟨#[115, 99, 102]⟩ : ByteArray) rfl (by decide) (by decide) w hG).mono (by rintro e w' ⟨rfl, h⟩; exact ⟨by first | rfl | decide, h⟩)
      · exact (impl_low.s7 7 (⟨#[99, 99, 102]⟩ : ByteArray) rfl (by decide) (by decide) w hG).mono (by rintro e w' ⟨rfl, h⟩; exact ⟨by first | rfl | decide, h⟩)
  · rw [if_neg hr] at h
    cases h

/-! ### impl_isWord: function 48 -/
def impl_isWord.f (a0 : Int) : Option (Bool) := (impl_within.f a0 0 65535).bind fun t125 => (some t125)
set_option maxHeartbeats 8000000 in
set_option maxRecDepth 100000 in
theorem impl_isWord.calls (a0 : Int) (r : Bool) (w : World) (h : impl_isWord.f a0 = some r) :
    Calls Tryd.prog 48 #[.int .i64 a0] w fun e w' => e = .returned (.bool r) ∧ Drawn0 w w' := by
  have H : ((impl_within.f a0 0 65535).bind fun t125 => (some t125)) = some r := h
  clear h
  replace H := Option.bind_eq_some_iff.mp H
  obtain ⟨t125, A20, H⟩ := H
  replace H : (some t125) = some r := H
  have A2 := Aside0.mk A20
  clear A20
  obtain rfl := Option.some.inj H
  go_enter Tryd.func48, Tryd.ntmps48
  go_wp2_with (first | ((with_reducible refine gate_callee (f := 47) rfl ?_); refine goesL_ (some 4) rfl rfl Tryd.func47 (by kernel_rfl) rfl #[.int .i64 a0, .int .i64 0, .int .i64 65535] rfl (by (try simp only [List.map_toArray, List.map_cons, List.map_nil]); first | done | rfl | (simp only [List.length_drop, List.length_take]; rfl)) ?_; (with_reducible refine (impl_within.calls a0 0 65535 t125 _ A2.out).mono ?_); rintro e w' ⟨rfl, ⟨nd, rfl⟩⟩; refine ⟨_, rfl, ?_⟩))
  first | go_ret | ((try simp only [Exit.inBlock, Exit.then]); apply bodyPost_ret; (exact results_tmp rfl _ _ _); rfl)
  exact ⟨by first | rfl | (simp; done) | (simp [*]; done), by repeat (first | exact Drawn0.refl _ | apply Drawn0.step)⟩

/-! ### strings_ToUpper: function 93 -/
def strings_ToUpper.f (a0 : ByteArray) : Option ByteArray := if a0.size ≤ 140737488355328 then (if (a0.data.toList.all fun b => decide (b.toNat < 128)) = true then some ⟨(Go.Lib.toUpperA a0.data.toList).toArray⟩ else none) else none
theorem strings_ToUpper.calls (a0 : ByteArray) (r : ByteArray) (w : World) (h : strings_ToUpper.f a0 = some r) :
    Calls Tryd.prog 93 #[.string a0] w fun e w' => e = .returned (.string r) ∧ Below w.heap.size w w' := by
  unfold strings_ToUpper.f at h
  by_cases h0 : a0.size ≤ 140737488355328
  · by_cases h1 : (a0.data.toList.all fun b => decide (b.toNat < 128)) = true
    · rw [if_pos h0, if_pos h1] at h
      obtain rfl := Option.some.inj h
      exact Tryd.strings_ToUpper_ascii a0 w h0 (fun j b hb => of_decide_eq_true (List.all_eq_true.1 h1 b (List.mem_of_getElem? hb)))
    · rw [if_pos h0, if_neg h1] at h
      cases h
  · rw [if_neg h0] at h
    cases h

/-! ### strconv_FormatInt: function 94 -/
open Go.Proofs.YtmiebnpmckjidaaDoor.Aid
def strconv_FormatInt.f (a0 a1 : Int) : Option ByteArray := if a1 = 10 then (if -9223372036854775808 ≤ a0 then (if a0 ≤ 9223372036854775807 then some ⟨(Go.Lib.itoa a0).toArray⟩ else none) else none) else if a1 = 16 then (if 0 ≤ a0 then (if a0 < 65536 then some ⟨(hexLow a0.toNat).toArray⟩ else none) else none) else none
open Go.Lib in
set_option maxRecDepth 100000 in
theorem strconv_FormatInt.tz64 (w : World) (hG : GW w) : Calls Tryd.prog 191 #[.int .u64 16] w fun e w' => e = .returned (.int .i64 4) ∧ Drawn0 w w' := by
  have e15 : IntKind.u64.wrap (bits BinOp.and IntKind.u64 16 (IntKind.u64.wrap (-16)) * 285870213051353865) / 288230376151711744 = 15 := by decide
  have hc : w.cell? ⟨8, (IntKind.u64.wrap (bits BinOp.and IntKind.u64 16 (IntKind.u64.wrap (-16)) * 285870213051353865) / 288230376151711744).toNat, none⟩ = some (.int .u8 4) := by
    rw [e15]
    exact TabIs.cell hG.db64 (g := 8) (by kernel_rfl) 15 (by decide)
  have hb : 0 ≤ IntKind.u64.wrap (bits BinOp.and IntKind.u64 16 (IntKind.u64.wrap (-16)) * 285870213051353865) / 288230376151711744 ∧ IntKind.u64.wrap (bits BinOp.and IntKind.u64 16 (IntKind.u64.wrap (-16)) * 285870213051353865) / 288230376151711744 < 64 := by
    rw [e15]; decide
  clear e15
  go_enter Tryd.func191, Tryd.ntmps191
  go_wp2
  go_ret
  exact ⟨rfl, Drawn0.refl _⟩
set_option maxRecDepth 100000 in
theorem strconv_FormatInt.pow2 (w : World) : Calls Tryd.prog 182 #[.int .i64 16] w fun e w' => e = .returned (.bool true) ∧ Drawn0 w w' := by
  go_enter Tryd.func182, Tryd.ntmps182
  go_wp2
  rw [show bits BinOp.and IntKind.i64 16 15 = 0 from by decide]
  go_ret
  exact ⟨rfl, Drawn0.refl _⟩
set_option maxRecDepth 100000 in
theorem strconv_FormatInt.tz (w : World) (hG : GW w) : Calls Tryd.prog 183 #[.int .u64 16] w fun e w' => e = .returned (.int .i64 4) ∧ Drawn0 w w' := by
  go_enter Tryd.func183, Tryd.ntmps183
  go_wp2_with (go_at_call 191; refine (strconv_FormatInt.tz64 _ hG).mono ?_; rintro e w' ⟨rfl, ⟨m, rfl⟩⟩)
  go_ret
  exact ⟨rfl, ⟨m, rfl⟩⟩
def strconv_FormatInt.hexDigits : ByteArray := ⟨#[48, 49, 50, 51, 52, 53, 54, 55, 56, 57, 97, 98, 99, 100, 101, 102, 103, 104, 105, 106, 107, 108, 109, 110, 111, 112, 113, 114, 115, 116, 117, 118, 119, 120, 121, 122]⟩
theorem strconv_FormatInt.hexDigits_at : ∀ (r : Nat) (h : r < 16), strconv_FormatInt.hexDigits[r]'(Nat.lt_of_lt_of_le h (by decide)) = hexB r := by decide
theorem strconv_FormatInt.hex_at (r : Nat) (h : r < 16) (w : World) : (Instr.index 9 (.string strconv_FormatInt.hexDigits) (.int .u64 (r : Int))).run Tryd.prog w = .ok (.int .u8 ((hexB r).toNat : Int)) w := by
  rw [run_index_string w 9 strconv_FormatInt.hexDigits .u64 _ Tryd.underlying9, dif_pos ⟨by omega, by rw [show strconv_FormatInt.hexDigits.size = 36 from rfl]; omega⟩]
  have e : ((r : Int)).toNat = r := by omega
  simp only [e]
  rw [strconv_FormatInt.hexDigits_at r h]
def strconv_FormatInt.HexInv (n j : Nat) (C : Array Value) : Prop := C.size = 65 ∧ (∀ t, t < j → C[64 - t]? = some (.int .u8 ((hexB (n / 16 ^ t % 16)).toNat : Int))) ∧ (16 ^ j ≤ n ∨ j = 0)
theorem strconv_FormatInt.hexLow_of (n j : Nat) (hn : n < 65536) (hj : j ≤ 3) (h0 : 16 ^ j ≤ n ∨ j = 0) (h1 : n / 16 ^ j < 16) : (List.range (j + 1)).map (fun t => hexB (n / 16 ^ (j - t) % 16)) = hexLow n := by
  unfold hexLow
  have h4 : j = 0 ∨ j = 1 ∨ j = 2 ∨ j = 3 := by omega
  rcases h4 with rfl | rfl | rfl | rfl
  · rw [if_pos (by omega)]
    simp [List.range_succ_eq_map]
    congr 1
    omega
  · rw [if_neg (by omega), if_pos (by omega)]
    simp [List.range_succ_eq_map]
    congr 1
    omega
  · rw [if_neg (by omega), if_neg (by omega), if_pos (by omega)]
    simp [List.range_succ_eq_map]
    congr 1
    omega
  · rw [if_neg (by omega), if_neg (by omega), if_neg (by omega)]
    simp [List.range_succ_eq_map]
    congr 1
    omega
theorem strconv_FormatInt.add_plain_at (g q i : Nat) : (⟨g, q, none⟩ : Addr).add i = ⟨g, q + i, none⟩ := by unfold Addr.add; split <;> simp_all
theorem strconv_FormatInt.below_own {w wr : World} {g : Nat} {v : Value} (h : Below w.heap.size w wr) (hg : w.heap.size ≤ g) (q : Nat) : Below w.heap.size w (wr.setCell ⟨g, q, none⟩ v) := h.setCell hg _
set_option maxRecDepth 100000 in
theorem strconv_FormatInt.hexSlice (g q : Nat) (hq : q ≤ 64) (hq0 : 0 < q) (W : World) : (Instr.sliceAt 174 (.pointer (some ⟨g, 0, none⟩)) (some (.int .i64 (q : Int))) none none).run Tryd.prog W = .ok (.slice (some ⟨g, q, none⟩) (65 - q) (65 - q)) W := by
  rw [run_sliceAt_array_l W 174 ⟨g, 0, none⟩ (by kernel_rfl) .i64 q (by omega) (by rw [show Tryd.prog.arrayLen 174 = 65 by kernel_rfl]; omega), show Tryd.prog.arrayLen 174 = 65 by kernel_rfl, show Tryd.prog.elem 174 = 5 by kernel_rfl]
  have hs : (sizeOf 5).run Tryd.prog W = .ok 1 W := by go_simp
  rw [hs]
  simp only [Result.andThen, slicedAt, Int.toNat_natCast]
  rw [if_neg (by omega), add_plain, Nat.mul_one]
set_option maxRecDepth 100000 in
set_option maxHeartbeats 4000000 in
theorem strconv_FormatInt.fb (n : Nat) (hn : n < 65536) (w : World) (hG : GW w) : Calls Tryd.prog 161 #[.slice none 0 0, .int .u64 n, .int .i64 16, .bool false, .bool false] w fun e w' => e = .returned (.tuple #[.slice none 0 0, .string ⟨(hexLow n).toArray⟩]) ∧ Below w.heap.size w w' := by
  have HG := Aside0.mk hG
  clear hG
  have HN := Aside0.mk hn
  clear hn
  go_enter Tryd.func161, Tryd.ntmps161
  go_wp2_with (first | (go_at_call 182; refine (strconv_FormatInt.pow2 _).mono ?_; rintro e w' ⟨rfl, ⟨m, rfl⟩⟩) | (go_at_call 183; refine (strconv_FormatInt.tz _ ?_).mono ?_; (exact HG.out.alloc _ |>.drewN _); rintro e w' ⟨rfl, ⟨m2, rfl⟩⟩))
  go_loopg [1, 13] 4 (fun gg s1 s13 wr => ∃ (j q : Nat) (C : Array Value), j ≤ 3 ∧ 4 - j ≤ gg ∧ s1 = .int .u64 ((n / 16 ^ j : Nat) : Int) ∧ s13 = .int .i64 ((q : Int) + 1) ∧ Aside0 (q + 1 + j = 65) ∧ Aside0 (strconv_FormatInt.HexInv n j C) ∧ Aside0 (wr.heap[w.heap.size]? = some (.cells C 174 (0, 0))) ∧ Aside0 (Below w.heap.size w wr))
  case atStart =>
    refine ⟨0, 64, Tryd.zeroCells174, by omega, by omega, by simp, rfl, ⟨rfl⟩, ⟨⟨by decide +kernel, fun t ht => by omega, .inr rfl⟩⟩, ⟨?_⟩, ⟨pw_below_drewN (below_alloc (Below.refl _ _) _) _⟩⟩
    show (w.heap.push _)[w.heap.size]? = _
    rw [Array.getElem?_push_size]
  case round =>
    obtain ⟨j, q, C, hj, hg, rfl, rfl, HQ, HI, HC, HB⟩ := hrel
    rename_i wr_
    rename World => wr
    have hq : (q : Int) < 65 := by have := HQ.out; omega
    obtain ⟨v, hv⟩ : ∃ v, v = n / 16 ^ j := ⟨_, rfl⟩
    have hcq : ∃ c0, C[q]? = some c0 := ⟨C[q]'(by rw [HI.out.1]; omega), Array.getElem?_eq_getElem _⟩
    obtain ⟨c0, hc0⟩ := hcq
    have hcell : wr.cell? ⟨w.heap.size, q, none⟩ = some c0 := by
      simp only [World.cell?, HC.out]
      exact hc0
    have hfro : wr.frozen? ⟨w.heap.size, q, none⟩ = false := by
      simp [World.frozen?, HC.out]
    have hr : bits BinOp.and IntKind.u64 (v : Int) 15 = ((v % 16 : Nat) : Int) := by
      have hb : v < 65536 := by rw [hv]; exact Nat.lt_of_le_of_lt (Nat.div_le_self _ _) HN.out
      have h := bits_mask .u64 64 (by decide) (fun n h0 h1 => by rw [IntKind.wrap_u64]; omega) 4 (by decide) (v : Int) (by omega) (by omega)
      rw [show (2 : Int) ^ 4 - 1 = 15 from rfl, show (2 : Int) ^ 4 = 16 from rfl] at h
      rw [h]
      omega
    have hX : ∀ w, (Instr.index 9 (.string ⟨#[48, 49, 50, 51, 52, 53, 54, 55, 56, 57, 97, 98, 99, 100, 101, 102, 103, 104, 105, 106, 107, 108, 109, 110, 111, 112, 113, 114, 115, 116, 117, 118, 119, 120, 121, 122]⟩) (.int .u64 ((v % 16 : Nat) : Int))).run Tryd.prog w = .ok (.int .u8 ((hexB (v % 16)).toNat : Int)) w := strconv_FormatInt.hex_at (v % 16) (by omega)
    rw [← hv]
    have hd : (hexB (v % 16)).toNat = (hexB (n / 16 ^ j % 16)).toNat := by rw [hv]
    have HV := Aside0.mk hv
    have HD := Aside0.mk hd
    clear hv hd hc0
    have hput : (wr.setCell ⟨w.heap.size, q, none⟩ (.int .u8 ((hexB (v % 16)).toNat : Int))).heap[w.heap.size]? = some (.cells (C.setIfInBounds q (.int .u8 ((hexB (v % 16)).toNat : Int))) 174 (0, 0)) := by
      exact heap_setCell_same _ _ _ _ _ _ HC.out
    have HP := Aside0.mk hput
    clear hput
    by_cases h16 : (16 : Int) ≤ (v : Int)
    · generalize hrr : v % 16 = r at hr hX HP HD
      have HRR := Aside0.mk hrr
      clear hrr
      go_wp2
      go_roundg (4 - (j + 1))
      case measure => omega
      case rel =>
        have hv16 : 16 ≤ n / 16 ^ j := by rw [← HV.out]; omega
        have hpow : 16 ^ (j + 1) ≤ n := by
          rw [Nat.pow_succ, Nat.mul_comm]
          exact (Nat.le_div_iff_mul_le (Nat.pow_pos (by decide))).1 hv16
        have hj3 : j + 1 ≤ 3 := by
          rcases Nat.lt_or_ge j 3 with h | h
          · exact h
          · have : j = 3 := by omega
            subst this
            have := HN.out
            omega
        refine ⟨j + 1, q - 1, _, hj3, by omega, ?_, ?_, ⟨by have := HQ.out; omega⟩, ⟨?_⟩, ⟨HP.out⟩, ⟨by repeat (first | exact strconv_FormatInt.below_own HB.out (Nat.le_refl _) _ | apply pw_below_drewN | apply below_drew)⟩⟩
        · show Value.int IntKind.u64 _ = _
          congr 1
          rw [HV.out, Nat.pow_succ, ← Nat.div_div_eq_div_mul]
          omega
        · show Value.int IntKind.i64 _ = _
          congr 1
          have := HQ.out
          omega
        · refine ⟨by rw [Array.size_setIfInBounds]; exact HI.out.1, fun t ht => ?_, .inl hpow⟩
          have hq' := HQ.out
          by_cases e : t = j
          · subst e
            rw [show 64 - t = q by omega, Array.getElem?_setIfInBounds_self_of_lt (by rw [HI.out.1]; omega), HD.out]
          · rw [Array.getElem?_setIfInBounds_ne (by omega)]
            exact HI.out.2.1 t (by omega)
    · have h15 : v < 16 := by omega
      have hX2 : ∀ w, (Instr.index 9 (.string ⟨#[48, 49, 50, 51, 52, 53, 54, 55, 56, 57, 97, 98, 99, 100, 101, 102, 103, 104, 105, 106, 107, 108, 109, 110, 111, 112, 113, 114, 115, 116, 117, 118, 119, 120, 121, 122]⟩) (.int .u64 (v:Int))).run Tryd.prog w = .ok (.int .u8 ((hexB v).toNat : Int)) w := strconv_FormatInt.hex_at v h15
      rw [Nat.mod_eq_of_lt h15] at HP HD
      clear hX hr
      have hSl := strconv_FormatInt.hexSlice w.heap.size q (by have := HQ.out; omega) (by have := HQ.out; omega)
      have hback := run_convert_bytes_back (P := Tryd.prog) (wr.setCell ⟨w.heap.size, q, none⟩ (.int .u8 ((hexB v).toNat : Int))) 93 9 5 ⟨w.heap.size, q, none⟩ (65 - q) ((List.range (j + 1)).map (fun t => hexB (n / 16 ^ (j - t) % 16))) Tryd.underlying93 Tryd.underlying5 Tryd.underlying9 (fun i hi => by
        have hi' : i < j + 1 := by simpa using hi
        have hq' := HQ.out
        rw [strconv_FormatInt.add_plain_at]
        simp only [World.cell?, HP.out]
        by_cases e : i = 0
        · subst e
          rw [Nat.add_zero, Array.getElem?_setIfInBounds_self_of_lt (by rw [HI.out.1]; omega)]
          simp only [List.getElem_map, List.getElem_range, Nat.sub_zero]
          rw [HD.out]
          rfl
        · rw [Array.getElem?_setIfInBounds_ne (by omega), show q + i = 64 - (j - i) by omega, HI.out.2.1 (j - i) (by omega)]
          simp only [List.getElem_map, List.getElem_range]
          rfl)
      rw [show ((List.range (j + 1)).map (fun t => hexB (n / 16 ^ (j - t) % 16))).length = 65 - q by rw [List.length_map, List.length_range]; have := HQ.out; omega, strconv_FormatInt.hexLow_of n j HN.out hj HI.out.2.2 (by rw [← HV.out]; exact h15)] at hback
      clear h15
      go_wp2
      go_ret2
      exact ⟨rfl, by repeat (first | exact strconv_FormatInt.below_own HB.out (Nat.le_refl _) _ | apply pw_below_drewN | apply below_drew)⟩
set_option maxRecDepth 100000 in
set_option maxHeartbeats 4000000 in
theorem strconv_FormatInt.fi (n : Nat) (hn : n < 65536) (w : World) (hG : GW w) : Calls Tryd.prog 132 #[.int .i64 n, .int .i64 16] w fun e w' => e = .returned (.string ⟨(hexLow n).toArray⟩) ∧ Below w.heap.size w w' := by
  have HG := Aside0.mk hG
  clear hG
  have HN := Aside0.mk hn
  have hw : IntKind.u64.wrap (n : Int) = (n : Int) := by rw [IntKind.wrap_u64]; omega
  have hneg : ¬ ((n : Int) < 0) := by omega
  clear hn
  go_enter Tryd.func132, Tryd.ntmps132
  go_wp2_with (go_at_call 161; refine (strconv_FormatInt.fb n HN.out _ ?_).mono ?_; (repeat (first | exact HG.out | apply GW.drewN | apply GW.drew)); rintro e w' ⟨rfl, hb⟩)
  go_ret
  exact ⟨rfl, by repeat (first | exact below_step (by repeat (first | exact Below.refl _ _ | apply pw_below_drewN | apply below_drew)) hb | exact hb | apply pw_below_drewN | apply below_drew)⟩
set_option maxRecDepth 100000 in
theorem strconv_FormatInt.hex (n : Nat) (hn : n < 65536) (w : World) (hG : GW w) :
    Calls Tryd.prog 94 #[.int .i64 n, .int .i64 16] w fun e w' => e = .returned (.string ⟨(hexLow n).toArray⟩) ∧ Below w.heap.size w w' := by
  have HG := Aside0.mk hG
  clear hG
  have HN := Aside0.mk hn
  clear hn
  go_enter Tryd.func94, Tryd.ntmps94
  go_wp2_with (go_at_call 132; refine (strconv_FormatInt.fi n HN.out _ ?_).mono ?_; (repeat (first | exact HG.out | apply GW.drewN | apply GW.drew)); rintro e w' ⟨rfl, hb⟩)
  go_ret
  exact ⟨rfl, by repeat (first | exact below_step (by repeat (first | exact Below.refl _ _ | apply pw_below_drewN | apply below_drew)) hb | exact hb | apply pw_below_drewN | apply below_drew)⟩
theorem strconv_FormatInt.calls (a0 a1 : Int) (r : ByteArray) (w : World) (hG : GW w) (h : strconv_FormatInt.f a0 a1 = some r) :
    Calls Tryd.prog 94 #[.int .i64 a0, .int .i64 a1] w fun e w' => e = .returned (.string r) ∧ Below w.heap.size w w' := by
  unfold strconv_FormatInt.f at h
  by_cases h0 : a1 = 10
  · by_cases h1 : -9223372036854775808 ≤ a0
    · by_cases h2 : a0 ≤ 9223372036854775807
      · rw [if_pos h0, if_pos h1, if_pos h2] at h
        obtain rfl := Option.some.inj h
        subst h0
        refine (Tryd.strconv_FormatInt_10 a0 h1 h2 w hG.pow10).mono ?_
        rintro e w' ⟨rfl, k, os, rfl⟩
        exact ⟨rfl, below_grow w k os⟩
      · rw [if_pos h0, if_pos h1, if_neg h2] at h
        cases h
    · rw [if_pos h0, if_neg h1] at h
      cases h
  · by_cases h3 : a1 = 16
    · by_cases h1 : 0 ≤ a0
      · by_cases h2 : a0 < 65536
        · rw [if_neg h0, if_pos h3, if_pos h1, if_pos h2] at h
          obtain rfl := Option.some.inj h
          subst h3
          obtain ⟨n, rfl⟩ : ∃ n : Nat, a0 = (n : Int) := ⟨a0.toNat, by omega⟩
          exact strconv_FormatInt.hex n (by omega) w hG
        · rw [if_neg h0, if_pos h3, if_pos h1, if_neg h2] at h
          cases h
      · rw [if_neg h0, if_pos h3, if_neg h1] at h
        cases h
    · rw [if_neg h0, if_neg h3] at h
      cases h

/-! ### strings_Repeat: function 95 -/
def strings_Repeat.f (a0 : ByteArray) (a1 : Int) : Option ByteArray := if 0 ≤ a1 then (if a1 ≤ 9223372036854775807 then (if a0.size * a1.toNat ≤ 140737488355328 then some ⟨(Go.Lib.repeatL a0.data.toList a1.toNat).toArray⟩ else none) else none) else none
theorem strings_Repeat.calls (a0 : ByteArray) (a1 : Int) (r : ByteArray) (w : World) (h : strings_Repeat.f a0 a1 = some r) :
    Calls Tryd.prog 95 #[.string a0, .int .i64 a1] w fun e w' => e = .returned (.string r) ∧ Below w.heap.size w w' := by
  unfold strings_Repeat.f at h
  split at h
  · split at h
    · split at h
      · obtain rfl := Option.some.inj h
        obtain ⟨c, rfl⟩ : ∃ c : Nat, a1 = (c : Int) := ⟨a1.toNat, by omega⟩
        exact Tryd.strings_Repeat a0 c w (by omega) (by simpa using ‹a0.size * (c : Int).toNat ≤ 140737488355328›)
      · cases h
    · cases h
  · cases h

/-! ### impl_hexDigits: function 49 -/
def impl_hexDigits.f (a0 : Int) (a1 : Int) : Option (ByteArray) := (strconv_FormatInt.f a0 16).bind fun t126 => ((strings_ToUpper.f t126).bind fun t127 => ((strings_Repeat.f (⟨#[48]⟩ : ByteArray) (mx 0 (wrap64 (a1 - (t127.size : Int))))).bind fun t128 => (if t128.size + t127.size ≤ 9223372036854775807 then (some (t128 ++ t127)) else (none))))
set_option maxHeartbeats 8000000 in
set_option maxRecDepth 100000 in
theorem impl_hexDigits.calls (a0 : Int) (a1 : Int) (r : ByteArray) (w : World) (hG : GW w) (h : impl_hexDigits.f a0 a1 = some r) :
    Calls Tryd.prog 49 #[.int .i64 a0, .int .i64 a1] w fun e w' => e = .returned (.string r) ∧ Below w.heap.size w w' := by
  have HB := Aside0.mk (Below.refl w.heap.size w)
  have HG := Aside0.mk hG
  clear hG
  have H : ((strconv_FormatInt.f a0 16).bind fun t126 => ((strings_ToUpper.f t126).bind fun t127 => ((strings_Repeat.f (⟨#[48]⟩ : ByteArray) (mx 0 (wrap64 (a1 - (t127.size : Int))))).bind fun t128 => (if t128.size + t127.size ≤ 9223372036854775807 then (some (t128 ++ t127)) else (none))))) = some r := h
  clear h
  replace H := Option.bind_eq_some_iff.mp H
  obtain ⟨t126, A30, H⟩ := H
  replace H : ((strings_ToUpper.f t126).bind fun t127 => ((strings_Repeat.f (⟨#[48]⟩ : ByteArray) (mx 0 (wrap64 (a1 - (t127.size : Int))))).bind fun t128 => (if t128.size + t127.size ≤ 9223372036854775807 then (some (t128 ++ t127)) else (none)))) = some r := H
  have A3 := Aside0.mk A30
  clear A30
  replace H := Option.bind_eq_some_iff.mp H
  obtain ⟨t127, A40, H⟩ := H
  replace H : ((strings_Repeat.f (⟨#[48]⟩ : ByteArray) (mx 0 (wrap64 (a1 - (t127.size : Int))))).bind fun t128 => (if t128.size + t127.size ≤ 9223372036854775807 then (some (t128 ++ t127)) else (none))) = some r := H
  have A4 := Aside0.mk A40
  clear A40
  obtain ⟨ji5, hji5⟩ : ∃ j_ : Int, (mx 0 (wrap64 (a1 - (t127.size : Int)))) = j_ := ⟨_, rfl⟩
  replace H : ((strings_Repeat.f (⟨#[48]⟩ : ByteArray) (ji5)).bind fun t128 => (if t128.size + t127.size ≤ 9223372036854775807 then (some (t128 ++ t127)) else (none))) = some r := by first | (rw [hji5] at H; exact H) | (simp only [hji5] at H ⊢; exact H)
  (try rw [hji5] at A3)
  (try rw [hji5] at A4)
  (try (have hji5l : 0 ≤ ji5 := by (rw [← hji5]; unfold mx; (repeat' split) <;> omega)))
  (try (have hji5m : 0 ≤ ji5 := by omega))
  have hji5_ : (if 0 < (wrap64 (a1 - (t127.size : Int))) then (wrap64 (a1 - (t127.size : Int))) else 0) = ji5 := hji5
  replace H := Option.bind_eq_some_iff.mp H
  obtain ⟨t128, A60, H⟩ := H
  replace H : (if t128.size + t127.size ≤ 9223372036854775807 then (some (t128 ++ t127)) else (none)) = some r := H
  have A6 := Aside0.mk A60
  clear A60
  by_cases c7 : t128.size + t127.size ≤ 9223372036854775807
  · rw [if_pos c7] at H
    have c7b0 := eq_true c7
    have c7b1 : decide (t128.size + t127.size ≤ 9223372036854775807) = true := decide_eq_true c7
    try have c7b2 : (9223372036854775807 < t128.size + t127.size) = False := eq_false (Nat.not_lt.2 c7)
    obtain rfl := Option.some.inj H
    go_enter Tryd.func49, Tryd.ntmps49
    go_wp2_with (first | ((with_reducible refine gate_callee (f := 94) rfl ?_); refine goesL_ (some 7) rfl rfl Tryd.func94 (by kernel_rfl) rfl #[.int .i64 a0, .int .i64 16] rfl (by (try simp only [List.map_toArray, List.map_cons, List.map_nil]); first | done | rfl | (simp only [List.length_drop, List.length_take]; rfl)) ?_; (with_reducible refine (strconv_FormatInt.calls a0 16 t126 _ ?side1 A3.out).mono ?_); (case side1 => exact GW.below HG.out (by repeat (first | (with_reducible first | exact HB.out | apply below_alloc | apply pw_below_drewN | apply below_drew1) | exact HB.out))); rintro e w8 ⟨rfl, hb⟩; refine ⟨_, rfl, ?_⟩; have n0_ := Aside0.mk (below_step (by repeat (first | (with_reducible first | exact HB.out | apply below_alloc | apply pw_below_drewN | apply below_drew1) | exact HB.out)) hb); clear HB; have HB := n0_; clear n0_; (try clear hb); (try clear hb2); (try clear hk); (try clear hi)) | ((with_reducible refine gate_callee (f := 93) rfl ?_); refine goesL_ (some 8) rfl rfl Tryd.func93 (by kernel_rfl) rfl #[.string t126] rfl (by (try simp only [List.map_toArray, List.map_cons, List.map_nil]); first | done | rfl | (simp only [List.length_drop, List.length_take]; rfl)) ?_; (with_reducible refine (strings_ToUpper.calls t126 t127 _ A4.out).mono ?_); rintro e w9 ⟨rfl, hb⟩; refine ⟨_, rfl, ?_⟩; have n0_ := Aside0.mk (below_step (by repeat (first | (with_reducible first | exact HB.out | apply below_alloc | apply pw_below_drewN | apply below_drew1) | exact HB.out)) hb); clear HB; have HB := n0_; clear n0_; (try clear hb); (try clear hb2); (try clear hk); (try clear hi)) | ((with_reducible refine gate_callee (f := 95) rfl ?_); refine goesL_ (some 14) rfl rfl Tryd.func95 (by kernel_rfl) rfl #[.string (⟨#[48]⟩ : ByteArray), .int .i64 ji5] rfl (by (try simp only [List.map_toArray, List.map_cons, List.map_nil]); first | done | (simp only [hji5]; rfl) | rfl | (simp only [List.length_drop, List.length_take]; rfl)) ?_; (with_reducible refine (strings_Repeat.calls (⟨#[48]⟩ : ByteArray) ji5 t128 _ A6.out).mono ?_); rintro e w10 ⟨rfl, hb⟩; refine ⟨_, rfl, ?_⟩; have n0_ := Aside0.mk (below_step (by repeat (first | (with_reducible first | exact HB.out | apply below_alloc | apply pw_below_drewN | apply below_drew1) | exact HB.out)) hb); clear HB; have HB := n0_; clear n0_; (try clear hb); (try clear hb2); (try clear hk); (try clear hi)))
    first | go_ret | ((try simp only [Exit.inBlock, Exit.then]); apply bodyPost_ret; (exact results_tmp rfl _ _ _); rfl)
    exact ⟨by first | rfl | (simp [errW_none, errW_some] <;> rfl) | (simp only [← hji5]; first | rfl | (simp [errW_none, errW_some] <;> rfl)) | (simp [*, errW_none, errW_some] <;> rfl), by repeat (first | (with_reducible first | exact HB.out | apply below_alloc | apply pw_below_drewN | apply below_drew1) | exact HB.out)⟩
  · rw [if_neg c7] at H
    exact absurd H (by simp)

/-! ### impl_HexOf: function 15 -/
def impl_HexOf.f (a0 : Int) (a1 : Int) : Option (ByteArray) := (impl_within.f a1 1 4).bind fun t129 => (if t129 = true then ((impl_isWord.f a0).bind fun t130 => (if t130 = true then (if 0 ≤ (wrap64 (4 * a1)) then (if (shr .i64 a0 (wrap64 (4 * a1))) > 0 then (some (⟨#[]⟩ : ByteArray)) else ((impl_hexDigits.f a0 a1).bind fun t131 => (if 1 + t131.size ≤ 9223372036854775807 then (some ((⟨#[36]⟩ : ByteArray) ++ t131)) else (none)))) else (none)) else (some (⟨#[]⟩ : ByteArray)))) else (some (⟨#[]⟩ : ByteArray)))
set_option maxHeartbeats 8000000 in
set_option maxRecDepth 100000 in
theorem impl_HexOf.calls (a0 : Int) (a1 : Int) (r : ByteArray) (w : World) (hG : GW w) (h : impl_HexOf.f a0 a1 = some r) :
    Calls Tryd.prog 15 #[.int .i64 a0, .int .i64 a1] w fun e w' => e = .returned (.string r) ∧ Below w.heap.size w w' := by
  have HB := Aside0.mk (Below.refl w.heap.size w)
  have HG := Aside0.mk hG
  clear hG
  have H : ((impl_within.f a1 1 4).bind fun t129 => (if t129 = true then ((impl_isWord.f a0).bind fun t130 => (if t130 = true then (if 0 ≤ (wrap64 (4 * a1)) then (if (shr .i64 a0 (wrap64 (4 * a1))) > 0 then (some (⟨#[]⟩ : ByteArray)) else ((impl_hexDigits.f a0 a1).bind fun t131 => (if 1 + t131.size ≤ 9223372036854775807 then (some ((⟨#[36]⟩ : ByteArray) ++ t131)) else (none)))) else (none)) else (some (⟨#[]⟩ : ByteArray)))) else (some (⟨#[]⟩ : ByteArray)))) = some r := h
  clear h
  replace H := Option.bind_eq_some_iff.mp H
  obtain ⟨t129, A30, H⟩ := H
  replace H : (if t129 = true then ((impl_isWord.f a0).bind fun t130 => (if t130 = true then (if 0 ≤ (wrap64 (4 * a1)) then (if (shr .i64 a0 (wrap64 (4 * a1))) > 0 then (some (⟨#[]⟩ : ByteArray)) else ((impl_hexDigits.f a0 a1).bind fun t131 => (if 1 + t131.size ≤ 9223372036854775807 then (some ((⟨#[36]⟩ : ByteArray) ++ t131)) else (none)))) else (none)) else (some (⟨#[]⟩ : ByteArray)))) else (some (⟨#[]⟩ : ByteArray))) = some r := H
  have A3 := Aside0.mk A30
  clear A30
  by_cases c4 : t129 = true
  · subst c4
    have H1 : ((impl_isWord.f a0).bind fun t130 => (if t130 = true then (if 0 ≤ (wrap64 (4 * a1)) then (if (shr .i64 a0 (wrap64 (4 * a1))) > 0 then (some (⟨#[]⟩ : ByteArray)) else ((impl_hexDigits.f a0 a1).bind fun t131 => (if 1 + t131.size ≤ 9223372036854775807 then (some ((⟨#[36]⟩ : ByteArray) ++ t131)) else (none)))) else (none)) else (some (⟨#[]⟩ : ByteArray)))) = some r := by rw [if_pos rfl] at H; exact H
    clear H
    have H := H1
    clear H1
    replace H := Option.bind_eq_some_iff.mp H
    obtain ⟨t130, A50, H⟩ := H
    replace H : (if t130 = true then (if 0 ≤ (wrap64 (4 * a1)) then (if (shr .i64 a0 (wrap64 (4 * a1))) > 0 then (some (⟨#[]⟩ : ByteArray)) else ((impl_hexDigits.f a0 a1).bind fun t131 => (if 1 + t131.size ≤ 9223372036854775807 then (some ((⟨#[36]⟩ : ByteArray) ++ t131)) else (none)))) else (none)) else (some (⟨#[]⟩ : ByteArray))) = some r := H
    have A5 := Aside0.mk A50
    clear A50
    by_cases c6 : t130 = true
    · subst c6
      have H1 : (if 0 ≤ (wrap64 (4 * a1)) then (if (shr .i64 a0 (wrap64 (4 * a1))) > 0 then (some (⟨#[]⟩ : ByteArray)) else ((impl_hexDigits.f a0 a1).bind fun t131 => (if 1 + t131.size ≤ 9223372036854775807 then (some ((⟨#[36]⟩ : ByteArray) ++ t131)) else (none)))) else (none)) = some r := by rw [if_pos rfl] at H; exact H
      clear H
      have H := H1
      clear H1
      obtain ⟨ji7, hji7⟩ : ∃ j_ : Int, (wrap64 (4 * a1)) = j_ := ⟨_, rfl⟩
      replace H : (if 0 ≤ (ji7) then (if (shr .i64 a0 (ji7)) > 0 then (some (⟨#[]⟩ : ByteArray)) else ((impl_hexDigits.f a0 a1).bind fun t131 => (if 1 + t131.size ≤ 9223372036854775807 then (some ((⟨#[36]⟩ : ByteArray) ++ t131)) else (none)))) else (none)) = some r := by first | (rw [hji7] at H; exact H) | (simp only [hji7] at H ⊢; exact H)
      (try rw [hji7] at A3)
      (try rw [hji7] at A5)
      have hji7w : (IntKind.i64.wrap (4 * a1)) = ji7 := (i64_w _).trans hji7
      by_cases c8 : 0 ≤ (ji7)
      · rw [if_pos c8] at H
        have c8b0 := eq_true c8
        have c8b1 : decide (0 ≤ (ji7)) = true := decide_eq_true c8
        clear c8
        obtain ⟨ji9, hji9⟩ : ∃ j_ : Int, (shr .i64 a0 (ji7)) = j_ := ⟨_, rfl⟩
        replace H : (if (ji9) > 0 then (some (⟨#[]⟩ : ByteArray)) else ((impl_hexDigits.f a0 a1).bind fun t131 => (if 1 + t131.size ≤ 9223372036854775807 then (some ((⟨#[36]⟩ : ByteArray) ++ t131)) else (none)))) = some r := by first | (rw [hji9] at H; exact H) | (simp only [hji9] at H ⊢; exact H)
        (try rw [hji9] at A3)
        (try rw [hji9] at A5)
        have hji9_ : (a0 / 2 ^ min (ji7).toNat 64) = ji9 := hji9
        have hji9z : (ji7) ≤ 64 → (a0 / 2 ^ (ji7).toNat) = ji9 := shr_small hji9
        by_cases c10 : (ji9) > 0
        · rw [if_pos c10] at H
          have c10b0 : decide (0 < (ji9)) = true := decide_eq_true c10
          clear c10
          obtain rfl := Option.some.inj H
          go_enter Tryd.func15, Tryd.ntmps15
          go_wp2_with (first | ((with_reducible refine gate_callee (f := 47) rfl ?_); refine goesL_ (some 6) rfl rfl Tryd.func47 (by kernel_rfl) rfl #[.int .i64 a1, .int .i64 1, .int .i64 4] rfl (by (try simp only [List.map_toArray, List.map_cons, List.map_nil]); first | done | rfl | (simp only [List.length_drop, List.length_take]; rfl)) ?_; (with_reducible refine (impl_within.calls a1 1 4 true _ A3.out).mono ?_); rintro e w' ⟨rfl, ⟨nd, rfl⟩⟩; refine ⟨_, rfl, ?_⟩) | (go_at_call 48; (with_reducible refine (impl_isWord.calls a0 true _ A5.out).mono ?_); rintro e w' ⟨rfl, ⟨nd, rfl⟩⟩))
          first | go_ret | ((try simp only [Exit.inBlock, Exit.then]); apply bodyPost_ret; (exact results_tmp rfl _ _ _); rfl)
          exact ⟨by first | rfl | (simp [errW_none, errW_some] <;> rfl) | (simp only [← hji7, ← hji9]; first | rfl | (simp [errW_none, errW_some] <;> rfl)) | (simp [*, errW_none, errW_some] <;> rfl), by repeat (first | (with_reducible first | exact HB.out | apply below_alloc | apply pw_below_drewN | apply below_drew1) | exact HB.out)⟩
        · rw [if_neg c10] at H
          have c10b0 : decide (0 < (ji9)) = false := decide_eq_false c10
          clear c10
          replace H := Option.bind_eq_some_iff.mp H
          obtain ⟨t131, A110, H⟩ := H
          replace H : (if 1 + t131.size ≤ 9223372036854775807 then (some ((⟨#[36]⟩ : ByteArray) ++ t131)) else (none)) = some r := H
          have A11 := Aside0.mk A110
          clear A110
          by_cases c12 : 1 + t131.size ≤ 9223372036854775807
          · rw [if_pos c12] at H
            have c12b0 := eq_true c12
            have c12b1 : decide (1 + t131.size ≤ 9223372036854775807) = true := decide_eq_true c12
            try have c12b2 : (9223372036854775807 < 1 + t131.size) = False := eq_false (Nat.not_lt.2 c12)
            obtain rfl := Option.some.inj H
            go_enter Tryd.func15, Tryd.ntmps15
            go_wp2_with (first | ((with_reducible refine gate_callee (f := 47) rfl ?_); refine goesL_ (some 6) rfl rfl Tryd.func47 (by kernel_rfl) rfl #[.int .i64 a1, .int .i64 1, .int .i64 4] rfl (by (try simp only [List.map_toArray, List.map_cons, List.map_nil]); first | done | rfl | (simp only [List.length_drop, List.length_take]; rfl)) ?_; (with_reducible refine (impl_within.calls a1 1 4 true _ A3.out).mono ?_); rintro e w' ⟨rfl, ⟨nd, rfl⟩⟩; refine ⟨_, rfl, ?_⟩) | (go_at_call 48; (with_reducible refine (impl_isWord.calls a0 true _ A5.out).mono ?_); rintro e w' ⟨rfl, ⟨nd, rfl⟩⟩) | ((with_reducible refine gate_callee (f := 49) rfl ?_); refine goesL_ (some 22) rfl rfl Tryd.func49 (by kernel_rfl) rfl #[.int .i64 a0, .int .i64 a1] rfl (by (try simp only [List.map_toArray, List.map_cons, List.map_nil]); first | done | rfl | (simp only [List.length_drop, List.length_take]; rfl)) ?_; (with_reducible refine (impl_hexDigits.calls a0 a1 t131 _ ?side1 A11.out).mono ?_); (case side1 => exact GW.below HG.out (by repeat (first | (with_reducible first | exact HB.out | apply below_alloc | apply pw_below_drewN | apply below_drew1) | exact HB.out))); rintro e w13 ⟨rfl, hb⟩; refine ⟨_, rfl, ?_⟩; have n0_ := Aside0.mk (below_step (by repeat (first | (with_reducible first | exact HB.out | apply below_alloc | apply pw_below_drewN | apply below_drew1) | exact HB.out)) hb); clear HB; have HB := n0_; clear n0_; (try clear hb); (try clear hb2); (try clear hk); (try clear hi)))
            first | go_ret | ((try simp only [Exit.inBlock, Exit.then]); apply bodyPost_ret; (exact results_tmp rfl _ _ _); rfl)
            exact ⟨by first | rfl | (simp [errW_none, errW_some] <;> rfl) | (simp only [← hji7, ← hji9]; first | rfl | (simp [errW_none, errW_some] <;> rfl)) | (simp [*, errW_none, errW_some] <;> rfl), by repeat (first | (with_reducible first | exact HB.out | apply below_alloc | apply pw_below_drewN | apply below_drew1) | exact HB.out)⟩
          · rw [if_neg c12] at H
            exact absurd H (by simp)
      · rw [if_neg c8] at H
        exact absurd H (by simp)
    · replace c6 := Bool.eq_false_iff.mpr c6
      subst c6
      have H1 : (some (⟨#[]⟩ : ByteArray)) = some r := by rw [if_neg (show ¬ (false = true) by decide)] at H; exact H
      clear H
      have H := H1
      clear H1
      obtain rfl := Option.some.inj H
      go_enter Tryd.func15, Tryd.ntmps15
      go_wp2_with (first | ((with_reducible refine gate_callee (f := 47) rfl ?_); refine goesL_ (some 6) rfl rfl Tryd.func47 (by kernel_rfl) rfl #[.int .i64 a1, .int .i64 1, .int .i64 4] rfl (by (try simp only [List.map_toArray, List.map_cons, List.map_nil]); first | done | rfl | (simp only [List.length_drop, List.length_take]; rfl)) ?_; (with_reducible refine (impl_within.calls a1 1 4 true _ A3.out).mono ?_); rintro e w' ⟨rfl, ⟨nd, rfl⟩⟩; refine ⟨_, rfl, ?_⟩) | (go_at_call 48; (with_reducible refine (impl_isWord.calls a0 false _ A5.out).mono ?_); rintro e w' ⟨rfl, ⟨nd, rfl⟩⟩))
      first | go_ret | ((try simp only [Exit.inBlock, Exit.then]); apply bodyPost_ret; (exact results_tmp rfl _ _ _); rfl)
      exact ⟨by first | rfl | (simp [errW_none, errW_some] <;> rfl) | (simp [*, errW_none, errW_some] <;> rfl), by repeat (first | (with_reducible first | exact HB.out | apply below_alloc | apply pw_below_drewN | apply below_drew1) | exact HB.out)⟩
  · replace c4 := Bool.eq_false_iff.mpr c4
    subst c4
    have H1 : (some (⟨#[]⟩ : ByteArray)) = some r := by rw [if_neg (show ¬ (false = true) by decide)] at H; exact H
    clear H
    have H := H1
    clear H1
    obtain rfl := Option.some.inj H
    go_enter Tryd.func15, Tryd.ntmps15
    go_wp2_with (first | ((with_reducible refine gate_callee (f := 47) rfl ?_); refine goesL_ (some 6) rfl rfl Tryd.func47 (by kernel_rfl) rfl #[.int .i64 a1, .int .i64 1, .int .i64 4] rfl (by (try simp only [List.map_toArray, List.map_cons, List.map_nil]); first | done | rfl | (simp only [List.length_drop, List.length_take]; rfl)) ?_; (with_reducible refine (impl_within.calls a1 1 4 false _ A3.out).mono ?_); rintro e w' ⟨rfl, ⟨nd, rfl⟩⟩; refine ⟨_, rfl, ?_⟩))
    first | go_ret | ((try simp only [Exit.inBlock, Exit.then]); apply bodyPost_ret; (exact results_tmp rfl _ _ _); rfl)
    exact ⟨by first | rfl | (simp [errW_none, errW_some] <;> rfl) | (simp [*, errW_none, errW_some] <;> rfl), by repeat (first | (with_reducible first | exact HB.out | apply below_alloc | apply pw_below_drewN | apply below_drew1) | exact HB.out)⟩

/-! ### strings_Split: function 67 -/
def strings_Split.f (a0 a1 : ByteArray) : Option (List ByteArray) := if a0.size < 4294967281 then (if 1 ≤ a1.size then some (Go.Lib.splitB a1 0 (Go.Lib.countB a0 a1) a0) else none) else none
open Go.Proofs.YtmiebnpmckjidaaDoor.Aid in
theorem strings_Split.calls (a0 a1 : ByteArray) (r : List ByteArray) (w : World) (hG : GW w) (h : strings_Split.f a0 a1 = some r) :
    Calls Tryd.prog 67 #[.string a0, .string a1] w fun e w' => ∃ v0_ : Value, e = .returned (v0_) ∧ Kd.R Kd.string 9 w' w.heap.size (fun _ => True) v0_ r ∧ Below w.heap.size w w' := by
  unfold strings_Split.f at h
  by_cases h0 : a0.size < 4294967281
  · by_cases h1 : 1 ≤ a1.size
    · rw [if_pos h0, if_pos h1] at h
      obtain rfl := Option.some.inj h
      obtain ⟨m, hm⟩ := hG.maxlen
      refine (Tryd.strings_Split a0 a1 m w h0 hm h1).mono ?_
      rintro e w' ⟨rfl, rfl⟩
      have hlen := Go.Lib.splitB_all a1 h1 0 _ a0 rfl
      have hle := Go.Lib.countB_le a1 h1 a0.size a0 (Nat.le_refl _)
      refine ⟨_, rfl, ?_, below_alloc (Below.refl _ _) _⟩
      have := R_of_cells (e := 9) (base := w.heap.size) (g := w.heap.size) (cap := Go.Lib.countB a0 a1 + 1) (W := w.alloc (.cells ((Go.Lib.splitB a1 0 (Go.Lib.countB a0 a1) a0).map Value.string).toArray 9)) (ok := fun _ => True) (cur := ((Go.Lib.splitB a1 0 (Go.Lib.countB a0 a1) a0).map Value.string).toArray) (Go.Lib.splitB a1 0 (Go.Lib.countB a0 a1) a0) (Nat.le_refl _) trivial (by show (w.heap.push _)[w.heap.size]? = _; rw [Array.getElem?_push_size]) (by omega) (by unfold maxLen; omega) (by simp [hlen]) (by rw [List.take_of_length_le (by simp)])
      rw [hlen] at this
      exact this
    · rw [if_pos h0, if_neg h1] at h
      cases h
  · rw [if_neg h0] at h
    cases h

/-! ### impl_names: function 107 -/
def impl_names.f (a0 : ByteArray) : Option (List ByteArray) := (strings_Split.f a0 (⟨#[32]⟩ : ByteArray)).bind fun t132 => (some t132)
set_option maxHeartbeats 8000000 in
set_option maxRecDepth 100000 in
theorem impl_names.calls (a0 : ByteArray) (r : List ByteArray) (w : World) (hG : GW w) (h : impl_names.f a0 = some r) :
    Calls Tryd.prog 107 #[.string a0] w fun e w' => ∃ v0_ : Value, e = .returned (v0_) ∧ Kd.R Kd.string 9 w' w.heap.size (fun _ => True) v0_ r ∧ Below w.heap.size w w' := by
  have HB := Aside0.mk (Below.refl w.heap.size w)
  have HG := Aside0.mk hG
  clear hG
  have H : ((strings_Split.f a0 (⟨#[32]⟩ : ByteArray)).bind fun t132 => (some t132)) = some r := h
  clear h
  replace H := Option.bind_eq_some_iff.mp H
  obtain ⟨t132, A20, H⟩ := H
  replace H : (some t132) = some r := H
  have A2 := Aside0.mk A20
  clear A20
  obtain rfl := Option.some.inj H
  go_enter Tryd.func107, Tryd.ntmps107
  go_wp2_with (first | ((with_reducible refine gate_callee (f := 67) rfl ?_); refine goesL_ (some 4) rfl rfl Tryd.func67 (by kernel_rfl) rfl #[.string a0, .string (⟨#[32]⟩ : ByteArray)] rfl (by (try simp only [List.map_toArray, List.map_cons, List.map_nil]); first | done | rfl | (simp only [List.length_drop, List.length_take]; rfl)) ?_; (with_reducible refine (strings_Split.calls a0 (⟨#[32]⟩ : ByteArray) t132 _ ?side1 A2.out).mono ?_); (case side1 => exact GW.below HG.out (by repeat (first | (with_reducible first | exact HB.out | apply below_alloc | apply pw_below_drewN | apply below_drew1) | exact HB.out))); rintro e w3 ⟨v133, rfl, ho0, hb⟩; refine ⟨_, rfl, ?_⟩; have n0_ := Aside0.mk (Kd.R_lower ho0 (below_size (by repeat (first | (with_reducible first | exact HB.out | apply below_alloc | apply pw_below_drewN | apply below_drew1) | exact HB.out)))); have n1_ := Aside0.mk (below_step (by repeat (first | (with_reducible first | exact HB.out | apply below_alloc | apply pw_below_drewN | apply below_drew1) | exact HB.out)) hb); clear HB; have HO134 := n0_; have HB := n1_; clear n0_ n1_; (try clear hb); (try clear hb2); (try clear hk); (try clear hi); (try clear ho0)))
  first | go_ret | ((try simp only [Exit.inBlock, Exit.then]); apply bodyPost_ret; (exact results_tmp rfl _ _ _); rfl)
  exact ⟨_, by first | rfl | (simp [errW_none, errW_some] <;> rfl) | (simp [*, errW_none, errW_some] <;> rfl), by (with_reducible repeat (first | apply Kd.R_alloc | apply Kd.R_drewN | apply Kd.R_drew)); exact HO134.out, by repeat (first | (with_reducible first | exact HB.out | apply below_alloc | apply pw_below_drewN | apply below_drew1) | exact HB.out)⟩

/-! ### impl_alus: function 63 -/
def impl_alus.f  : Option (List ByteArray) := (impl_names.f (⟨#[97, 100, 100, 32, 97, 100, 99, 32, 115, 117, 98, 32, 115, 98, 99, 32, 97, 110, 100, 32, 120, 111, 114, 32, 111, 114, 32, 99, 112]⟩ : ByteArray)).bind fun t135 => (some t135)
set_option maxHeartbeats 8000000 in
set_option maxRecDepth 100000 in
theorem impl_alus.calls  (r : List ByteArray) (w : World) (hG : GW w) (h : impl_alus.f  = some r) :
    Calls Tryd.prog 63 #[] w fun e w' => ∃ v0_ : Value, e = .returned (v0_) ∧ Kd.R Kd.string 9 w' w.heap.size (fun _ => True) v0_ r ∧ Below w.heap.size w w' := by
  have HB := Aside0.mk (Below.refl w.heap.size w)
  have HG := Aside0.mk hG
  clear hG
  have H : ((impl_names.f (⟨#[97, 100, 100, 32, 97, 100, 99, 32, 115, 117, 98, 32, 115, 98, 99, 32, 97, 110, 100, 32, 120, 111, 114, 32, 111, 114, 32, 99, 112]⟩ : ByteArray)).bind fun t135 => (some t135)) = some r := h
  clear h
  replace H := Option.bind_eq_some_iff.mp H
  obtain ⟨t135, A10, H⟩ := H
  replace H : (some t135) = some r := H
  have A1 := Aside0.mk A10
  clear A10
  obtain rfl := Option.some.inj H
  go_enter Tryd.func63, Tryd.ntmps63
  go_wp2_with (first | ((with_reducible refine gate_callee (f := 107) rfl ?_); refine goesL_ (some 1) rfl rfl Tryd.func107 (by kernel_rfl) rfl #[.string (⟨#[97, 100, 100, 32, 97, 100, 99, 32, 115, 117, 98, 32, 115, 98, 99, 32, 97, 110, 100, 32, 120, 111, 114, 32, 111, 114, 32, 99, 112]⟩ : ByteArray)] rfl (by (try simp only [List.map_toArray, List.map_cons, List.map_nil]); first | done | rfl | (simp only [List.length_drop, List.length_take]; rfl)) ?_; (with_reducible refine (impl_names.calls (⟨#[97, 100, 100, 32, 97, 100, 99, 32, 115, 117, 98, 32, 115, 98, 99, 32, 97, 110, 100, 32, 120, 111, 114, 32, 111, 114, 32, 99, 112]⟩ : ByteArray) t135 _ ?side1 A1.out).mono ?_); (case side1 => exact GW.below HG.out (by repeat (first | (with_reducible first | exact HB.out | apply below_alloc | apply pw_below_drewN | apply below_drew1) | exact HB.out))); rintro e w2 ⟨v136, rfl, ho0, hb⟩; refine ⟨_, rfl, ?_⟩; have n0_ := Aside0.mk (Kd.R_lower ho0 (below_size (by repeat (first | (with_reducible first | exact HB.out | apply below_alloc | apply pw_below_drewN | apply below_drew1) | exact HB.out)))); have n1_ := Aside0.mk (below_step (by repeat (first | (with_reducible first | exact HB.out | apply below_alloc | apply pw_below_drewN | apply below_drew1) | exact HB.out)) hb); clear HB; have HO137 := n0_; have HB := n1_; clear n0_ n1_; (try clear hb); (try clear hb2); (try clear hk); (try clear hi); (try clear ho0)))
  first | go_ret | ((try simp only [Exit.inBlock, Exit.then]); apply bodyPost_ret; (exact results_tmp rfl _ _ _); rfl)
  exact ⟨_, by first | rfl | (simp [errW_none, errW_some] <;> rfl) | (simp [*, errW_none, errW_some] <;> rfl), by (with_reducible repeat (first | apply Kd.R_alloc | apply Kd.R_drewN | apply Kd.R_drew)); exact HO137.out, by repeat (first | (with_reducible first | exact HB.out | apply below_alloc | apply pw_below_drewN | apply below_drew1) | exact HB.out)⟩

/-! ### impl_conds: function 109 -/
def impl_conds.f  : Option (List ByteArray) := (impl_names.f (⟨#[110, 122, 32, 122, 32, 110, 99, 32, 99]⟩ : ByteArray)).bind fun t138 => (some t138)
set_option maxHeartbeats 8000000 in
set_option maxRecDepth 100000 in
theorem impl_conds.calls  (r : List ByteArray) (w : World) (hG : GW w) (h : impl_conds.f  = some r) :
    Calls Tryd.prog 109 #[] w fun e w' => ∃ v0_ : Value, e = .returned (v0_) ∧ Kd.R Kd.string 9 w' w.heap.size (fun _ => True) v0_ r ∧ Below w.heap.size w w' := by
  have HB := Aside0.mk (Below.refl w.heap.size w)
  have HG := Aside0.mk hG
  clear hG
  have H : ((impl_names.f (⟨#[110, 122, 32, 122, 32, 110, 99, 32, 99]⟩ : ByteArray)).bind fun t138 => (some t138)) = some r := h
  clear h
  replace H := Option.bind_eq_some_iff.mp H
  obtain ⟨t138, A10, H⟩ := H
  replace H : (some t138) = some r := H
  have A1 := Aside0.mk A10
  clear A10
  obtain rfl := Option.some.inj H
  go_enter Tryd.func109, Tryd.ntmps109
  go_wp2_with (first | ((with_reducible refine gate_callee (f := 107) rfl ?_); refine goesL_ (some 1) rfl rfl Tryd.func107 (by kernel_rfl) rfl #[.string (⟨#[110, 122, 32, 122, 32, 110, 99, 32, 99]⟩ : ByteArray)] rfl (by (try simp only [List.map_toArray, List.map_cons, List.map_nil]); first | done | rfl | (simp only [List.length_drop, List.length_take]; rfl)) ?_; (with_reducible refine (impl_names.calls (⟨#[110, 122, 32, 122, 32, 110, 99, 32, 99]⟩ : ByteArray) t138 _ ?side1 A1.out).mono ?_); (case side1 => exact GW.below HG.out (by repeat (first | (with_reducible first | exact HB.out | apply below_alloc | apply pw_below_drewN | apply below_drew1) | exact HB.out))); rintro e w2 ⟨v139, rfl, ho0, hb⟩; refine ⟨_, rfl, ?_⟩; have n0_ := Aside0.mk (Kd.R_lower ho0 (below_size (by repeat (first | (with_reducible first | exact HB.out | apply below_alloc | apply pw_below_drewN | apply below_drew1) | exact HB.out)))); have n1_ := Aside0.mk (below_step (by repeat (first | (with_reducible first | exact HB.out | apply below_alloc | apply pw_below_drewN | apply below_drew1) | exact HB.out)) hb); clear HB; have HO140 := n0_; have HB := n1_; clear n0_ n1_; (try clear hb); (try clear hb2); (try clear hk); (try clear hi); (try clear ho0)))
  first | go_ret | ((try simp only [Exit.inBlock, Exit.then]); apply bodyPost_ret; (exact results_tmp rfl _ _ _); rfl)
  exact ⟨_, by first | rfl | (simp [errW_none, errW_some] <;> rfl) | (simp [*, errW_none, errW_some] <;> rfl), by (with_reducible repeat (first | apply Kd.R_alloc | apply Kd.R_drewN | apply Kd.R_drew)); exact HO140.out, by repeat (first | (with_reducible first | exact HB.out | apply below_alloc | apply pw_below_drewN | apply below_drew1) | exact HB.out)⟩

end Go.Proofs.YtmiebnpmckjidaaDoor.PFnExactTemplateOf
